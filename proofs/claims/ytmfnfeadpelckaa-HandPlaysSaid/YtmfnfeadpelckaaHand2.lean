/- More contracts of package hand. -/
import Derived.Test.YtmfnfeadpelckaaHand
namespace Go.Proofs.Ytmfnfeadpelckaa
open Go.RowKit
section
variable {bh g n : Nat} {st ct : Int} {sn : Bool} {own : Nat → Int} {S : Nat → Prop} {w w' : World}
theorem hnd_put (i : Nat) (v : Value) (st' : Int) (sn' : Bool) (he : (#[.int .i64 st, .bool sn, .slice (some ⟨g, 0, none⟩) n n, .int .i64 ct] : Array Value).setIfInBounds i v = #[.int .i64 st', .bool sn', .slice (some ⟨g, 0, none⟩) n n, .int .i64 ct])
    (h : (Hnd bh g n st sn own ct).at_ S w) : Goes (Hnd bh g n st' sn' own ct) S w (w.setCell ⟨bh, i, none⟩ v) :=
  goesL (fun _ h => by have := var_set h i v; rw [he] at this; exact this) S h
set_option maxHeartbeats 800000 in
theorem hand_post (x : Int) (fl : Bool) (hx : 0 ≤ x) (hx4 : x ≤ 4) (h0 : 0 ≤ ct) (h1 : ct ≤ 1000000) (h : (Hnd bh g n st sn own ct).at_ S w) :
    Calls Try.prog 11 #[.pointer (some ⟨bh, 0, none⟩), .int .i64 x, .bool fl] w fun e w' => e = .returned (.bool true) ∧ Goes (Hnd bh g n x (sn != fl) own (ct + 1)) S w w' := by
  obtain ⟨-, c1, -, c3, f⟩ := hnd_cells h
  have f3 := f 3
  have f0 := f 0
  have f1 := f 1
  have g1 := hnd_count h
  have HK := Lib.hid (hand_known (w := w.setCell ⟨bh, 3, none⟩ (.int .i64 (ct + 1))) x)
  rw [decide_eq_true ⟨hx, hx4⟩] at HK
  have g2 := g1.then fun S h => hnd_put 0 (.int .i64 x) x sn rfl h
  obtain ⟨d0, -, -, -, d5⟩ := hnd_cells g1.now.choose_spec.1
  obtain ⟨-, d1, -, -, d6⟩ := hnd_cells g2.now.choose_spec.1
  have d5 := d5 0
  have d6 := d6 1
  have HG := Lib.hid (g2.then fun S h => hnd_put 1 (.bool (sn != fl)) x (sn != fl) rfl h)
  clear g1 g2 h f
  go_enter Try.func11, Try.ntmps11
  go_wp2_with fail
  with_reducible refine HK.out.mono ?_
  rintro e w' ⟨rfl, rfl⟩
  clear HK
  go_wp2_with fail
  go_ret
  exact ⟨rfl, HG.out⟩
set_option maxHeartbeats 800000 in
theorem hand_post_no (x : Int) (fl : Bool) (hx : ¬ (0 ≤ x ∧ x ≤ 4)) (h0 : 0 ≤ ct) (h1 : ct ≤ 1000000) (h : (Hnd bh g n st sn own ct).at_ S w) :
    Calls Try.prog 11 #[.pointer (some ⟨bh, 0, none⟩), .int .i64 x, .bool fl] w fun e w' => e = .returned (.bool false) ∧ Goes (Hnd bh g n st sn own (ct + 1)) S w w' := by
  obtain ⟨-, c1, -, c3, f⟩ := hnd_cells h
  have f3 := f 3
  have g1 := hnd_count h
  have HK := Lib.hid (hand_known (w := w.setCell ⟨bh, 3, none⟩ (.int .i64 (ct + 1))) x)
  rw [decide_eq_false hx] at HK
  have HG := Lib.hid g1
  clear g1 h f hx
  go_enter Try.func11, Try.ntmps11
  go_wp2_with fail
  with_reducible refine HK.out.mono ?_
  rintro e w' ⟨rfl, rfl⟩
  clear HK
  go_wp2_with fail
  go_ret
  exact ⟨rfl, HG.out⟩
set_option maxHeartbeats 800000 in
theorem hand_look (h0 : 0 ≤ ct) (h1 : ct ≤ 1000000) (h : (Hnd bh g n st sn own ct).at_ S w) :
    Calls Try.prog 14 #[.pointer (some ⟨bh, 0, none⟩)] w fun e w' => e = .returned (.tuple #[.int .i64 st, .bool sn]) ∧ Goes (Hnd bh g n st sn own (ct + 1)) S w w' := by
  obtain ⟨-, -, -, c3, f⟩ := hnd_cells h
  have f3 := f 3
  have g1 := hnd_count h
  obtain ⟨d0, d1, -, -, -⟩ := hnd_cells g1.now.choose_spec.1
  have HG := Lib.hid g1
  clear g1 h f
  go_enter Try.func14, Try.ntmps14
  go_wp2_with fail
  go_quiet (fail)
  go_wp2_with fail
  go_ret2
  exact ⟨rfl, HG.out.then fun S h => drewN_goes h _⟩
set_option maxHeartbeats 800000 in
theorem hand_answer (k : Nat) (x : Int) (hk : k < n) (hn : n ≤ 16) (ho : own k ≠ -1) (hx : 0 ≤ x) (hx4 : x ≤ 4) (h0 : 0 ≤ ct) (h1 : ct ≤ 1000000) (h : (Hnd bh g n st sn own ct).at_ S w) :
    Calls Try.prog 12 #[.pointer (some ⟨bh, 0, none⟩), .int .i64 (k : Int), .int .i64 x] w fun e w' => e = .returned (.bool true) ∧ Goes (Hnd bh g n st sn (setI own k x) (ct + 1)) S w w' := by
  obtain ⟨-, -, -, c3, f⟩ := hnd_cells h
  have f3 := f 3
  have g1 := hnd_count h
  obtain ⟨-, -, d2, -, -⟩ := hnd_cells g1.now.choose_spec.1
  obtain ⟨d4, d5⟩ := hnd_own g1.now.choose_spec.1 hk
  have HS := Lib.hid (g1.look fun S h => hand_status_in k hk hn h)
  have HK := Lib.hid (hand_known (w := w.setCell ⟨bh, 3, none⟩ (.int .i64 (ct + 1))) x)
  rw [decide_eq_true ⟨hx, hx4⟩] at HK
  have HG := Lib.hid (g1.then fun S h => hnd_set (j := k) x h)
  clear g1 h f
  generalize own k = y at *
  go_enter Try.func12, Try.ntmps12
  go_wp2_with fail
  with_reducible refine HS.out.mono ?_
  rintro e w' ⟨rfl, rfl⟩
  clear HS
  go_wp2_with fail
  with_reducible refine HK.out.mono ?_
  rintro e w' ⟨rfl, rfl⟩
  clear HK
  go_wp2_with fail
  go_ret
  exact ⟨rfl, HG.out⟩
set_option maxHeartbeats 800000 in
theorem hand_answer_no (i x : Int) (hn : n ≤ 16) (hno : hSt n own i = -1 ∨ ¬ (0 ≤ x ∧ x ≤ 4)) (h0 : 0 ≤ ct) (h1 : ct ≤ 1000000) (h : (Hnd bh g n st sn own ct).at_ S w) :
    Calls Try.prog 12 #[.pointer (some ⟨bh, 0, none⟩), .int .i64 i, .int .i64 x] w fun e w' => e = .returned (.bool false) ∧ Goes (Hnd bh g n st sn own (ct + 1)) S w w' := by
  obtain ⟨-, -, -, c3, f⟩ := hnd_cells h
  have f3 := f 3
  have g1 := hnd_count h
  have HS := Lib.hid (g1.look fun S h => hand_status i hn h)
  have HK := Lib.hid (hand_known (w := w.setCell ⟨bh, 3, none⟩ (.int .i64 (ct + 1))) x)
  have HG := Lib.hid g1
  clear g1 h f
  generalize hSt n own i = y at *
  by_cases hy : y = -1
  · subst hy
    clear hno HK
    go_enter Try.func12, Try.ntmps12
    go_wp2_with fail
    with_reducible refine HS.out.mono ?_
    rintro e w' ⟨rfl, rfl⟩
    clear HS
    go_wp2_with fail
    go_ret
    exact ⟨rfl, HG.out⟩
  · rw [decide_eq_false (hno.resolve_left hy)] at HK
    clear hno
    go_enter Try.func12, Try.ntmps12
    go_wp2_with fail
    with_reducible refine HS.out.mono ?_
    rintro e w' ⟨rfl, rfl⟩
    clear HS
    go_wp2_with fail
    with_reducible refine HK.out.mono ?_
    rintro e w' ⟨rfl, rfl⟩
    clear HK
    go_wp2_with fail
    go_ret
    exact ⟨rfl, HG.out⟩
set_option maxHeartbeats 800000 in
theorem hand_leave (k : Nat) (hk : k < n) (hn : n ≤ 16) (ho : own k ≠ -1) (h0 : 0 ≤ ct) (h1 : ct ≤ 1000000) (h : (Hnd bh g n st sn own ct).at_ S w) :
    Calls Try.prog 15 #[.pointer (some ⟨bh, 0, none⟩), .int .i64 (k : Int)] w fun e w' => e = .returned (.bool true) ∧ Goes (Hnd bh g n st sn (setI own k (-1)) (ct + 1)) S w w' := by
  obtain ⟨-, -, -, c3, f⟩ := hnd_cells h
  have f3 := f 3
  have g1 := hnd_count h
  obtain ⟨-, -, d2, -, -⟩ := hnd_cells g1.now.choose_spec.1
  obtain ⟨d4, d5⟩ := hnd_own g1.now.choose_spec.1 hk
  have HS := Lib.hid (g1.look fun S h => hand_status_in k hk hn h)
  have HG := Lib.hid (g1.then fun S h => hnd_set (j := k) (-1) h)
  clear g1 h f
  generalize own k = y at *
  go_enter Try.func15, Try.ntmps15
  go_wp2_with fail
  with_reducible refine HS.out.mono ?_
  rintro e w' ⟨rfl, rfl⟩
  clear HS
  go_wp2_with fail
  go_ret
  exact ⟨rfl, HG.out⟩
set_option maxHeartbeats 800000 in
theorem hand_leave_no (i : Int) (hn : n ≤ 16) (hno : hSt n own i = -1) (h0 : 0 ≤ ct) (h1 : ct ≤ 1000000) (h : (Hnd bh g n st sn own ct).at_ S w) :
    Calls Try.prog 15 #[.pointer (some ⟨bh, 0, none⟩), .int .i64 i] w fun e w' => e = .returned (.bool false) ∧ Goes (Hnd bh g n st sn own (ct + 1)) S w w' := by
  obtain ⟨-, -, -, c3, f⟩ := hnd_cells h
  have f3 := f 3
  have g1 := hnd_count h
  have HS := Lib.hid (g1.look fun S h => hand_status i hn h)
  rw [hno] at HS
  have HG := Lib.hid g1
  clear g1 h f hno
  go_enter Try.func15, Try.ntmps15
  go_wp2_with fail
  with_reducible refine HS.out.mono ?_
  rintro e w' ⟨rfl, rfl⟩
  clear HS
  go_wp2_with fail
  go_ret
  exact ⟨rfl, HG.out⟩
set_option maxHeartbeats 1600000 in
theorem hand_join (k : Nat) (hk : k < n) (_hn : n ≤ 16) (ho : own k = -1) (h0 : 0 ≤ ct) (h1 : ct ≤ 1000000) (h : (Hnd bh g n st sn own ct).at_ S w) :
    Calls Try.prog 9 #[.pointer (some ⟨bh, 0, none⟩), .int .i64 (k : Int)] w fun e w' => e = .returned (.tuple #[.int .i64 st, .bool sn, .bool true]) ∧ Goes (Hnd bh g n st sn (setI own k st) (ct + 1)) S w w' := by
  obtain ⟨-, -, -, c3, f⟩ := hnd_cells h
  have f3 := f 3
  have g1 := hnd_count h
  obtain ⟨d0, -, d2, -, -⟩ := hnd_cells g1.now.choose_spec.1
  obtain ⟨d4, d5⟩ := hnd_own g1.now.choose_spec.1 hk
  have HG := Lib.hid g1
  clear g1 h f
  rw [ho] at d4
  go_enter Try.func9, Try.ntmps9
  go_wp2_with fail
  have G1 := HG.out
  generalize w.setCell ⟨bh, 3, none⟩ (.int .i64 (ct + 1)) = W1 at *
  have g2 := G1.then fun S h => (hnd_set (j := k) st h).then fun S h => drew_goes h
  clear G1 HG
  go_still_tail 10, (by kernel_rfl)
  change wpList _ _ _ _ _ W1.drew
  go_upto_region 5 with fail
  obtain ⟨e0, e1, -, -, -⟩ := hnd_cells g2.now.choose_spec.1
  have HG := Lib.hid g2
  clear g2 d0 d2 d4 d5 c3 f3
  generalize (W1.setCell ⟨g, k, none⟩ (.int .i64 st)).drew = W2 at *
  go_wp2_with fail
  go_quiet (fail)
  go_wp2_with fail
  go_ret3
  exact ⟨rfl, HG.out.then fun S h => drewN_goes h _⟩
set_option maxHeartbeats 800000 in
theorem hand_join_no (k : Nat) (hk : k < n) (_hn : n ≤ 16) (ho : own k ≠ -1) (h0 : 0 ≤ ct) (h1 : ct ≤ 1000000) (h : (Hnd bh g n st sn own ct).at_ S w) :
    Calls Try.prog 9 #[.pointer (some ⟨bh, 0, none⟩), .int .i64 (k : Int)] w fun e w' => e = .returned (.tuple #[.int .i64 0, .bool false, .bool false]) ∧ Goes (Hnd bh g n st sn own (ct + 1)) S w w' := by
  obtain ⟨-, -, -, c3, f⟩ := hnd_cells h
  have f3 := f 3
  have g1 := hnd_count h
  obtain ⟨d0, -, d2, -, -⟩ := hnd_cells g1.now.choose_spec.1
  obtain ⟨d4, d5⟩ := hnd_own g1.now.choose_spec.1 hk
  have HG := Lib.hid g1
  clear g1 h f
  generalize own k = y at *
  have y1 : (y == -1) = false := by simpa using ho
  have y2 : (y != -1) = true := by simpa using ho
  go_enter Try.func9, Try.ntmps9
  go_wp2_with fail
  go_ret3
  exact ⟨rfl, HG.out⟩
end
end Go.Proofs.Ytmfnfeadpelckaa
