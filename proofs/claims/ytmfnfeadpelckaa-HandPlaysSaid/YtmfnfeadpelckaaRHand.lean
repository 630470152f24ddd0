/- The contracts of the document's hands. -/
import Derived.Test.YtmfnfeadpelckaaHand3
import Derived.OwnWalk
import Derived.IntWalk
namespace Go.Proofs.Ytmfnfeadpelckaa
open Go.RowKit
set_option linter.unusedVariables false

theorem slice_of_owns {w : World} {base : Nat} {e : TypeId} {v : Value} {n : Nat} {xs : List Value} (h : w.ownsRow base e 1 v n xs) : ∃ a cap, v = .slice a n cap ∧ n ≤ cap ∧ cap ≤ maxLen := by
  rcases h.2 with ⟨rfl, rfl⟩ | ⟨g, cap, cur, rfl, _, _, h1, h2, _⟩
  · exact ⟨none, 0, rfl, Nat.le_refl _, Nat.zero_le _⟩
  · exact ⟨some ⟨g, 0, none⟩, cap, rfl, h1, h2⟩
/-- A block that begins with a row of ints. -/
def intcAt (q n : Nat) (t : TypeId) (m : Nat → Int) (S : Nat → Prop) (w : World) : Prop := ∃ cs, Blk w q cs t ∧ n ≤ cs.size ∧ (∀ j, j < n → cs[j]? = some (.int .i64 (m j))) ∧ S q ∧ ∀ k, S k → k = q
def Intc (q n : Nat) (t : TypeId) (m : Nat → Int) : Thing where
  at_ := intcAt q n t m
  lt := fun ⟨_, h1, _, _, _, h3⟩ k hk => by rw [h3 k hk]; exact h1.lt
  kept := fun ⟨cs, h1, a, b, h2, h3⟩ hk _ => ⟨cs, by unfold Blk at *; rw [hk q h2]; exact h1, a, b, h2, h3⟩
theorem intc_set {q n : Nat} {t : TypeId} {m : Nat → Int} {S : Nat → Prop} {w : World} (h : (Intc q n t m).at_ S w) (j : Nat) (x : Int) : Goes (Intc q n t (setI m j x)) S w (w.setCell ⟨q, j, none⟩ (.int .i64 x)) := by
  obtain ⟨cs, h1, h2, h3, h4, h5⟩ := h
  refine ⟨⟨S, ⟨_, h1.set j (.int .i64 x), by simpa using h2, fun k hk => ?_, h4, h5⟩, fun _ h => .inl h⟩, (Turned.refl S w).setCell (.inl h4) _⟩
  by_cases e : k = j
  · subst e
    have : k < cs.size := by omega
    simp [setI, this]
  · rw [Array.getElem?_setIfInBounds_ne (by omega)]; simp only [setI, e, if_false]; exact h3 k hk

/-- The document's hands: the struct, and each thread's own status. -/
def RHnd (bh g n c : Nat) (st : Int) (sn : Bool) (own : Nat → Int) (ct : Int) : Thing :=
  Sep (Var bh #[.int .i64 st, .bool sn, .slice (some ⟨g, 0, none⟩) n c, .int .i64 ct] 50) (Intc g n 3 own)
/-- No status is below -1. -/
def NoLess (own : Nat → Int) : Prop := ∀ j, -1 ≤ own j
theorem NoLess.set {own : Nat → Int} (h : NoLess own) {j : Nat} {x : Int} (hx : -1 ≤ x) : NoLess (setI own j x) := by
  intro k; unfold setI; split
  · exact hx
  · exact h k
theorem NoLess.hSt {n : Nat} {own : Nat → Int} (h : NoLess own) (i : Int) : -1 ≤ hSt n own i := by
  unfold Ytmfnfeadpelckaa.hSt; split
  · exact h _
  · omega

section
variable {bh g n c : Nat} {st ct : Int} {sn : Bool} {own : Nat → Int} {S : Nat → Prop} {w w' : World}
theorem rhnd_cells (h : (RHnd bh g n c st sn own ct).at_ S w) : w.cell? ⟨bh, 0, none⟩ = some (.int .i64 st) ∧ w.cell? ⟨bh, 1, none⟩ = some (.bool sn) ∧ w.cell? ⟨bh, 2, none⟩ = some (.slice (some ⟨g, 0, none⟩) n c) ∧ w.cell? ⟨bh, 3, none⟩ = some (.int .i64 ct) ∧
    ∀ i, w.frozen? ⟨bh, i, none⟩ = false := by
  obtain ⟨_, _, h, _⟩ := h
  have h := h.1
  exact ⟨by rw [h.cell]; rfl, by rw [h.cell]; rfl, by rw [h.cell]; rfl, by rw [h.cell]; rfl, h.free⟩
theorem rhnd_own (h : (RHnd bh g n c st sn own ct).at_ S w) {j : Nat} (hj : j < n) : w.cell? ⟨g, j, none⟩ = some (.int .i64 (own j)) ∧ w.frozen? ⟨g, j, none⟩ = false := by
  obtain ⟨_, _, _, ⟨cs, h1, h2, h3, _⟩, _⟩ := h
  exact ⟨by rw [h1.cell]; exact h3 j hj, h1.free j⟩
theorem rhnd_count (h : (RHnd bh g n c st sn own ct).at_ S w) : Goes (RHnd bh g n c st sn own (ct + 1)) S w (w.setCell ⟨bh, 3, none⟩ (.int .i64 (ct + 1))) :=
  goesL (fun _ h => var_set h 3 (.int .i64 (ct + 1))) S h
theorem rhnd_set {j : Nat} (x : Int) (h : (RHnd bh g n c st sn own ct).at_ S w) : Goes (RHnd bh g n c st sn (setI own j x) ct) S w (w.setCell ⟨g, j, none⟩ (.int .i64 x)) :=
  goesR (fun _ h => intc_set h j x) S h
theorem rhnd_put (i : Nat) (v : Value) (st' : Int) (sn' : Bool) (he : (#[.int .i64 st, .bool sn, .slice (some ⟨g, 0, none⟩) n c, .int .i64 ct] : Array Value).setIfInBounds i v = #[.int .i64 st', .bool sn', .slice (some ⟨g, 0, none⟩) n c, .int .i64 ct])
    (h : (RHnd bh g n c st sn own ct).at_ S w) : Goes (RHnd bh g n c st' sn' own ct) S w (w.setCell ⟨bh, i, none⟩ v) :=
  goesL (fun _ h => by have := var_set h i v; rw [he] at this; exact this) S h

set_option maxHeartbeats 400000 in
theorem rhand_status_in (k : Nat) (hk : k < n) (hn : n ≤ 16) (h : (RHnd bh g n c st sn own ct).at_ S w) :
    Calls Try.prog 24 #[.pointer (some ⟨bh, 0, none⟩), .int .i64 (k : Int)] w fun e w' => e = .returned (.int .i64 (own k)) ∧ w = w' := by
  obtain ⟨-, -, c2, -, -⟩ := rhnd_cells h
  obtain ⟨c4, -⟩ := rhnd_own h hk
  clear h
  go_enter Try.func24, Try.ntmps24
  go_wp2_with fail
  go_ret
  exact ⟨rfl, rfl⟩
set_option maxHeartbeats 400000 in
theorem rhand_status_out (i : Int) (hi : ¬ tIn n i) (h : (RHnd bh g n c st sn own ct).at_ S w) :
    Calls Try.prog 24 #[.pointer (some ⟨bh, 0, none⟩), .int .i64 i] w fun e w' => e = .returned (.int .i64 (-1)) ∧ w = w' := by
  obtain ⟨-, -, c2, -, -⟩ := rhnd_cells h
  clear h
  unfold tIn at hi
  by_cases h0 : i < 0
  · clear hi
    go_enter Try.func24, Try.ntmps24
    go_wp2_with fail
    go_ret
    exact ⟨rfl, rfl⟩
  · have h1 : (n : Int) ≤ i := by omega
    have hd : decide (i < (n : Int)) = false := by simp; omega
    clear hi
    go_enter Try.func24, Try.ntmps24
    go_wp2_with fail
    go_ret
    exact ⟨rfl, rfl⟩
theorem rhand_status (i : Int) (hn : n ≤ 16) (h : (RHnd bh g n c st sn own ct).at_ S w) :
    Calls Try.prog 24 #[.pointer (some ⟨bh, 0, none⟩), .int .i64 i] w fun e w' => e = .returned (.int .i64 (hSt n own i)) ∧ w = w' := by
  by_cases hi : tIn n i
  · obtain ⟨k, rfl⟩ : ∃ k : Nat, i = (k : Int) := ⟨i.toNat, by have := hi.1; omega⟩
    have hk : k < n := by have := hi.2; omega
    rw [hSt_in hk]
    exact rhand_status_in k hk hn h
  · rw [hSt_out hi]; exact rhand_status_out i hi h
theorem rhand_none (x : Int) : Calls Try.prog 26 #[.int .i64 x] w fun e w' => e = .returned (.bool (!decide (0 ≤ x ∧ x ≤ 4))) ∧ w = w' := by
  by_cases h0 : x < 0
  · rw [decide_eq_false (fun h => by omega)]
    go_enter Try.func26, Try.ntmps26
    go_wp2_with fail
    go_ret
    exact ⟨rfl, rfl⟩
  · by_cases h1 : 4 < x
    · rw [decide_eq_false (fun h => by omega)]
      go_enter Try.func26, Try.ntmps26
      go_wp2_with fail
      go_ret
      exact ⟨rfl, rfl⟩
    · rw [decide_eq_true (by omega)]
      have h2 : decide (4 < x) = false := by simpa using h1
      go_enter Try.func26, Try.ntmps26
      go_wp2_with fail
      go_ret
      exact ⟨by first | rfl | (show Ending.returned (.bool _) = _; rw [h2]; rfl), rfl⟩
set_option maxHeartbeats 800000 in
theorem rhand_post (x : Int) (fl : Bool) (hx : 0 ≤ x) (hx4 : x ≤ 4) (h0 : 0 ≤ ct) (h1 : ct ≤ 1000000) (h : (RHnd bh g n c st sn own ct).at_ S w) :
    Calls Try.prog 18 #[.pointer (some ⟨bh, 0, none⟩), .int .i64 x, .bool fl] w fun e w' => e = .returned (.bool true) ∧ Goes (RHnd bh g n c x (sn != fl) own (ct + 1)) S w w' := by
  obtain ⟨-, c1, -, c3, f⟩ := rhnd_cells h
  have f3 := f 3
  have f0 := f 0
  have f1 := f 1
  have g1 := rhnd_count h
  have HK := Lib.hid (rhand_none (w := w.setCell ⟨bh, 3, none⟩ (.int .i64 (ct + 1))) x)
  rw [decide_eq_true ⟨hx, hx4⟩] at HK
  have g2 := g1.then fun S h => rhnd_put 0 (.int .i64 x) x sn rfl h
  obtain ⟨d0, -, -, -, d5⟩ := rhnd_cells g1.now.choose_spec.1
  obtain ⟨-, d1, -, -, d6⟩ := rhnd_cells g2.now.choose_spec.1
  have d5 := d5 0
  have d6 := d6 1
  have HG := Lib.hid (g2.then fun S h => rhnd_put 1 (.bool (sn != fl)) x (sn != fl) rfl h)
  clear g1 g2 h f
  go_enter Try.func18, Try.ntmps18
  go_wp2_with fail
  with_reducible refine HK.out.mono ?_
  rintro e w' ⟨rfl, rfl⟩
  clear HK
  go_wp2_with fail
  go_ret
  exact ⟨rfl, HG.out⟩
set_option maxHeartbeats 800000 in
theorem rhand_post_no (x : Int) (fl : Bool) (hx : ¬ (0 ≤ x ∧ x ≤ 4)) (h0 : 0 ≤ ct) (h1 : ct ≤ 1000000) (h : (RHnd bh g n c st sn own ct).at_ S w) :
    Calls Try.prog 18 #[.pointer (some ⟨bh, 0, none⟩), .int .i64 x, .bool fl] w fun e w' => e = .returned (.bool false) ∧ Goes (RHnd bh g n c st sn own (ct + 1)) S w w' := by
  obtain ⟨-, c1, -, c3, f⟩ := rhnd_cells h
  have f3 := f 3
  have g1 := rhnd_count h
  have HK := Lib.hid (rhand_none (w := w.setCell ⟨bh, 3, none⟩ (.int .i64 (ct + 1))) x)
  rw [decide_eq_false hx] at HK
  have HG := Lib.hid g1
  clear g1 h f hx
  go_enter Try.func18, Try.ntmps18
  go_wp2_with fail
  with_reducible refine HK.out.mono ?_
  rintro e w' ⟨rfl, rfl⟩
  clear HK
  go_wp2_with fail
  go_ret
  exact ⟨rfl, HG.out⟩
set_option maxHeartbeats 800000 in
theorem rhand_look (h0 : 0 ≤ ct) (h1 : ct ≤ 1000000) (h : (RHnd bh g n c st sn own ct).at_ S w) :
    Calls Try.prog 19 #[.pointer (some ⟨bh, 0, none⟩)] w fun e w' => e = .returned (.tuple #[.int .i64 st, .bool sn]) ∧ Goes (RHnd bh g n c st sn own (ct + 1)) S w w' := by
  obtain ⟨-, -, -, c3, f⟩ := rhnd_cells h
  have f3 := f 3
  have g1 := rhnd_count h
  obtain ⟨d0, d1, -, -, -⟩ := rhnd_cells g1.now.choose_spec.1
  have HG := Lib.hid g1
  clear g1 h f
  go_enter Try.func19, Try.ntmps19
  go_wp2_with fail
  go_quiet (fail)
  go_wp2_with fail
  go_ret2
  exact ⟨rfl, HG.out.then fun S h => drewN_goes h _⟩
set_option maxHeartbeats 800000 in
theorem rhand_answer (k : Nat) (x : Int) (hk : k < n) (hn : n ≤ 16) (hc : n ≤ c) (ho : 0 ≤ own k) (hx : 0 ≤ x) (hx4 : x ≤ 4) (h0 : 0 ≤ ct) (h1 : ct ≤ 1000000) (h : (RHnd bh g n c st sn own ct).at_ S w) :
    Calls Try.prog 20 #[.pointer (some ⟨bh, 0, none⟩), .int .i64 (k : Int), .int .i64 x] w fun e w' => e = .returned (.bool true) ∧ Goes (RHnd bh g n c st sn (setI own k x) (ct + 1)) S w w' := by
  obtain ⟨-, -, -, c3, f⟩ := rhnd_cells h
  have f3 := f 3
  have g1 := rhnd_count h
  obtain ⟨-, -, d2, -, -⟩ := rhnd_cells g1.now.choose_spec.1
  obtain ⟨d4, d5⟩ := rhnd_own g1.now.choose_spec.1 hk
  have HS := Lib.hid (g1.look fun S h => rhand_status_in k hk hn h)
  have HK := Lib.hid (rhand_none (w := w.setCell ⟨bh, 3, none⟩ (.int .i64 (ct + 1))) x)
  rw [decide_eq_true ⟨hx, hx4⟩] at HK
  have HG := Lib.hid (g1.then fun S h => rhnd_set (j := k) x h)
  clear g1 h f
  generalize own k = y at *
  go_enter Try.func20, Try.ntmps20
  go_wp2_with fail
  with_reducible refine HS.out.mono ?_
  rintro e w' ⟨rfl, rfl⟩
  clear HS
  go_wp2_with fail
  with_reducible refine HK.out.mono ?_
  rintro e w' ⟨rfl, rfl⟩
  clear HK
  go_wp2_with fail
  go_ret
  exact ⟨rfl, HG.out⟩
set_option maxHeartbeats 800000 in
theorem rhand_answer_no (i x : Int) (hn : n ≤ 16) (hl : NoLess own) (hno : hSt n own i = -1 ∨ ¬ (0 ≤ x ∧ x ≤ 4)) (h0 : 0 ≤ ct) (h1 : ct ≤ 1000000) (h : (RHnd bh g n c st sn own ct).at_ S w) :
    Calls Try.prog 20 #[.pointer (some ⟨bh, 0, none⟩), .int .i64 i, .int .i64 x] w fun e w' => e = .returned (.bool false) ∧ Goes (RHnd bh g n c st sn own (ct + 1)) S w w' := by
  obtain ⟨-, -, -, c3, f⟩ := rhnd_cells h
  have f3 := f 3
  have g1 := rhnd_count h
  have HS := Lib.hid (g1.look fun S h => rhand_status i hn h)
  have HK := Lib.hid (rhand_none (w := w.setCell ⟨bh, 3, none⟩ (.int .i64 (ct + 1))) x)
  have HG := Lib.hid g1
  have hy0 := hl.hSt (n := n) i
  clear g1 h f hl
  generalize hSt n own i = y at *
  by_cases hy : y = -1
  · subst hy
    clear hno HK hy0
    go_enter Try.func20, Try.ntmps20
    go_wp2_with fail
    with_reducible refine HS.out.mono ?_
    rintro e w' ⟨rfl, rfl⟩
    clear HS
    go_wp2_with fail
    go_ret
    exact ⟨rfl, HG.out⟩
  · rw [decide_eq_false (hno.resolve_left hy)] at HK
    have hy1 : 0 ≤ y := by omega
    clear hno hy hy0
    go_enter Try.func20, Try.ntmps20
    go_wp2_with fail
    with_reducible refine HS.out.mono ?_
    rintro e w' ⟨rfl, rfl⟩
    clear HS
    go_wp2_with fail
    with_reducible refine HK.out.mono ?_
    rintro e w' ⟨rfl, rfl⟩
    clear HK
    go_wp2_with fail
    go_ret
    exact ⟨rfl, HG.out⟩
set_option maxHeartbeats 800000 in
theorem rhand_leave (k : Nat) (hk : k < n) (hn : n ≤ 16) (hc : n ≤ c) (ho : 0 ≤ own k) (h0 : 0 ≤ ct) (h1 : ct ≤ 1000000) (h : (RHnd bh g n c st sn own ct).at_ S w) :
    Calls Try.prog 23 #[.pointer (some ⟨bh, 0, none⟩), .int .i64 (k : Int)] w fun e w' => e = .returned (.bool true) ∧ Goes (RHnd bh g n c st sn (setI own k (-1)) (ct + 1)) S w w' := by
  obtain ⟨-, -, -, c3, f⟩ := rhnd_cells h
  have f3 := f 3
  have g1 := rhnd_count h
  obtain ⟨-, -, d2, -, -⟩ := rhnd_cells g1.now.choose_spec.1
  obtain ⟨d4, d5⟩ := rhnd_own g1.now.choose_spec.1 hk
  have HS := Lib.hid (g1.look fun S h => rhand_status_in k hk hn h)
  have HG := Lib.hid (g1.then fun S h => rhnd_set (j := k) (-1) h)
  clear g1 h f
  generalize own k = y at *
  go_enter Try.func23, Try.ntmps23
  go_wp2_with fail
  with_reducible refine HS.out.mono ?_
  rintro e w' ⟨rfl, rfl⟩
  clear HS
  go_wp2_with fail
  go_ret
  exact ⟨rfl, HG.out⟩
set_option maxHeartbeats 800000 in
theorem rhand_leave_no (i : Int) (hn : n ≤ 16) (hno : hSt n own i = -1) (h0 : 0 ≤ ct) (h1 : ct ≤ 1000000) (h : (RHnd bh g n c st sn own ct).at_ S w) :
    Calls Try.prog 23 #[.pointer (some ⟨bh, 0, none⟩), .int .i64 i] w fun e w' => e = .returned (.bool false) ∧ Goes (RHnd bh g n c st sn own (ct + 1)) S w w' := by
  obtain ⟨-, -, -, c3, f⟩ := rhnd_cells h
  have f3 := f 3
  have g1 := rhnd_count h
  have HS := Lib.hid (g1.look fun S h => rhand_status i hn h)
  rw [hno] at HS
  have HG := Lib.hid g1
  clear g1 h f hno
  go_enter Try.func23, Try.ntmps23
  go_wp2_with fail
  with_reducible refine HS.out.mono ?_
  rintro e w' ⟨rfl, rfl⟩
  clear HS
  go_wp2_with fail
  go_ret
  exact ⟨rfl, HG.out⟩
set_option maxHeartbeats 1600000 in
theorem rhand_poll_in (k : Nat) (hk : k < n) (hn : n ≤ 16) (hc : n ≤ c) (ho : 0 ≤ own k) (h0 : 0 ≤ ct) (h1 : ct ≤ 1000000) (h : (RHnd bh g n c st sn own ct).at_ S w) :
    Calls Try.prog 21 #[.pointer (some ⟨bh, 0, none⟩), .int .i64 (k : Int)] w fun e w' => e = .returned (.bool (own k == st)) ∧ Goes (RHnd bh g n c st sn own (ct + 1)) S w w' := by
  obtain ⟨-, -, -, c3, f⟩ := rhnd_cells h
  have f3 := f 3
  have g1 := rhnd_count h
  obtain ⟨d0, -, d2, -, -⟩ := rhnd_cells g1.now.choose_spec.1
  obtain ⟨d4, -⟩ := rhnd_own g1.now.choose_spec.1 hk
  have HG := Lib.hid g1
  have HS : Hid (∀ k', Calls Try.prog 24 #[.pointer (some ⟨bh, 0, none⟩), .int .i64 (k : Int)] ((w.setCell ⟨bh, 3, none⟩ (.int .i64 (ct + 1))).drewN k') fun e w'' => e = .returned (.int .i64 (own k)) ∧ ∃ m, w'' = (w.setCell ⟨bh, 3, none⟩ (.int .i64 (ct + 1))).drewN m) := fun k' => look_quiet ((g1.then fun S h => drewN_goes h k').look fun S h => rhand_status_in k hk hn h)
  clear g1 h f
  generalize own k = y at *
  have y0 : decide (y < 0) = false := by simp; omega
  go_enter Try.func21, Try.ntmps21
  go_wp2_with fail
  clear c3 f3
  have G1 := HG.out
  clear HG
  generalize w.setCell ⟨bh, 3, none⟩ (.int .i64 (ct + 1)) = W1 at *
  have HG := Lib.hid G1
  clear G1
  go_quiet (first | (go_at_call 24; exact HS.out _))
  go_wp2_with fail
  go_ret
  exact ⟨by first | rfl | (show Ending.returned (.bool _) = _; rw [y0]; rfl), HG.out.then fun S h => drewN_goes h _⟩
set_option maxHeartbeats 1600000 in
theorem rhand_poll_out (i : Int) (hn : n ≤ 16) (hno : hSt n own i = -1) (h0 : 0 ≤ ct) (h1 : ct ≤ 1000000) (h : (RHnd bh g n c st sn own ct).at_ S w) :
    Calls Try.prog 21 #[.pointer (some ⟨bh, 0, none⟩), .int .i64 i] w fun e w' => e = .returned (.bool true) ∧ Goes (RHnd bh g n c st sn own (ct + 1)) S w w' := by
  obtain ⟨-, -, -, c3, f⟩ := rhnd_cells h
  have f3 := f 3
  have g1 := rhnd_count h
  have HG := Lib.hid g1
  have HS : Hid (∀ k', Calls Try.prog 24 #[.pointer (some ⟨bh, 0, none⟩), .int .i64 i] ((w.setCell ⟨bh, 3, none⟩ (.int .i64 (ct + 1))).drewN k') fun e w'' => e = .returned (.int .i64 (-1)) ∧ ∃ m, w'' = (w.setCell ⟨bh, 3, none⟩ (.int .i64 (ct + 1))).drewN m) := fun k' => by
    have := look_quiet ((g1.then fun S h => drewN_goes h k').look fun S h => rhand_status i hn h)
    rw [hno] at this; exact this
  clear g1 h f hno
  go_enter Try.func21, Try.ntmps21
  go_wp2_with fail
  clear c3 f3
  have G1 := HG.out
  clear HG
  generalize w.setCell ⟨bh, 3, none⟩ (.int .i64 (ct + 1)) = W1 at *
  have HG := Lib.hid G1
  clear G1
  go_quiet (first | (go_at_call 24; exact HS.out _))
  go_wp2_with fail
  go_ret
  exact ⟨rfl, HG.out.then fun S h => drewN_goes h _⟩
theorem rhand_poll (i : Int) (hn : n ≤ 16) (hc : n ≤ c) (hl : NoLess own) (h0 : 0 ≤ ct) (h1 : ct ≤ 1000000) (h : (RHnd bh g n c st sn own ct).at_ S w) :
    Calls Try.prog 21 #[.pointer (some ⟨bh, 0, none⟩), .int .i64 i] w fun e w' => e = .returned (.bool (hSt n own i == -1 || hSt n own i == st)) ∧ Goes (RHnd bh g n c st sn own (ct + 1)) S w w' := by
  by_cases hno : hSt n own i = -1
  · rw [hno]; exact rhand_poll_out i hn hno h0 h1 h
  · have hi : tIn n i := by by_cases e : tIn n i; exact e; exact absurd (hSt_out e) hno
    obtain ⟨k, rfl⟩ : ∃ k : Nat, i = (k : Int) := ⟨i.toNat, by have := hi.1; omega⟩
    have hk : k < n := by have := hi.2; omega
    rw [hSt_in hk] at hno ⊢
    have := hl k
    rw [show (own k == -1) = false by simpa using hno, Bool.false_or]
    exact rhand_poll_in k hk hn hc (by omega) h0 h1 h
set_option maxHeartbeats 1600000 in
theorem rhand_join (k : Nat) (hk : k < n) (_hn : n ≤ 16) (hc : n ≤ c) (ho : own k = -1) (h0 : 0 ≤ ct) (h1 : ct ≤ 1000000) (h : (RHnd bh g n c st sn own ct).at_ S w) :
    Calls Try.prog 22 #[.pointer (some ⟨bh, 0, none⟩), .int .i64 (k : Int)] w fun e w' => e = .returned (.tuple #[.int .i64 st, .bool sn, .bool true]) ∧ Goes (RHnd bh g n c st sn (setI own k st) (ct + 1)) S w w' := by
  obtain ⟨-, -, -, c3, f⟩ := rhnd_cells h
  have f3 := f 3
  have g1 := rhnd_count h
  obtain ⟨d0, -, d2, -, -⟩ := rhnd_cells g1.now.choose_spec.1
  obtain ⟨d4, d5⟩ := rhnd_own g1.now.choose_spec.1 hk
  have HG := Lib.hid g1
  clear g1 h f
  rw [ho] at d4
  go_enter Try.func22, Try.ntmps22
  go_wp2_with fail
  have G1 := HG.out
  generalize w.setCell ⟨bh, 3, none⟩ (.int .i64 (ct + 1)) = W1 at *
  have g2 := G1.then fun S h => (rhnd_set (j := k) st h).then fun S h => drew_goes h
  clear G1 HG
  go_still_tail 10, (by kernel_rfl)
  change wpList _ _ _ _ _ W1.drew
  go_upto_region 5 with fail
  obtain ⟨e0, e1, -, -, -⟩ := rhnd_cells g2.now.choose_spec.1
  have HG := Lib.hid g2
  clear g2 d0 d2 d4 d5 c3 f3
  generalize (W1.setCell ⟨g, k, none⟩ (.int .i64 st)).drew = W2 at *
  go_wp2_with fail
  go_quiet (fail)
  go_wp2_with fail
  go_ret3
  exact ⟨rfl, HG.out.then fun S h => drewN_goes h _⟩
set_option maxHeartbeats 800000 in
theorem rhand_join_no (k : Nat) (hk : k < n) (_hn : n ≤ 16) (hc : n ≤ c) (ho : 0 ≤ own k) (h0 : 0 ≤ ct) (h1 : ct ≤ 1000000) (h : (RHnd bh g n c st sn own ct).at_ S w) :
    Calls Try.prog 22 #[.pointer (some ⟨bh, 0, none⟩), .int .i64 (k : Int)] w fun e w' => e = .returned (.tuple #[.int .i64 0, .bool false, .bool false]) ∧ Goes (RHnd bh g n c st sn own (ct + 1)) S w w' := by
  obtain ⟨-, -, -, c3, f⟩ := rhnd_cells h
  have f3 := f 3
  have g1 := rhnd_count h
  obtain ⟨d0, -, d2, -, -⟩ := rhnd_cells g1.now.choose_spec.1
  obtain ⟨d4, d5⟩ := rhnd_own g1.now.choose_spec.1 hk
  have HG := Lib.hid g1
  clear g1 h f
  generalize own k = y at *
  have y1 : decide (0 ≤ y) = true := by simpa using ho
  go_enter Try.func22, Try.ntmps22
  go_wp2_with fail
  go_ret3
  exact ⟨rfl, HG.out⟩
set_option maxHeartbeats 800000 in
theorem rhand_join_out (i : Int) (hi : ¬ tIn n i) (h0 : 0 ≤ ct) (h1 : ct ≤ 1000000) (h : (RHnd bh g n c st sn own ct).at_ S w) :
    Calls Try.prog 22 #[.pointer (some ⟨bh, 0, none⟩), .int .i64 i] w fun e w' => e = .returned (.tuple #[.int .i64 0, .bool false, .bool false]) ∧ Goes (RHnd bh g n c st sn own (ct + 1)) S w w' := by
  obtain ⟨-, -, -, c3, f⟩ := rhnd_cells h
  have f3 := f 3
  have g1 := rhnd_count h
  obtain ⟨-, -, d2, -, -⟩ := rhnd_cells g1.now.choose_spec.1
  have HG := Lib.hid g1
  clear g1 h f
  unfold tIn at hi
  by_cases hi0 : i < 0
  · clear hi
    go_enter Try.func22, Try.ntmps22
    go_wp2_with fail
    go_ret3
    exact ⟨rfl, HG.out⟩
  · have h1 : (n : Int) ≤ i := by omega
    have hd : decide (i < (n : Int)) = false := by simp; omega
    clear hi
    go_enter Try.func22, Try.ntmps22
    go_wp2_with fail
    go_ret3
    exact ⟨rfl, HG.out⟩
end
section
variable {bh g n : Nat} {st ct : Int} {sn : Bool} {own : Nat → Int} {S : Nat → Prop} {w w' : World}
set_option maxHeartbeats 800000 in
theorem hand_join_out (i : Int) (hi : ¬ tIn n i) (h0 : 0 ≤ ct) (h1 : ct ≤ 1000000) (h : (Hnd bh g n st sn own ct).at_ S w) :
    Calls Try.prog 9 #[.pointer (some ⟨bh, 0, none⟩), .int .i64 i] w fun e w' => e = .returned (.tuple #[.int .i64 0, .bool false, .bool false]) ∧ Goes (Hnd bh g n st sn own (ct + 1)) S w w' := by
  obtain ⟨-, -, -, c3, f⟩ := hnd_cells h
  have f3 := f 3
  have g1 := hnd_count h
  obtain ⟨-, -, d2, -, -⟩ := hnd_cells g1.now.choose_spec.1
  have HG := Lib.hid g1
  clear g1 h f
  unfold tIn at hi
  by_cases hi0 : i < 0
  · clear hi
    go_enter Try.func9, Try.ntmps9
    go_wp2_with fail
    go_ret3
    exact ⟨rfl, HG.out⟩
  · have h1 : (n : Int) ≤ i := by omega
    have hd : decide (i < (n : Int)) = false := by simp; omega
    clear hi
    go_enter Try.func9, Try.ntmps9
    go_wp2_with fail
    go_ret3
    exact ⟨rfl, HG.out⟩
end

theorem add_none' (b n : Nat) : (⟨b, 0, none⟩ : Addr).add n = ⟨b, n, none⟩ := by unfold Addr.add; split <;> simp_all
/-- The document's hands while they are made: q threads so far. -/
def rgrowAt (bh q : Nat) (S : Nat → Prop) (w : World) : Prop :=
  ∃ v, Blk w bh #[.int .i64 0, .bool false, v, .int .i64 0] 50 ∧ w.ownsRow 0 3 1 v q ((List.replicate q (-1 : Int)).map (Value.int .i64)) ∧ S bh ∧ (∀ k, v.ownBlock = some k → S k ∧ k ≠ bh) ∧ ∀ k, S k → k = bh ∨ v.ownBlock = some k
def RGrow (bh q : Nat) : Thing where
  at_ := rgrowAt bh q
  lt := fun ⟨v, h1, h2, _, _, h⟩ k hk => (h k hk).elim (fun e => e ▸ h1.lt) fun e => ownBlock_lt h2 e
  kept := fun ⟨v, h1, h2, h3, h4, h5⟩ hk _ => ⟨v, by unfold Blk at *; rw [hk bh h3]; exact h1, ownsRow_same h2 (fun k hv => hk k (h4 k hv).1), h3, h4, h5⟩
theorem rgrow_step {bh q : Nat} {v v' : Value} {w w1 : World} {S : Nat → Prop} (h1 : Blk w bh #[.int .i64 0, .bool false, v, .int .i64 0] 50) (h3 : S bh) (h4 : ∀ k, v.ownBlock = some k → S k ∧ k ≠ bh)
    (ho : w1.ownsRow 0 3 1 v' (q + 1) ((List.replicate q (-1 : Int)).map (Value.int .i64) ++ [.int .i64 (-1)])) (hg : (w.alloc (.cells #[.int .i64 (-1)] 3)).grownBy w1 v.ownBlock)
    (hbk : v'.ownBlock = v.ownBlock ∨ v'.ownBlock = some (w.heap.size + 1)) : Goes (RGrow bh (q + 1)) S w (w1.setCell ⟨bh, 2, none⟩ v') := by
  have hb1 : Blk w1 bh #[.int .i64 0, .bool false, v, .int .i64 0] 50 := by
    have h9 := (Blk.alloc h1 (.cells #[.int .i64 (-1)] 3))
    have := h1.lt
    unfold Blk at *
    rw [hg.block bh (by simp; omega) (fun e => (h4 bh e.symm).2 rfl)]; exact h9
  have hv' : ∀ k, v'.ownBlock = some k → k ≠ bh ∧ (v.ownBlock = some k ∨ w.heap.size ≤ k) := by
    intro k hk
    have hb := h1.lt
    rcases hbk with e | e
    · exact ⟨(h4 k (e ▸ hk)).2, .inl (e ▸ hk)⟩
    · rw [e] at hk; simp at hk; subst hk; exact ⟨by omega, .inr (by omega)⟩
  refine ⟨⟨fun k => k = bh ∨ v'.ownBlock = some k, ⟨v', hb1.set 2 v', ?_, .inl rfl, fun k hk => ⟨.inr hk, (hv' k hk).1⟩, fun k hk => hk⟩, ?_⟩, ?_⟩
  · rw [show List.replicate (q + 1) (-1 : Int) = List.replicate q (-1) ++ [-1] from List.replicate_succ', List.map_append]
    exact ownsRow_setCell_other ho (fun e => (hv' bh (by simpa using e)).1 rfl) _
  · rintro k (hk | hk)
    · exact .inl (hk ▸ h3)
    · exact (hv' k hk).2.elim (fun e => .inl (h4 k e).1) .inr
  · exact (((Turned.refl S w).alloc _).grown hg (fun k hk => .inl (h4 k hk).1)).setCell (.inl h3) _
theorem rgrow_made {bh n : Nat} (hn : 1 ≤ n) {S : Nat → Prop} {w : World} (h : (RGrow bh n).at_ S w) : ∃ g c, n ≤ c ∧ (RHnd bh g n c 0 false gone 0).at_ S w := by
  obtain ⟨v, h1, h2, h3, h4, h5⟩ := h
  have h2' := h2
  rcases h2 with ⟨hl, ⟨_, h0⟩ | ⟨g, cap, cur, rfl, hg, hh, hnc, hcap, hsz, htake⟩⟩
  · obtain ⟨m, rfl⟩ : ∃ m, n = m + 1 := ⟨n - 1, by omega⟩
    simp at h0
  have hcells := h2'.cells (g := g) rfl
  have hgb := h4 g rfl
  refine ⟨g, cap, hnc, fun k => k = bh, fun k => k = g, ⟨h1, rfl, fun _ h => h⟩, ⟨cur, hh, by rw [hsz]; omega, fun j hj => ?_, rfl, fun _ h => h⟩, fun k e1 e2 => hgb.2 (e2 ▸ e1), fun k e => e ▸ h3, fun k e => e ▸ hgb.1, fun k hk => (h5 k hk).imp id fun e => ?_⟩
  · have h9 := hcells j (.int .i64 (-1)) (by simp [hj])
    rw [add_none'] at h9
    have : Blk w g cur 3 := hh
    rw [this.cell] at h9
    exact h9
  · simpa [Value.ownBlock] using e.symm
set_option maxHeartbeats 1600000 in
theorem rhand_new (n : Nat) (w : World) (h1 : 1 ≤ n) (h2 : n ≤ 16) :
    Calls Try.prog 17 #[.int .i64 n] w fun e w' => ∃ bh g c, n ≤ c ∧ e = .returned (.tuple #[.pointer (some ⟨bh, 0, none⟩), .int .i64 0]) ∧ St w (RHnd bh g n c 0 false gone 0) w' := by
  obtain ⟨i0, hi, hz0, hz1, hz2⟩ := info_parts Try.info3
  go_enter Try.func17, Try.ntmps17
  go_wp2_with fail
  have hS : St w (RGrow w.heap.size 0) (w.alloc (.cells #[.int .i64 0, .bool false, .slice none 0 0, .int .i64 0] 50)) :=
    ⟨⟨fun k => k = w.heap.size, ⟨.slice none 0 0, Blk.new w _ 50, ⟨rfl, .inl ⟨rfl, rfl⟩⟩, rfl, fun k hk => by simp [Value.ownBlock] at hk, fun k hk => .inl hk⟩, fun k hk => by omega⟩, (Below.refl _ _).alloc (Nat.le_refl _) _⟩
  generalize hbh : w.heap.size = bh at hS ⊢
  generalize hW : w.alloc _ = W1 at hS ⊢
  clear hW hbh
  go_loopw [5] (fun k w' => ∃ q : Nat, q ≤ n ∧ k = .int .i64 q ∧ St w (RGrow bh q) w') (fun k _ => n - (intOf k).toNat)
  case atStart => exact ⟨0, Nat.zero_le _, rfl, hS⟩
  case round =>
    clear hS
    obtain ⟨q, hq, rfl, hs⟩ := hrel
    by_cases hlt : q < n
    · obtain ⟨S, ⟨v, b1, b2, b3, b4, b5⟩, b6⟩ := hs.1
      obtain ⟨av, cv, hv, _, _⟩ := slice_of_owns b2
      have c2 : wr.cell? ⟨bh, 2, none⟩ = some v := by rw [b1.cell]; rfl
      have hbl := b1.lt
      have HB := Lib.hid (And.intro b1 (And.intro b3 (And.intro b4 b6)))
      have HO := Lib.hid b2
      have HS := Lib.hid hs.2
      have HB5 := Lib.hid b5
      clear hs b1 b2 b3 b4 b5 b6
      subst hv
      go_wp2_with (at_builtin; refine wpList_push rfl _ _ 22 rfl 3 i0 (.int .i64 0) 8 Try.underlying22 hi hz0 hz1 hz2 rfl _ _ _ rfl (HO.out.alloc _) ⟨wr.heap.size, 0, none⟩ (.int .i64 (-1)) rfl ?c1 rfl (by omega) (by decide) ?_)
      case c1 => exact World.cell?_alloc_new _ _ _ 0
      intro v' w1 ho hg hbk
      obtain ⟨a', cap', rfl, _⟩ := slice_of_owns ho
      obtain ⟨b1, b3, b4, b6⟩ := HB.out
      have hb1 : Blk w1 bh #[.int .i64 0, .bool false, .slice av q cv, .int .i64 0] 50 := by
        have h9 := Blk.alloc b1 (.cells #[.int .i64 (-1)] 3)
        unfold Blk at *
        rw [hg.block bh (by simp; omega) (fun e => (b4 bh e.symm).2 rfl)]; exact h9
      have g0 : w1.cell? ⟨bh, 2, none⟩ = some (.slice av q cv) := by rw [hb1.cell]; rfl
      have g3 : w1.frozen? ⟨bh, 2, none⟩ = false := hb1.free 2
      have hS2 : St w (RGrow bh (q + 1)) (w1.setCell ⟨bh, 2, none⟩ (.slice a' (q + 1) cap')) := by
        have hst : St w (RGrow bh q) wr := ⟨⟨S, ⟨_, b1, HO.out, b3, b4, HB5.out⟩, b6⟩, HS.out⟩
        refine hst.goes fun S ⟨v, c1, c2', c3, c4, c5⟩ => ?_
        have e : v = .slice av q cv := by
          have e1 : wr.cell? ⟨bh, 2, none⟩ = some v := by rw [c1.cell]; rfl
          rw [c2] at e1; exact (Option.some.inj e1).symm
        subst e
        exact rgrow_step c1 c3 c4 (by rw [List.map_replicate]; exact ho) hg hbk
      have HS2 := Lib.hid hS2
      clear hS2 hb1 b1 b3 b4 b6 hg hbk ho HB HB5 HO HS c2 hbl
      go_wp2_with fail
      go_round
      case rel => exact ⟨q + 1, by omega, by go_num, HS2.out⟩
      case measure => simp [intOf]; omega
    · obtain rfl : q = n := by omega
      go_wp2_with fail
      go_ret2
      obtain ⟨S, h9, h10⟩ := hs.1
      obtain ⟨g, c, hc, h11⟩ := rgrow_made h1 h9
      exact ⟨bh, g, c, hc, rfl, ⟨S, h11, h10⟩, hs.2⟩
theorem rhand_new_no (n : Int) (w : World) (h : n < 1 ∨ 16 < n) :
    Calls Try.prog 17 #[.int .i64 n] w fun e w' => e = .returned (.tuple #[.pointer none, .int .i64 1]) ∧ w = w' := by
  go_enter Try.func17, Try.ntmps17
  go_wp2_with fail
  all_goals
    go_ret2
    exact ⟨rfl, rfl⟩
end Go.Proofs.Ytmfnfeadpelckaa
