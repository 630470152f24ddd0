/- The contracts of package shade. -/
import Derived.Test.YtcdmlimhkmbiiaaTintFlipsW
import Derived.Test.YtcdmlimhkmbiiaaPileLaws
namespace Go.Proofs.Ytcdmlimhkmbiiaa
open Go.RowKit

section
variable {P : Program} {f : FuncId} {args : Array Value} {w w1 w2 : World} {R : Ending → Prop} {O O' : Thing} {S : Nat → Prop}
/-- Steps behind one another. -/
theorem Goes.then (h : Goes O S w w1) (hc : ∀ S', O.at_ S' w1 → Goes O' S' w1 w2) : Goes O' S w w2 := by
  obtain ⟨⟨S1, a1, a2⟩, a3⟩ := h
  obtain ⟨⟨S2, b1, b2⟩, b3⟩ := hc S1 a1
  exact ⟨⟨S2, b1, fun k hk => (b2 k hk).elim (a2 k) fun h => .inr (Nat.le_trans a3.size h)⟩, a3.trans b3 (fun _ h => h) a2⟩
theorem Goes.call (h : Goes O S w w1) (hc : ∀ S', O.at_ S' w1 → Calls P f args w1 fun e w2 => R e ∧ Goes O' S' w1 w2) : Calls P f args w1 fun e w2 => R e ∧ Goes O' S w w2 := by
  obtain ⟨⟨S1, a1, a2⟩, a3⟩ := h
  exact (hc S1 a1).mono fun e w2 ⟨he, hg⟩ => ⟨he, by
    obtain ⟨⟨S2, b1, b2⟩, b3⟩ := hg
    exact ⟨⟨S2, b1, fun k hk => (b2 k hk).elim (a2 k) fun h => .inr (Nat.le_trans a3.size h)⟩, a3.trans b3 (fun _ h => h) a2⟩⟩
theorem Goes.look (h : Goes O S w w1) (hc : ∀ S', O.at_ S' w1 → Calls P f args w1 fun e w2 => R e ∧ w1 = w2) : Calls P f args w1 fun e w2 => R e ∧ w1 = w2 := hc _ h.now.choose_spec.1
end

/-- The shades: the struct, its table, its pile. -/
def Shade (bs bt bp n : Nat) (f : Nat → One) (xs : List Int) (m : Int) (lost : Bool) (ct : Int) : Thing :=
  Sep (Var bs #[.pointer (some ⟨bt, 0, none⟩), .pointer (some ⟨bp, 0, none⟩), .int .i64 ct] 68) (Sep (Tab bt n f) (Pile bp xs m lost))

section
variable {bs bt bp n : Nat} {f : Nat → One} {xs : List Int} {m : Int} {lost : Bool} {ct : Int} {S : Nat → Prop} {w w' : World}
theorem shade_blk (h : (Shade bs bt bp n f xs m lost ct).at_ S w) : Blk w bs #[.pointer (some ⟨bt, 0, none⟩), .pointer (some ⟨bp, 0, none⟩), .int .i64 ct] 68 := by
  obtain ⟨_, _, h1, _⟩ := h; exact h1.1
theorem Goes.shadeBlk (h : Goes (Shade bs bt bp n f xs m lost ct) S w w') : Blk w' bs #[.pointer (some ⟨bt, 0, none⟩), .pointer (some ⟨bp, 0, none⟩), .int .i64 ct] 68 := shade_blk h.now.choose_spec.1
/-- One more is counted. -/
theorem shade_count (h : (Shade bs bt bp n f xs m lost ct).at_ S w) : Goes (Shade bs bt bp n f xs m lost (ct + 1)) S w (w.setCell ⟨bs, 2, none⟩ (.int .i64 (ct + 1))) :=
  goesL (fun _ h => var_set h 2 (.int .i64 (ct + 1))) S h
theorem shade_tab {P : Program} {g : FuncId} {args : Array Value} {R : Ending → Prop} {f' : Nat → One} (h : Goes (Shade bs bt bp n f xs m lost ct) S w w')
    (hc : ∀ S', (Tab bt n f).at_ S' w' → Calls P g args w' fun e w2 => R e ∧ Goes (Tab bt n f') S' w' w2) : Calls P g args w' fun e w2 => R e ∧ Goes (Shade bs bt bp n f' xs m lost ct) S w w2 :=
  h.call (sepR (sepL hc))
theorem shade_pile {P : Program} {g : FuncId} {args : Array Value} {R : Ending → Prop} {xs' : List Int} {lost' : Bool} (h : Goes (Shade bs bt bp n f xs m lost ct) S w w')
    (hc : ∀ S', (Pile bp xs m lost).at_ S' w' → Calls P g args w' fun e w2 => R e ∧ Goes (Pile bp xs' m lost') S' w' w2) : Calls P g args w' fun e w2 => R e ∧ Goes (Shade bs bt bp n f xs' m lost' ct) S w w2 :=
  h.call (sepR (sepR hc))
theorem shade_look {P : Program} {g : FuncId} {args : Array Value} {R : Ending → Prop} (h : Goes (Shade bs bt bp n f xs m lost ct) S w w')
    (hc : ∀ S', (Tab bt n f).at_ S' w' → Calls P g args w' fun e w2 => R e ∧ w' = w2) : Calls P g args w' fun e w2 => R e ∧ w' = w2 :=
  h.look (lookR (lookL hc))
theorem shade_lookP {P : Program} {g : FuncId} {args : Array Value} {R : Ending → Prop} (h : Goes (Shade bs bt bp n f xs m lost ct) S w w')
    (hc : ∀ S', (Pile bp xs m lost).at_ S' w' → Calls P g args w' fun e w2 => R e ∧ w' = w2) : Calls P g args w' fun e w2 => R e ∧ w' = w2 :=
  h.look (lookR (lookR hc))

/-- Whether i is a head, and white. -/
def sWhite (n : Nat) (f : Nat → One) (i : Int) (s : Bool) : Bool := tHead n f i && !tBlack n f i s

set_option maxHeartbeats 400000 in
theorem shade_white (i : Int) (s : Bool) (h : (Tab bt n f).at_ S w) :
    Calls Try.prog 64 #[.agg #[.pointer (some ⟨bt, 0, none⟩)], .int .i64 i, .bool s] w fun e w' => e = .returned (.bool (sWhite n f i s)) ∧ Goes (Tab bt n f) S w w' := by
  have hb := Goes.later h ((Below.refl _ w).alloc (Nat.le_refl _) (.cells #[.pointer (some ⟨bt, 0, none⟩)] 66))
  have HB := Lib.hid hb
  have HH := Lib.hid (hb.look fun S h => tint_head i h)
  have HK := Lib.hid (hb.look fun S h => tint_black i s h)
  unfold sWhite
  clear hb h
  cases hh : tHead n f i with
  | false =>
    rw [hh] at HH
    clear hh
    go_enter Try.func64, Try.ntmps64
    go_wp2_with fail
    with_reducible refine HH.out.mono ?_
    rintro e w' ⟨rfl, rfl⟩
    go_wp2_with fail
    go_ret
    exact ⟨by simp, HB.out⟩
  | true =>
    rw [hh] at HH
    clear hh
    go_enter Try.func64, Try.ntmps64
    go_wp2_with fail
    with_reducible refine HH.out.mono ?_
    rintro e w' ⟨rfl, rfl⟩
    go_wp2_with fail
    with_reducible refine HK.out.mono ?_
    rintro e w' ⟨rfl, rfl⟩
    go_wp2_with fail
    go_ret
    exact ⟨by simp, HB.out⟩

set_option maxHeartbeats 400000 in
theorem shade_table (bt : Nat) (w : World) :
    Calls Try.prog 47 #[.agg #[.pointer (some ⟨bt, 0, none⟩)]] w fun e w' => e = .returned (.pointer (some ⟨bt, 0, none⟩)) ∧ Below w.heap.size w w' := by
  go_enter Try.func47, Try.ntmps47
  go_wp2
  go_ret
  exact ⟨rfl, (Below.refl _ _).alloc (Nat.le_refl _) _⟩

set_option maxHeartbeats 800000 in
theorem shade_black (i : Int) (s : Bool) (h : (Shade bs bt bp n f xs m lost ct).at_ S w) (h0 : 0 ≤ ct) (h1 : ct ≤ 1000000) :
    Calls Try.prog 48 #[.pointer (some ⟨bs, 0, none⟩), .int .i64 i, .bool s] w fun e w' => e = .returned (.bool (tHead n f i && tBlack n f i s)) ∧ Goes (Shade bs bt bp n f xs m lost (ct + 1)) S w w' := by
  have hb := shade_blk h
  have g1 := shade_count h
  have hb1 := g1.shadeBlk
  have c0 : w.cell? ⟨bs, 2, none⟩ = some (.int .i64 ct) := by rw [hb.cell]; rfl
  have c1 : w.frozen? ⟨bs, 2, none⟩ = false := hb.free 2
  have d0 : (w.setCell ⟨bs, 2, none⟩ (.int .i64 (ct + 1))).cell? ⟨bs, 0, none⟩ = some (.pointer (some ⟨bt, 0, none⟩)) := by rw [hb1.cell]; rfl
  have HG := Lib.hid g1
  have HH := Lib.hid (shade_look g1 fun S h => tint_head i h)
  have HK := Lib.hid (shade_look g1 fun S h => tint_black i s h)
  clear hb g1 hb1 h
  cases hh : tHead n f i with
  | false =>
    rw [hh] at HH
    clear hh
    go_enter Try.func48, Try.ntmps48
    go_wp2_with fail
    with_reducible refine HH.out.mono ?_
    rintro e w' ⟨rfl, rfl⟩
    go_wp2_with fail
    go_ret
    exact ⟨by simp, HG.out⟩
  | true =>
    rw [hh] at HH
    clear hh
    go_enter Try.func48, Try.ntmps48
    go_wp2_with fail
    with_reducible refine HH.out.mono ?_
    rintro e w' ⟨rfl, rfl⟩
    go_wp2_with fail
    with_reducible refine HK.out.mono ?_
    rintro e w' ⟨rfl, rfl⟩
    go_wp2_with fail
    go_ret
    exact ⟨by simp, HG.out⟩

set_option maxHeartbeats 800000 in
theorem shade_part (i : Int) (s : Bool) (h : (Shade bs bt bp n f xs m lost ct).at_ S w) (h0 : 0 ≤ ct) (h1 : ct ≤ 1000000) :
    Calls Try.prog 53 #[.pointer (some ⟨bs, 0, none⟩), .int .i64 i, .bool s] w fun e w' => e = .returned (.bool (tMarks n f i s)) ∧ Goes (Shade bs bt bp n (tMark n f i s) xs m lost (ct + 1)) S w w' := by
  have hb := shade_blk h
  have g1 := shade_count h
  have hb1 := g1.shadeBlk
  have c0 : w.cell? ⟨bs, 2, none⟩ = some (.int .i64 ct) := by rw [hb.cell]; rfl
  have c1 : w.frozen? ⟨bs, 2, none⟩ = false := hb.free 2
  have d0 : (w.setCell ⟨bs, 2, none⟩ (.int .i64 (ct + 1))).cell? ⟨bs, 0, none⟩ = some (.pointer (some ⟨bt, 0, none⟩)) := by rw [hb1.cell]; rfl
  have HK := Lib.hid (shade_tab g1 fun S h => tint_mark i s h)
  clear hb g1 hb1 h
  go_enter Try.func53, Try.ntmps53
  go_wp2_with fail
  with_reducible refine HK.out.mono ?_
  rintro e w' ⟨rfl, g2⟩
  have G2 := Lib.hid g2
  clear g2
  go_wp2_with fail
  go_ret
  exact ⟨rfl, G2.out⟩

set_option maxHeartbeats 800000 in
theorem shade_next_none (h : (Shade bs bt bp n f [] m lost ct).at_ S w) (h0 : 0 ≤ ct) (h1 : ct ≤ 1000000) :
    Calls Try.prog 50 #[.pointer (some ⟨bs, 0, none⟩)] w fun e w' => e = .returned (.tuple #[.int .i64 0, .bool false]) ∧ Goes (Shade bs bt bp n f [] m lost (ct + 1)) S w w' := by
  have hb := shade_blk h
  have g1 := shade_count h
  have hb1 := g1.shadeBlk
  have c0 : w.cell? ⟨bs, 2, none⟩ = some (.int .i64 ct) := by rw [hb.cell]; rfl
  have c1 : w.frozen? ⟨bs, 2, none⟩ = false := hb.free 2
  have d0 : (w.setCell ⟨bs, 2, none⟩ (.int .i64 (ct + 1))).cell? ⟨bs, 1, none⟩ = some (.pointer (some ⟨bp, 0, none⟩)) := by rw [hb1.cell]; rfl
  have HK := Lib.hid (shade_lookP g1 fun S h => pile_pop_none h)
  have HG := Lib.hid g1
  clear hb g1 hb1 h
  go_enter Try.func50, Try.ntmps50
  go_wp2_with fail
  with_reducible refine HK.out.mono ?_
  rintro e w' ⟨rfl, rfl⟩
  go_wp2_with fail
  go_ret2
  exact ⟨rfl, HG.out⟩
set_option maxHeartbeats 800000 in
theorem shade_next {i : Int} (h : (Shade bs bt bp n f (xs ++ [i]) m lost ct).at_ S w) (h0 : 0 ≤ ct) (h1 : ct ≤ 1000000) :
    Calls Try.prog 50 #[.pointer (some ⟨bs, 0, none⟩)] w fun e w' => e = .returned (.tuple #[.int .i64 i, .bool true]) ∧ Goes (Shade bs bt bp n f xs m lost (ct + 1)) S w w' := by
  have hb := shade_blk h
  have g1 := shade_count h
  have hb1 := g1.shadeBlk
  have c0 : w.cell? ⟨bs, 2, none⟩ = some (.int .i64 ct) := by rw [hb.cell]; rfl
  have c1 : w.frozen? ⟨bs, 2, none⟩ = false := hb.free 2
  have d0 : (w.setCell ⟨bs, 2, none⟩ (.int .i64 (ct + 1))).cell? ⟨bs, 1, none⟩ = some (.pointer (some ⟨bp, 0, none⟩)) := by rw [hb1.cell]; rfl
  have HK := Lib.hid (shade_pile g1 fun S h => pile_pop h)
  clear hb g1 hb1 h
  go_enter Try.func50, Try.ntmps50
  go_wp2_with fail
  with_reducible refine HK.out.mono ?_
  rintro e w' ⟨rfl, g2⟩
  have G2 := Lib.hid g2
  clear g2
  go_wp2_with fail
  go_ret2
  exact ⟨rfl, G2.out⟩

set_option maxHeartbeats 800000 in
theorem shade_lost (h : (Shade bs bt bp n f xs m lost ct).at_ S w) (h0 : 0 ≤ ct) (h1 : ct ≤ 1000000) :
    Calls Try.prog 51 #[.pointer (some ⟨bs, 0, none⟩)] w fun e w' => e = .returned (.bool lost) ∧ Goes (Shade bs bt bp n f xs m false (ct + 1)) S w w' := by
  have hb := shade_blk h
  have g1 := shade_count h
  have hb1 := g1.shadeBlk
  have c0 : w.cell? ⟨bs, 2, none⟩ = some (.int .i64 ct) := by rw [hb.cell]; rfl
  have c1 : w.frozen? ⟨bs, 2, none⟩ = false := hb.free 2
  have d0 : (w.setCell ⟨bs, 2, none⟩ (.int .i64 (ct + 1))).cell? ⟨bs, 1, none⟩ = some (.pointer (some ⟨bp, 0, none⟩)) := by rw [hb1.cell]; rfl
  have HL := Lib.hid (shade_lookP g1 fun S h => pile_lost h)
  have HK := Lib.hid (shade_pile g1 fun S h => pile_found h)
  clear hb g1 hb1 h
  go_enter Try.func51, Try.ntmps51
  go_wp2_with fail
  with_reducible refine HL.out.mono ?_
  rintro e w' ⟨rfl, rfl⟩
  go_wp2_with fail
  with_reducible refine HK.out.mono ?_
  rintro e w' ⟨rfl, g2⟩
  have G2 := Lib.hid g2
  clear g2
  go_wp2_with fail
  go_ret
  exact ⟨rfl, G2.out⟩

set_option maxHeartbeats 400000 in
theorem shade_len (h : (Shade bs bt bp n f xs m lost ct).at_ S w) :
    Calls Try.prog 52 #[.pointer (some ⟨bs, 0, none⟩)] w fun e w' => e = .returned (.int .i64 (xs.length : Int)) ∧ w = w' := by
  have hb := shade_blk h
  have c0 : w.cell? ⟨bs, 1, none⟩ = some (.pointer (some ⟨bp, 0, none⟩)) := by rw [hb.cell]; rfl
  have HK := Lib.hid (shade_lookP (Goes.same h) fun S h => pile_len h)
  clear hb h
  go_enter Try.func52, Try.ntmps52
  go_wp2_with fail
  with_reducible refine HK.out.mono ?_
  rintro e w' ⟨rfl, rfl⟩
  go_wp2_with fail
  go_ret
  exact ⟨rfl, rfl⟩
set_option maxHeartbeats 400000 in
theorem shade_counted (h : (Shade bs bt bp n f xs m lost ct).at_ S w) :
    Calls Try.prog 54 #[.pointer (some ⟨bs, 0, none⟩)] w fun e w' => e = .returned (.int .i64 ct) ∧ w = w' := by
  have hb := shade_blk h
  have c0 : w.cell? ⟨bs, 2, none⟩ = some (.int .i64 ct) := by rw [hb.cell]; rfl
  clear hb h
  go_enter Try.func54, Try.ntmps54
  go_wp2_with fail
  go_ret
  exact ⟨rfl, rfl⟩

set_option maxHeartbeats 800000 in
theorem shade_grey_no (i : Int) (s : Bool) (h : (Shade bs bt bp n f xs m lost ct).at_ S w) (h0 : 0 ≤ ct) (h1 : ct ≤ 1000000) (hw : sWhite n f i s = false) :
    Calls Try.prog 49 #[.pointer (some ⟨bs, 0, none⟩), .int .i64 i, .bool s] w fun e w' => e = .returned (.bool false) ∧ Goes (Shade bs bt bp n f xs m lost (ct + 1)) S w w' := by
  have hb := shade_blk h
  have g1 := shade_count h
  have hb1 := g1.shadeBlk
  have c0 : w.cell? ⟨bs, 2, none⟩ = some (.int .i64 ct) := by rw [hb.cell]; rfl
  have c1 : w.frozen? ⟨bs, 2, none⟩ = false := hb.free 2
  have d0 : (w.setCell ⟨bs, 2, none⟩ (.int .i64 (ct + 1))).cell? ⟨bs, 0, none⟩ = some (.pointer (some ⟨bt, 0, none⟩)) := by rw [hb1.cell]; rfl
  have HW := Lib.hid (shade_tab g1 fun S h => shade_white i s h)
  rw [hw] at HW
  clear hb g1 hb1 h hw
  go_enter Try.func49, Try.ntmps49
  go_wp2_with fail
  with_reducible refine HW.out.mono ?_
  rintro e w' ⟨rfl, g2⟩
  have G2 := Lib.hid g2
  clear g2
  go_wp2_with fail
  go_ret
  exact ⟨rfl, G2.out⟩
set_option maxHeartbeats 1600000 in
theorem shade_grey_yes {xs' : List Int} {lost' r : Bool} (i : Int) (s : Bool) (h : (Shade bs bt bp n f xs m lost ct).at_ S w) (h0 : 0 ≤ ct) (h1 : ct ≤ 1000000) (hw : sWhite n f i s = true)
    (hp : ∀ S w, (Pile bp xs m lost).at_ S w → Calls Try.prog 18 #[.pointer (some ⟨bp, 0, none⟩), .int .i64 i] w fun e w' => e = .returned (.bool r) ∧ Goes (Pile bp xs' m lost') S w w') :
    Calls Try.prog 49 #[.pointer (some ⟨bs, 0, none⟩), .int .i64 i, .bool s] w fun e w' => e = .returned (.bool true) ∧ Goes (Shade bs bt bp n (tMark n f i s) xs' m lost' (ct + 1)) S w w' := by
  have hb := shade_blk h
  have g1 := shade_count h
  have hb1 := g1.shadeBlk
  have c0 : w.cell? ⟨bs, 2, none⟩ = some (.int .i64 ct) := by rw [hb.cell]; rfl
  have c1 : w.frozen? ⟨bs, 2, none⟩ = false := hb.free 2
  have d0 : (w.setCell ⟨bs, 2, none⟩ (.int .i64 (ct + 1))).cell? ⟨bs, 0, none⟩ = some (.pointer (some ⟨bt, 0, none⟩)) := by rw [hb1.cell]; rfl
  have HW := Lib.hid (shade_tab g1 fun S h => shade_white i s h)
  have HPP := Lib.hid hp
  rw [hw] at HW
  clear hb g1 hb1 h hw hp
  go_enter Try.func49, Try.ntmps49
  go_wp2_with fail
  with_reducible refine HW.out.mono ?_
  rintro e w1 ⟨rfl, g2⟩
  have hb2 := g2.shadeBlk
  have e0 : w1.cell? ⟨bs, 0, none⟩ = some (.pointer (some ⟨bt, 0, none⟩)) := by rw [hb2.cell]; rfl
  have HM := Lib.hid (shade_tab g2 fun S h => tint_mark i s h)
  clear g2 hb2 c0 c1 d0 HW
  go_wp2_with fail
  with_reducible refine HM.out.mono ?_
  rintro e w2 ⟨rfl, g3⟩
  have hb3 := g3.shadeBlk
  have e1 : w2.cell? ⟨bs, 1, none⟩ = some (.pointer (some ⟨bp, 0, none⟩)) := by rw [hb3.cell]; rfl
  have HP := Lib.hid (shade_pile g3 fun S h => HPP.out S w2 h)
  clear g3 hb3 e0 HM HPP
  go_wp2_with fail
  with_reducible refine HP.out.mono ?_
  rintro e w3 ⟨rfl, g4⟩
  have G4 := Lib.hid g4
  clear g4 HP
  go_wp2_with fail
  go_ret
  exact ⟨rfl, G4.out⟩
theorem shade_grey_lt (i : Int) (s : Bool) (h : (Shade bs bt bp n f xs m lost ct).at_ S w) (h0 : 0 ≤ ct) (h1 : ct ≤ 1000000) (hw : sWhite n f i s = true) (hm : (xs.length : Int) < m) (hm2 : m ≤ 256) :
    Calls Try.prog 49 #[.pointer (some ⟨bs, 0, none⟩), .int .i64 i, .bool s] w fun e w' => e = .returned (.bool true) ∧ Goes (Shade bs bt bp n (tMark n f i s) (xs ++ [i]) m lost (ct + 1)) S w w' :=
  shade_grey_yes i s h h0 h1 hw fun _ _ h => pile_push_lt i h hm hm2
theorem shade_grey_eq (i : Int) (s : Bool) (h : (Shade bs bt bp n f xs m lost ct).at_ S w) (h0 : 0 ≤ ct) (h1 : ct ≤ 1000000) (hw : sWhite n f i s = true) (hm : (xs.length : Int) = m) (hm2 : m ≤ 256) :
    Calls Try.prog 49 #[.pointer (some ⟨bs, 0, none⟩), .int .i64 i, .bool s] w fun e w' => e = .returned (.bool true) ∧ Goes (Shade bs bt bp n (tMark n f i s) xs m true (ct + 1)) S w w' :=
  shade_grey_yes i s h h0 h1 hw fun _ _ h => pile_push_eq i h hm hm2
end

set_option maxHeartbeats 800000 in
theorem shade_new (n : Nat) (m : Int) (w : World) (h1 : n ≤ 1024) (h2 : 1 ≤ m) (h3 : m ≤ 256) :
    Calls Try.prog 46 #[.int .i64 n, .int .i64 m] w fun e w' => ∃ bs bt bp, e = .returned (.tuple #[.pointer (some ⟨bs, 0, none⟩), .int .i64 0]) ∧ St w (Shade bs bt bp n blank [] m false 0) w' := by
  go_enter Try.func46, Try.ntmps46
  go_wp2_with fail
  with_reducible refine (tint_new n _ h1).mono ?_
  rintro e w1 ⟨bt, rfl, hP, hB⟩
  have hs := St.begin (Below.refl _ w) hP hB
  clear hP hB
  have HS := Lib.hid hs
  clear hs
  go_wp2_with fail
  with_reducible refine (pile_new m _ h2 h3).mono ?_
  rintro e w2 ⟨bp, rfl, hP, hB⟩
  have hs := Lib.hid (HS.out.more hP hB)
  clear hP hB HS
  go_wp2_with fail
  go_ret2
  exact ⟨_, bt, bp, rfl, (hs.out.var _ _).swap⟩
set_option maxHeartbeats 800000 in
theorem shade_no_table (n m : Int) (w : World) (h : n < 0 ∨ 1024 < n) :
    Calls Try.prog 46 #[.int .i64 n, .int .i64 m] w fun e w' => e = .returned (.tuple #[.pointer none, .int .i64 1]) ∧ w = w' := by
  go_enter Try.func46, Try.ntmps46
  go_wp2_with fail
  with_reducible refine (tint_new_no n _ h).mono ?_
  rintro e w1 ⟨rfl, rfl⟩
  clear h
  go_wp2_with fail
  go_ret2
  exact ⟨rfl, rfl⟩
set_option maxHeartbeats 800000 in
theorem shade_no_pile (n : Nat) (m : Int) (w : World) (h1 : n ≤ 1024) (h : m < 1 ∨ 256 < m) :
    Calls Try.prog 46 #[.int .i64 n, .int .i64 m] w fun e w' => e = .returned (.tuple #[.pointer none, .int .i64 1]) ∧ Below w.heap.size w w' := by
  go_enter Try.func46, Try.ntmps46
  go_wp2_with fail
  with_reducible refine (tint_new n _ h1).mono ?_
  rintro e w1 ⟨bt, rfl, hP, hB⟩
  have HS := Lib.hid hB
  clear hP hB
  go_wp2_with fail
  with_reducible refine (pile_new_no m _ h).mono ?_
  rintro e w2 ⟨rfl, rfl⟩
  clear h
  go_wp2_with fail
  go_ret2
  exact ⟨rfl, HS.out⟩
end Go.Proofs.Ytcdmlimhkmbiiaa
