/- More contracts of package coil. -/
import Derived.Test.YtedkdbholfnjkaaCoil
namespace Go.Proofs.Ytedkdbholfnjkaa
open Go.RowKit

theorem St.fresh {w : World} (cs : Array Value) (t : TypeId) : St w (Var w.heap.size cs t) (w.alloc (.cells cs t)) := 
  ⟨⟨fun k => k = w.heap.size, ⟨Blk.new _ _ _, rfl, fun _ h => h⟩, fun _ h => Nat.le_of_eq h.symm⟩, (Below.refl _ w).alloc (Nat.le_refl _) _⟩

def cNew : Cs := ⟨false, 0, 0, 0⟩
def Cs.skip (c : Cs) (n : Int) : Cs := ⟨c.cur, c.u0, c.u1, c.k - n⟩

set_option maxHeartbeats 400000 in
theorem coil_new (s : Int) (w : World) (h0 : 0 ≤ s) (h1 : s ≤ 2048) :
    Calls Try.prog 8 #[.int .i64 s] w fun e w' => ∃ b, e = .returned (.tuple #[.pointer (some ⟨b, 0, none⟩), .int .i64 0]) ∧ St w (Coil b s cNew) w' := by
  go_enter Try.func8, Try.ntmps8
  go_wp2_with fail
  go_ret2
  exact ⟨_, rfl, St.fresh _ _⟩
theorem coil_new_no (s : Int) (w : World) (h : s < 0 ∨ 2048 < s) :
    Calls Try.prog 8 #[.int .i64 s] w fun e w' => e = .returned (.tuple #[.pointer none, .int .i64 1]) ∧ w = w' := by
  go_enter Try.func8, Try.ntmps8
  go_wp2_with fail
  all_goals
    go_ret2
    exact ⟨rfl, rfl⟩

section
variable {b : Nat} {s : Int} {c : Cs} {S : Nat → Prop} {w : World}

set_option maxHeartbeats 800000 in
theorem coil_turn_no (hg : Good s c) (ht : 0 < c.there) (h : (Coil b s c).at_ S w) : Calls Try.prog 12 #[.pointer (some ⟨b, 0, none⟩)] w fun e w' => e = .returned (.bool false) ∧ Goes (Coil b s c) S w w' := by
  obtain ⟨c0, c1, c2, c3, c4, -⟩ := coil_cells h.1
  have HG := Lib.hid (drewN_goes h)
  clear h
  obtain ⟨cur, u0, u1, k⟩ := c
  simp only [Good, Cs.here] at hg
  obtain ⟨g1, g2, g3, g4, g5, g6, g7, g8⟩ := hg
  cases cur
  all_goals
    simp only [cN, Cs.there, Bool.false_eq_true, if_true, if_false] at c1 c2 c3 c4 g3 g4 g5 g6 g7 g8 ht
    go_enter Try.func12, Try.ntmps12
    go_wp2_with fail
    go_quiet (fail)
    go_wp2_with fail
    go_ret
    exact ⟨rfl, HG.out _⟩
set_option maxHeartbeats 1600000 in
theorem coil_turn (hg : Good s c) (ht : c.there = 0) (h : (Coil b s c).at_ S w) : Calls Try.prog 12 #[.pointer (some ⟨b, 0, none⟩)] w fun e w' => e = .returned (.bool true) ∧ Goes (Coil b s c.turn) S w w' := by
  obtain ⟨c0, c1, c2, c3, c4, -⟩ := coil_cells h.1
  have G := Lib.hid (drewN_goes h)
  clear h
  obtain ⟨cur, u0, u1, k⟩ := c
  simp only [Good, Cs.here] at hg
  obtain ⟨g1, g2, g3, g4, g5, g6, g7, g8⟩ := hg
  cases cur
  · simp only [cN, Cs.there, Cs.turn, Cs.here, Bool.false_eq_true, if_false, Bool.not_false] at c1 c2 c3 g3 g4 g5 g6 g7 g8 ht ⊢
    subst ht
    go_enter Try.func12, Try.ntmps12
    go_wp2_with fail
    go_quiet (fail)
    have G1 := G.out nq
    clear G c0 c1 c2 c3 c4
    generalize w.drewN nq = W1 at *
    obtain ⟨c0, c1, c2, c3, c4, f1, f2, f3, f4⟩ := coil_cells G1.now.choose_spec.1.1
    have G2 := Lib.hid (G1.then fun S h => (drew_goes h).then fun S h => (var_set h 4 (.int .i64 u0)).then fun S h => var_set h 1 (.int .i64 1))
    clear G1
    simp only [cN, Bool.false_eq_true, if_false] at c1 c2 c3
    go_wp2_with fail
    go_still_tail 12, (by kernel_rfl)
    change wpList _ _ _ _ _ W1.drew
    go_wp2
    go_ret
    exact ⟨rfl, G2.out⟩
  · simp only [cN, Cs.there, Cs.turn, Cs.here, if_true, Bool.not_true] at c1 c2 c3 g3 g4 g5 g6 g7 g8 ht ⊢
    subst ht
    go_enter Try.func12, Try.ntmps12
    go_wp2_with fail
    go_quiet (fail)
    have G1 := G.out nq
    clear G c0 c1 c2 c3 c4
    generalize w.drewN nq = W1 at *
    obtain ⟨c0, c1, c2, c3, c4, f1, f2, f3, f4⟩ := coil_cells G1.now.choose_spec.1.1
    have G2 := Lib.hid (G1.then fun S h => (drew_goes h).then fun S h => (var_set h 4 (.int .i64 u1)).then fun S h => var_set h 1 (.int .i64 0))
    clear G1
    simp only [cN, if_true] at c1 c2 c3
    go_wp2_with fail
    go_still_tail 12, (by kernel_rfl)
    change wpList _ _ _ _ _ W1.drew
    go_wp2
    go_ret
    exact ⟨rfl, G2.out⟩

theorem coil_skip_no (n : Int) (hn : n < 1 ∨ c.k < n) (h : (Coil b s c).at_ S w) : Calls Try.prog 16 #[.pointer (some ⟨b, 0, none⟩), .int .i64 n] w fun e w' => e = .returned (.bool false) ∧ w = w' := by
  obtain ⟨c0, c1, c2, c3, c4, -⟩ := coil_cells h.1
  clear h
  go_enter Try.func16, Try.ntmps16
  go_wp2_with fail
  all_goals
    go_ret
    exact ⟨rfl, rfl⟩
theorem coil_skip (n : Int) (hg : Good s c) (h0 : 1 ≤ n) (hn : n ≤ c.k) (h : (Coil b s c).at_ S w) : Calls Try.prog 16 #[.pointer (some ⟨b, 0, none⟩), .int .i64 n] w fun e w' => e = .returned (.bool true) ∧ Goes (Coil b s (c.skip n)) S w w' := by
  obtain ⟨c0, c1, c2, c3, c4, f1, f2, f3, f4⟩ := coil_cells h.1
  have G2 := Lib.hid (var_set h 4 (.int .i64 (c.k - n)))
  clear h
  obtain ⟨cur, u0, u1, k⟩ := c
  simp only [Good, Cs.here] at hg
  obtain ⟨g1, g2, g3, g4, g5, g6, g7, g8⟩ := hg
  simp only at hn c4 g7
  have e1 : u0 ≤ 2048 := by omega
  have e2 : k ≤ 2048 := by cases cur <;> simp at g8 <;> omega
  clear g8 c1 c2 c3
  go_enter Try.func16, Try.ntmps16
  go_wp2_with fail
  go_ret
  exact ⟨rfl, G2.out⟩
theorem coil_done_no (hn : 0 < c.k) (h : (Coil b s c).at_ S w) : Calls Try.prog 18 #[.pointer (some ⟨b, 0, none⟩)] w fun e w' => e = .returned (.bool false) ∧ w = w' := by
  obtain ⟨c0, c1, c2, c3, c4, -⟩ := coil_cells h.1
  clear h
  go_enter Try.func18, Try.ntmps18
  go_wp2_with fail
  go_ret
  exact ⟨rfl, rfl⟩
set_option maxHeartbeats 800000 in
theorem coil_done (hn : c.k = 0) (h : (Coil b s c).at_ S w) : Calls Try.prog 18 #[.pointer (some ⟨b, 0, none⟩)] w fun e w' => e = .returned (.bool true) ∧ Goes (Coil b s c.done) S w w' := by
  obtain ⟨c0, c1, c2, c3, c4, f1, f2, f3, f4⟩ := coil_cells h.1
  have G := Lib.hid fun i => (drew_goes h).then fun S h => var_set h i (.int .i64 0)
  clear h
  obtain ⟨cur, u0, u1, k⟩ := c
  simp only at hn
  subst hn
  cases cur
  · simp only [cN, Cs.done, Bool.false_eq_true, if_false] at c1 c2 c3 ⊢
    go_enter Try.func18, Try.ntmps18
    go_wp2_with fail
    go_region
    go_wp2
    go_ret
    exact ⟨rfl, G.out 3⟩
  · simp only [cN, Cs.done, if_true] at c1 c2 c3 ⊢
    go_enter Try.func18, Try.ntmps18
    go_wp2_with fail
    go_region
    go_wp2
    go_ret
    exact ⟨rfl, G.out 2⟩
theorem coil_take_no (n : Int) (hg : Good s c) (hn : n < 1 ∨ c.room s < n) (h : (Coil b s c).at_ S w) : Calls Try.prog 10 #[.pointer (some ⟨b, 0, none⟩), .int .i64 n] w fun e w' => e = .returned (.tuple #[.int .i64 0, .bool false]) ∧ Goes (Coil b s c) S w w' := by
  have HS := Lib.hid (Goes.same h)
  have HR := Lib.hid (coil_room hg h)
  clear h hg
  by_cases h1 : n < 1
  · clear hn
    go_enter Try.func10, Try.ntmps10
    go_wp2_with fail
    go_ret2
    exact ⟨rfl, HS.out⟩
  · generalize c.room s = r at *
    have hn' : r < n := by omega
    clear hn
    go_enter Try.func10, Try.ntmps10
    go_wp2_with fail
    with_reducible refine HR.out.mono ?_
    rintro e w' ⟨rfl, g⟩
    have HG := Lib.hid g
    clear g
    go_wp2_with fail
    go_ret2
    exact ⟨rfl, HG.out⟩
theorem coil_take (n : Int) (hg : Good s c) (h0 : 1 ≤ n) (hn : n ≤ c.room s) (h : (Coil b s c).at_ S w) : Calls Try.prog 10 #[.pointer (some ⟨b, 0, none⟩), .int .i64 n] w fun e w' => e = .returned (.tuple #[.int .i64 c.here, .bool true]) ∧ Goes (Coil b s (c.lay n)) S w w' := by
  have h2 : n ≤ 2048 := by obtain ⟨cur, u0, u1, k⟩ := c; simp only [Good, Cs.here, Cs.room] at hg hn; cases cur <;> simp at hg hn <;> omega
  have HR := Lib.hid (coil_room hg h)
  have HL := Lib.hid fun w1 (g : Goes (Coil b s c) S w w1) => g.call fun S h => coil_lays n hg h0 h2 h
  clear h hg
  generalize c.room s = r at *
  go_enter Try.func10, Try.ntmps10
  go_wp2_with fail
  with_reducible refine HR.out.mono ?_
  rintro e w' ⟨rfl, g⟩
  have HG := Lib.hid (HL.out _ g)
  clear g HL HR
  go_wp2_with fail
  with_reducible refine HG.out.mono ?_
  rintro e w' ⟨rfl, g⟩
  have HG := Lib.hid g
  clear g
  go_wp2_with fail
  go_ret2
  exact ⟨rfl, HG.out⟩
theorem coil_copy_no (n : Int) (hn : n < 1 ∨ c.k < n) (h : (Coil b s c).at_ S w) : Calls Try.prog 14 #[.pointer (some ⟨b, 0, none⟩), .int .i64 n] w fun e w' => e = .returned (.tuple #[.int .i64 0, .bool false]) ∧ w = w' := by
  have HR := Lib.hid (coil_skip_no n hn h)
  clear h hn
  go_enter Try.func14, Try.ntmps14
  go_wp2_with fail
  with_reducible refine HR.out.mono ?_
  rintro e w' ⟨rfl, rfl⟩
  go_wp2_with fail
  go_ret2
  exact ⟨rfl, rfl⟩
theorem Good.skip {n : Int} (hg : Good s c) (h0 : 1 ≤ n) (hn : n ≤ c.k) : Good s (c.skip n) := by
  obtain ⟨cur, u0, u1, k⟩ := c; simp only [Good, Cs.here, Cs.skip] at hg hn ⊢; cases cur <;> simp at hg hn ⊢ <;> omega
theorem Good.lay {n : Int} (hg : Good s c) (h0 : 1 ≤ n) (hn : n ≤ c.room s) : Good s (c.lay n) := by
  obtain ⟨cur, u0, u1, k⟩ := c; simp only [Good, Cs.here, Cs.lay, Cs.room] at hg hn ⊢; cases cur <;> simp at hg hn ⊢ <;> omega
theorem Good.turn (hg : Good s c) (ht : c.there = 0) : Good s c.turn := by
  obtain ⟨cur, u0, u1, k⟩ := c; simp only [Good, Cs.here, Cs.turn, Cs.there] at hg ht ⊢; cases cur <;> simp at hg ht ⊢ <;> omega
theorem Good.done (hg : Good s c) : Good s c.done := by
  obtain ⟨cur, u0, u1, k⟩ := c; simp only [Good, Cs.here, Cs.done] at hg ⊢; cases cur <;> simp at hg ⊢ <;> omega
theorem coil_copy (n : Int) (hg : Good s c) (h0 : 1 ≤ n) (hn : n ≤ c.k) (h : (Coil b s c).at_ S w) : Calls Try.prog 14 #[.pointer (some ⟨b, 0, none⟩), .int .i64 n] w fun e w' => e = .returned (.tuple #[.int .i64 c.here, .bool true]) ∧ Goes (Coil b s ((c.skip n).lay n)) S w w' := by
  have h2 : n ≤ 2048 := by obtain ⟨cur, u0, u1, k⟩ := c; simp only [Good, Cs.here] at hg hn; cases cur <;> simp at hg hn <;> omega
  have HR := Lib.hid (coil_skip n hg h0 hn h)
  have HL := Lib.hid fun w1 (g : Goes (Coil b s (c.skip n)) S w w1) => g.call fun S h => coil_lays n (hg.skip h0 hn) h0 h2 h
  have e : (c.skip n).here = c.here := rfl
  rw [e] at HL
  clear h hg e
  go_enter Try.func14, Try.ntmps14
  go_wp2_with fail
  with_reducible refine HR.out.mono ?_
  rintro e w' ⟨rfl, g⟩
  have HG := Lib.hid (HL.out _ g)
  clear g HL HR
  go_wp2_with fail
  with_reducible refine HG.out.mono ?_
  rintro e w' ⟨rfl, g⟩
  have HG := Lib.hid g
  clear g
  go_wp2_with fail
  go_ret2
  exact ⟨rfl, HG.out⟩
end

theorem good_new {s : Int} (h0 : 0 ≤ s) (h1 : s ≤ 2048) : Good s cNew := by simp [Good, cNew, Cs.here]; omega
set_option maxHeartbeats 1600000 in
theorem coil_first (W : World) :
    Calls Try.prog 7 #[] W fun e w' => e = .returned (.bool true) ∧ Below W.heap.size W w' := by
  have g1 := good_new (s := 5) (by omega) (by omega)
  have g2 : Good 5 (cNew.lay 3) := by unfold Good; decide
  have g3 : Good 5 (cNew.lay 3).turn := by unfold Good; decide
  go_enter Try.func7, Try.ntmps7
  go_wp2_with fail
  with_reducible refine (coil_new 5 _ (by omega) (by omega)).mono ?_
  rintro e w1 ⟨b, rfl, h1⟩
  go_wp2_with fail
  with_reducible refine (h1.call fun S h => coil_take 3 g1 (by omega) (by decide) h).mono ?_
  rintro e w2 ⟨rfl, h2⟩
  rw [show cNew.here = 0 from rfl]
  clear h1
  go_wp2_with fail
  with_reducible refine (h2.call fun S h => coil_turn g2 rfl h).mono ?_
  rintro e w3 ⟨rfl, h3⟩
  clear h2
  go_wp2_with fail
  with_reducible refine (h3.look fun S h => coil_left h).mono ?_
  rintro e w4 ⟨rfl, rfl⟩
  rw [show (cNew.lay 3).turn.k = 3 from rfl]
  go_wp2_with fail
  with_reducible refine (h3.call fun S h => coil_room g3 h).mono ?_
  rintro e w4 ⟨rfl, h4⟩
  rw [show (cNew.lay 3).turn.room 5 = 2 from rfl]
  clear h3
  go_wp2_with fail
  with_reducible refine (h4.look fun S h => coil_current h).mono ?_
  rintro e w5 ⟨rfl, rfl⟩
  rw [show cN (cNew.lay 3).turn.cur = 1 from rfl]
  go_wp2_with fail
  with_reducible refine (h4.look fun S h => coil_used0 h).mono ?_
  rintro e w5 ⟨rfl, rfl⟩
  rw [show (cNew.lay 3).turn.u0 = 3 from rfl]
  go_wp2_with fail
  go_ret
  exact ⟨rfl, h4.below⟩
end Go.Proofs.Ytedkdbholfnjkaa
