/- The contracts of the document's coil. -/
import Derived.Test.YtedkdbholfnjkaaCoil2
namespace Go.Proofs.Ytedkdbholfnjkaa
open Go.RowKit
set_option linter.unusedVariables false
set_option linter.unusedSimpArgs false

def rcc (s : Int) (c : Cs) : Array Value := #[.int .i64 s, .int .i64 (cN c.cur), .int .i64 c.k, .int .i64 c.u0, .int .i64 c.u1]
def RCoil (b : Nat) (s : Int) (c : Cs) : Thing := Var b (rcc s c) 39
theorem rcoil_new (s : Int) (w : World) (h0 : 0 ≤ s) (h1 : s ≤ 2048) :
    Calls Try.prog 9 #[.int .i64 s] w fun e w' => ∃ b, e = .returned (.tuple #[.pointer (some ⟨b, 0, none⟩), .int .i64 0]) ∧ St w (RCoil b s cNew) w' := by
  go_enter Try.func9, Try.ntmps9
  go_wp2_with fail
  go_ret2
  exact ⟨_, rfl, St.fresh _ _⟩
theorem rcoil_new_no (s : Int) (w : World) (h : s < 0 ∨ 2048 < s) :
    Calls Try.prog 9 #[.int .i64 s] w fun e w' => e = .returned (.tuple #[.pointer none, .int .i64 1]) ∧ w = w' := by
  go_enter Try.func9, Try.ntmps9
  go_wp2_with fail
  all_goals
    go_ret2
    exact ⟨rfl, rfl⟩

section
variable {b : Nat} {s : Int} {c : Cs} {S : Nat → Prop} {w : World}
theorem rcoil_cells (h : Blk w b (rcc s c) 39) : w.cell? ⟨b, 0, none⟩ = some (.int .i64 s) ∧ w.cell? ⟨b, 1, none⟩ = some (.int .i64 (cN c.cur)) ∧ w.cell? ⟨b, 2, none⟩ = some (.int .i64 c.k) ∧ w.cell? ⟨b, 3, none⟩ = some (.int .i64 c.u0) ∧ w.cell? ⟨b, 4, none⟩ = some (.int .i64 c.u1) ∧
    w.frozen? ⟨b, 1, none⟩ = false ∧ w.frozen? ⟨b, 2, none⟩ = false ∧ w.frozen? ⟨b, 3, none⟩ = false ∧ w.frozen? ⟨b, 4, none⟩ = false :=
  ⟨by rw [h.cell]; rfl, by rw [h.cell]; rfl, by rw [h.cell]; rfl, by rw [h.cell]; rfl, by rw [h.cell]; rfl, h.free 1, h.free 2, h.free 3, h.free 4⟩
set_option maxHeartbeats 800000 in
theorem rcoil_room (hg : Good s c) (h : (RCoil b s c).at_ S w) : Calls Try.prog 23 #[.pointer (some ⟨b, 0, none⟩)] w fun e w' => e = .returned (.int .i64 (c.room s)) ∧ ∃ m, w' = w.drewN m := by
  obtain ⟨c0, c1, c2, c3, c4, -⟩ := rcoil_cells h.1
  clear h
  obtain ⟨cur, u0, u1, k⟩ := c
  simp only [Good, Cs.here] at hg
  obtain ⟨g1, g2, g3, g4, g5, g6, g7, g8⟩ := hg
  cases cur
  all_goals
    simp only [cN, Cs.room, Cs.here, Bool.false_eq_true, if_true, if_false] at c1 c2 c3 c4 g3 g4 g5 g6 g7 g8 ⊢
    go_enter Try.func23, Try.ntmps23
    go_wp2_with fail
    go_quiet (fail)
    go_wp2_with fail
    go_ret
    exact ⟨rfl, _, rfl⟩
set_option maxHeartbeats 800000 in
theorem rcoil_turn_no (hg : Good s c) (ht : 0 < c.there) (h : (RCoil b s c).at_ S w) : Calls Try.prog 13 #[.pointer (some ⟨b, 0, none⟩)] w fun e w' => e = .returned (.bool false) ∧ Goes (RCoil b s c) S w w' := by
  obtain ⟨c0, c1, c2, c3, c4, -⟩ := rcoil_cells h.1
  have HG := Lib.hid (drewN_goes h)
  clear h
  obtain ⟨cur, u0, u1, k⟩ := c
  simp only [Good, Cs.here] at hg
  obtain ⟨g1, g2, g3, g4, g5, g6, g7, g8⟩ := hg
  cases cur
  all_goals
    simp only [cN, Cs.there, Bool.false_eq_true, if_true, if_false] at c1 c2 c3 c4 g3 g4 g5 g6 g7 g8 ht
    go_enter Try.func13, Try.ntmps13
    go_wp2_with fail
    go_quiet (fail)
    go_wp2_with fail
    go_ret
    exact ⟨rfl, HG.out _⟩
set_option maxHeartbeats 3200000 in
theorem rcoil_turn (hg : Good s c) (ht : c.there = 0) (h : (RCoil b s c).at_ S w) : Calls Try.prog 13 #[.pointer (some ⟨b, 0, none⟩)] w fun e w' => e = .returned (.bool true) ∧ Goes (RCoil b s c.turn) S w w' := by
  obtain ⟨c0, c1, c2, c3, c4, -⟩ := rcoil_cells h.1
  have G := Lib.hid (drewN_goes h)
  clear h
  obtain ⟨cur, u0, u1, k⟩ := c
  simp only [Good, Cs.here] at hg
  obtain ⟨g1, g2, g3, g4, g5, g6, g7, g8⟩ := hg
  cases cur
  · simp only [cN, Cs.there, Cs.turn, Cs.here, Bool.false_eq_true, if_true, if_false, Bool.not_false, Bool.not_true] at c1 c2 c3 c4 g3 g4 g5 g6 g7 g8 ht ⊢
    subst ht
    go_enter Try.func13, Try.ntmps13
    go_wp2_with fail
    go_quiet (fail)
    have G1 := G.out nq
    clear G c0 c1 c2 c3 c4
    generalize w.drewN nq = W1 at *
    obtain ⟨c0, c1, c2, c3, c4, f1, f2, f3, f4⟩ := rcoil_cells G1.now.choose_spec.1.1
    have G2 := Lib.hid (G1.then fun S h => (drew_goes h).then fun S h => (var_set h 2 (.int .i64 u0)).then fun S h => var_set h 1 (.int .i64 1))
    clear G1
    simp only [cN, Bool.false_eq_true, if_true, if_false] at c1 c2 c3 c4
    go_wp2_with fail
    go_still_tail 12, (by kernel_rfl)
    change wpList _ _ _ _ _ W1.drew
    go_wp2
    go_ret
    exact ⟨rfl, G2.out⟩
  · simp only [cN, Cs.there, Cs.turn, Cs.here, Bool.false_eq_true, if_true, if_false, Bool.not_false, Bool.not_true] at c1 c2 c3 c4 g3 g4 g5 g6 g7 g8 ht ⊢
    subst ht
    go_enter Try.func13, Try.ntmps13
    go_wp2_with fail
    go_quiet (fail)
    have G1 := G.out nq
    clear G c0 c1 c2 c3 c4
    generalize w.drewN nq = W1 at *
    obtain ⟨c0, c1, c2, c3, c4, f1, f2, f3, f4⟩ := rcoil_cells G1.now.choose_spec.1.1
    have G2 := Lib.hid (G1.then fun S h => (drew_goes h).then fun S h => (var_set h 2 (.int .i64 u1)).then fun S h => var_set h 1 (.int .i64 0))
    clear G1
    simp only [cN, Bool.false_eq_true, if_true, if_false] at c1 c2 c3 c4
    go_wp2_with fail
    go_still_tail 12, (by kernel_rfl)
    change wpList _ _ _ _ _ W1.drew
    go_wp2
    go_ret
    exact ⟨rfl, G2.out⟩
theorem rcoil_skip_no (n : Int) (hn : n < 1 ∨ c.k < n) (h : (RCoil b s c).at_ S w) : Calls Try.prog 17 #[.pointer (some ⟨b, 0, none⟩), .int .i64 n] w fun e w' => e = .returned (.bool false) ∧ w = w' := by
  obtain ⟨c0, c1, c2, c3, c4, -⟩ := rcoil_cells h.1
  clear h
  go_enter Try.func17, Try.ntmps17
  go_wp2_with fail
  all_goals
    go_ret
    exact ⟨rfl, rfl⟩
theorem rcoil_skip (n : Int) (hg : Good s c) (h0 : 1 ≤ n) (hn : n ≤ c.k) (h : (RCoil b s c).at_ S w) : Calls Try.prog 17 #[.pointer (some ⟨b, 0, none⟩), .int .i64 n] w fun e w' => e = .returned (.bool true) ∧ Goes (RCoil b s (c.skip n)) S w w' := by
  obtain ⟨c0, c1, c2, c3, c4, f1, f2, f3, f4⟩ := rcoil_cells h.1
  have G2 := Lib.hid (var_set h 2 (.int .i64 (c.k - n)))
  clear h
  obtain ⟨cur, u0, u1, k⟩ := c
  simp only [Good, Cs.here] at hg
  obtain ⟨g1, g2, g3, g4, g5, g6, g7, g8⟩ := hg
  simp only at hn c2 g7
  have e1 : u0 ≤ 2048 := by omega
  have e2 : k ≤ 2048 := by cases cur <;> simp at g8 <;> omega
  clear g8 c1 c3 c4
  go_enter Try.func17, Try.ntmps17
  go_wp2_with fail
  go_ret
  exact ⟨rfl, G2.out⟩
theorem rcoil_done_no (hn : 0 < c.k) (h : (RCoil b s c).at_ S w) : Calls Try.prog 19 #[.pointer (some ⟨b, 0, none⟩)] w fun e w' => e = .returned (.bool false) ∧ w = w' := by
  obtain ⟨c0, c1, c2, c3, c4, -⟩ := rcoil_cells h.1
  have hz : (c.k == 0) = false := by simp; omega
  clear h
  go_enter Try.func19, Try.ntmps19
  go_wp2_with fail
  go_ret
  exact ⟨rfl, rfl⟩
set_option maxHeartbeats 1600000 in
theorem rcoil_done (hn : c.k = 0) (h : (RCoil b s c).at_ S w) : Calls Try.prog 19 #[.pointer (some ⟨b, 0, none⟩)] w fun e w' => e = .returned (.bool true) ∧ Goes (RCoil b s c.done) S w w' := by
  obtain ⟨c0, c1, c2, c3, c4, f1, f2, f3, f4⟩ := rcoil_cells h.1
  have G := Lib.hid fun i => (drew_goes h).then fun S h => var_set h i (.int .i64 0)
  clear h
  obtain ⟨cur, u0, u1, k⟩ := c
  simp only at hn
  subst hn
  cases cur
  · simp only [cN, Cs.done, Bool.false_eq_true, if_false] at c1 c2 c3 ⊢
    go_enter Try.func19, Try.ntmps19
    go_wp2_with fail
    go_region
    go_wp2
    go_ret
    exact ⟨rfl, G.out 4⟩
  · simp only [cN, Cs.done, if_true] at c1 c2 c3 ⊢
    go_enter Try.func19, Try.ntmps19
    go_wp2_with fail
    go_region
    go_wp2
    go_ret
    exact ⟨rfl, G.out 3⟩
theorem rcoil_take_no (n : Int) (hg : Good s c) (hn : n < 1 ∨ c.room s < n) (h : (RCoil b s c).at_ S w) : Calls Try.prog 11 #[.pointer (some ⟨b, 0, none⟩), .int .i64 n] w fun e w' => e = .returned (.tuple #[.int .i64 0, .bool false]) ∧ Goes (RCoil b s c) S w w' := by
  have HS := Lib.hid (drewN_goes h)
  have HR := Lib.hid (rcoil_room hg h)
  clear h hg
  by_cases h1 : n < 1
  · clear hn
    go_enter Try.func11, Try.ntmps11
    go_wp2_with fail
    go_ret2
    exact ⟨rfl, HS.out 0⟩
  · generalize c.room s = r at *
    have hn' : r < n := by omega
    clear hn
    go_enter Try.func11, Try.ntmps11
    go_wp2_with fail
    with_reducible refine HR.out.mono ?_
    rintro e w' ⟨rfl, m, rfl⟩
    go_wp2_with fail
    go_ret2
    exact ⟨rfl, HS.out m⟩
set_option maxHeartbeats 6400000 in
theorem rcoil_take (n : Int) (hg : Good s c) (h0 : 1 ≤ n) (hn : n ≤ c.room s) (h : (RCoil b s c).at_ S w) : Calls Try.prog 11 #[.pointer (some ⟨b, 0, none⟩), .int .i64 n] w fun e w' => e = .returned (.tuple #[.int .i64 c.here, .bool true]) ∧ Goes (RCoil b s (c.lay n)) S w w' := by
  have HR := Lib.hid (rcoil_room hg h)
  have G := Lib.hid (drewN_goes h)
  clear h
  obtain ⟨cur, u0, u1, k⟩ := c
  simp only [Good, Cs.here] at hg
  obtain ⟨g1, g2, g3, g4, g5, g6, g7, g8⟩ := hg
  cases cur
  · simp only [Cs.room, Cs.here, Cs.lay, Bool.false_eq_true, if_true, if_false] at HR hn g3 g4 g5 g6 g7 g8 ⊢
    have HR2 := HR.out
    have HR3 : Hid (Calls Try.prog 23 #[.pointer (some ⟨b, 0, none⟩)] w fun e w' => e = .returned (.int .i64 (s - u0 - k)) ∧ ∃ m, w' = w.drewN m) := HR2
    clear HR HR2
    go_enter Try.func11, Try.ntmps11
    go_wp2_with fail
    with_reducible refine HR3.out.mono ?_
    rintro e w' ⟨rfl, m, rfl⟩
    clear HR3
    go_wp2_with fail
    have G1 := G.out m
    clear G
    generalize w.drewN m = W1 at *
    obtain ⟨c0, c1, c2, c3, c4, f1, f2, f3, f4⟩ := rcoil_cells G1.now.choose_spec.1.1
    have G2 := G1.then fun S h => (var_set h 3 (.int .i64 (u0 + n))).then fun S h => drew_goes h
    have GC := G2.conv (O' := RCoil b s ⟨false, u0 + n, u1, k⟩) fun _ _ h => h
    obtain ⟨d0, d1, d2, d3, d4, -⟩ := rcoil_cells GC.now.choose_spec.1.1
    have HG := Lib.hid GC
    clear G1 G2 GC
    simp only [cN, Bool.false_eq_true, if_true, if_false] at c1 c2 c3 c4 d1 d2 d3 d4
    go_wp2_with fail
    go_still_tail 14, (by kernel_rfl)
    change wpList _ _ _ _ _ W1.drew
    go_upto_region 4 with fail
    clear c0 c1 c2 c3 c4 f1 f2 f3 f4
    generalize (W1.setCell ⟨b, 3, none⟩ (.int .i64 (u0 + n))).drew = W2 at *
    go_wp2_with fail
    go_quiet (fail)
    go_wp2_with fail
    go_ret2
    exact ⟨by simp, HG.out.then fun S h => drewN_goes h _⟩
  · simp only [Cs.room, Cs.here, Cs.lay, Bool.false_eq_true, if_true, if_false] at HR hn g3 g4 g5 g6 g7 g8 ⊢
    have HR2 := HR.out
    have HR3 : Hid (Calls Try.prog 23 #[.pointer (some ⟨b, 0, none⟩)] w fun e w' => e = .returned (.int .i64 (s - u1 - k)) ∧ ∃ m, w' = w.drewN m) := HR2
    clear HR HR2
    go_enter Try.func11, Try.ntmps11
    go_wp2_with fail
    with_reducible refine HR3.out.mono ?_
    rintro e w' ⟨rfl, m, rfl⟩
    clear HR3
    go_wp2_with fail
    have G1 := G.out m
    clear G
    generalize w.drewN m = W1 at *
    obtain ⟨c0, c1, c2, c3, c4, f1, f2, f3, f4⟩ := rcoil_cells G1.now.choose_spec.1.1
    have G2 := G1.then fun S h => (var_set h 4 (.int .i64 (u1 + n))).then fun S h => drew_goes h
    have GC := G2.conv (O' := RCoil b s ⟨true, u0, u1 + n, k⟩) fun _ _ h => h
    obtain ⟨d0, d1, d2, d3, d4, -⟩ := rcoil_cells GC.now.choose_spec.1.1
    have HG := Lib.hid GC
    clear G1 G2 GC
    simp only [cN, Bool.false_eq_true, if_true, if_false] at c1 c2 c3 c4 d1 d2 d3 d4
    go_wp2_with fail
    go_still_tail 14, (by kernel_rfl)
    change wpList _ _ _ _ _ W1.drew
    go_upto_region 4 with fail
    clear c0 c1 c2 c3 c4 f1 f2 f3 f4
    generalize (W1.setCell ⟨b, 4, none⟩ (.int .i64 (u1 + n))).drew = W2 at *
    go_wp2_with fail
    go_quiet (fail)
    go_wp2_with fail
    go_ret2
    exact ⟨by simp, HG.out.then fun S h => drewN_goes h _⟩
theorem rcoil_copy_no (n : Int) (hn : n < 1 ∨ c.k < n) (h : (RCoil b s c).at_ S w) : Calls Try.prog 15 #[.pointer (some ⟨b, 0, none⟩), .int .i64 n] w fun e w' => e = .returned (.tuple #[.int .i64 0, .bool false]) ∧ w = w' := by
  obtain ⟨c0, c1, c2, c3, c4, -⟩ := rcoil_cells h.1
  clear h
  go_enter Try.func15, Try.ntmps15
  go_wp2_with fail
  all_goals
    go_ret2
    exact ⟨rfl, rfl⟩
set_option maxHeartbeats 6400000 in
theorem rcoil_copy (n : Int) (hg : Good s c) (h0 : 1 ≤ n) (hn : n ≤ c.k) (h : (RCoil b s c).at_ S w) : Calls Try.prog 15 #[.pointer (some ⟨b, 0, none⟩), .int .i64 n] w fun e w' => e = .returned (.tuple #[.int .i64 c.here, .bool true]) ∧ Goes (RCoil b s ((c.skip n).lay n)) S w w' := by
  obtain ⟨c0, c1, c2, c3, c4, f1, f2, f3, f4⟩ := rcoil_cells h.1
  have G := Lib.hid (var_set h 2 (.int .i64 (c.k - n)))
  clear h
  obtain ⟨cur, u0, u1, k⟩ := c
  simp only [Good, Cs.here] at hg
  obtain ⟨g1, g2, g3, g4, g5, g6, g7, g8⟩ := hg
  cases cur
  · simp only [cN, Cs.here, Cs.skip, Cs.lay, Bool.false_eq_true, if_true, if_false] at hn c1 c2 c3 c4 g3 g4 g5 g6 g7 g8 ⊢
    go_enter Try.func15, Try.ntmps15
    go_wp2_with fail
    have G0 := G.out
    clear G
    have G1 : Goes (RCoil b s ⟨false, u0, u1, k - n⟩) S w (w.setCell ⟨b, 2, none⟩ (.int .i64 (k - n))) := G0
    clear G0 c0 c1 c2 c3 c4 f1 f2 f3 f4
    generalize w.setCell ⟨b, 2, none⟩ (.int .i64 (k - n)) = W1 at *
    obtain ⟨c0, c1, c2, c3, c4, f1, f2, f3, f4⟩ := rcoil_cells G1.now.choose_spec.1.1
    have G2 := G1.then fun S h => (var_set h 3 (.int .i64 (u0 + n))).then fun S h => drew_goes h
    have GC := G2.conv (O' := RCoil b s ⟨false, u0 + n, u1, k - n⟩) fun _ _ h => h
    obtain ⟨d0, d1, d2, d3, d4, -⟩ := rcoil_cells GC.now.choose_spec.1.1
    have HG := Lib.hid GC
    clear G1 G2 GC
    simp only [cN, Bool.false_eq_true, if_true, if_false] at c1 c2 c3 c4 d1 d2 d3 d4
    go_wp2_with fail
    go_still_tail 14, (by kernel_rfl)
    change wpList _ _ _ _ _ W1.drew
    go_upto_region 5 with fail
    clear c0 c1 c2 c3 c4 f1 f2 f3 f4
    generalize (W1.setCell ⟨b, 3, none⟩ (.int .i64 (u0 + n))).drew = W2 at *
    go_wp2_with fail
    go_quiet (fail)
    go_wp2_with fail
    go_ret2
    exact ⟨by simp, HG.out.then fun S h => drewN_goes h _⟩
  · simp only [cN, Cs.here, Cs.skip, Cs.lay, Bool.false_eq_true, if_true, if_false] at hn c1 c2 c3 c4 g3 g4 g5 g6 g7 g8 ⊢
    go_enter Try.func15, Try.ntmps15
    go_wp2_with fail
    have G0 := G.out
    clear G
    have G1 : Goes (RCoil b s ⟨true, u0, u1, k - n⟩) S w (w.setCell ⟨b, 2, none⟩ (.int .i64 (k - n))) := G0
    clear G0 c0 c1 c2 c3 c4 f1 f2 f3 f4
    generalize w.setCell ⟨b, 2, none⟩ (.int .i64 (k - n)) = W1 at *
    obtain ⟨c0, c1, c2, c3, c4, f1, f2, f3, f4⟩ := rcoil_cells G1.now.choose_spec.1.1
    have G2 := G1.then fun S h => (var_set h 4 (.int .i64 (u1 + n))).then fun S h => drew_goes h
    have GC := G2.conv (O' := RCoil b s ⟨true, u0, u1 + n, k - n⟩) fun _ _ h => h
    obtain ⟨d0, d1, d2, d3, d4, -⟩ := rcoil_cells GC.now.choose_spec.1.1
    have HG := Lib.hid GC
    clear G1 G2 GC
    simp only [cN, Bool.false_eq_true, if_true, if_false] at c1 c2 c3 c4 d1 d2 d3 d4
    go_wp2_with fail
    go_still_tail 14, (by kernel_rfl)
    change wpList _ _ _ _ _ W1.drew
    go_upto_region 5 with fail
    clear c0 c1 c2 c3 c4 f1 f2 f3 f4
    generalize (W1.setCell ⟨b, 4, none⟩ (.int .i64 (u1 + n))).drew = W2 at *
    go_wp2_with fail
    go_quiet (fail)
    go_wp2_with fail
    go_ret2
    exact ⟨by simp, HG.out.then fun S h => drewN_goes h _⟩
end
end Go.Proofs.Ytedkdbholfnjkaa
