/- The contracts of package coil. -/
import Derived.Test.YtedkdbholfnjkaaGen
namespace Go.Proofs.Ytedkdbholfnjkaa
open Go.RowKit

structure Cs where
  cur : Bool
  u0 : Int
  u1 : Int
  k : Int
def cN (b : Bool) : Int := if b then 1 else 0
def Cs.here (c : Cs) : Int := if c.cur then c.u1 else c.u0
def Cs.there (c : Cs) : Int := if c.cur then c.u0 else c.u1
def Cs.lay (c : Cs) (n : Int) : Cs := if c.cur then ⟨c.cur, c.u0, c.u1 + n, c.k⟩ else ⟨c.cur, c.u0 + n, c.u1, c.k⟩
def Cs.room (c : Cs) (s : Int) : Int := s - c.here - c.k
def Cs.turn (c : Cs) : Cs := ⟨!c.cur, c.u0, c.u1, c.here⟩
def Cs.done (c : Cs) : Cs := if c.cur then ⟨c.cur, 0, c.u1, c.k⟩ else ⟨c.cur, c.u0, 0, c.k⟩
def cc (s : Int) (c : Cs) : Array Value := #[.int .i64 s, .int .i64 (cN c.cur), .int .i64 c.u0, .int .i64 c.u1, .int .i64 c.k]
def Good (s : Int) (c : Cs) : Prop := 0 ≤ s ∧ s ≤ 2048 ∧ 0 ≤ c.u0 ∧ c.u0 ≤ s ∧ 0 ≤ c.u1 ∧ c.u1 ≤ s ∧ 0 ≤ c.k ∧ c.here + c.k ≤ s
def Coil (b : Nat) (s : Int) (c : Cs) : Thing := Var b (cc s c) 47
def aP (b : Nat) : Value := .pointer (some ⟨b, 0, none⟩)

section
variable {b : Nat} {s : Int} {c : Cs} {S : Nat → Prop} {w : World}

theorem coil_left (h : (Coil b s c).at_ S w) : Calls Try.prog 24 #[.pointer (some ⟨b, 0, none⟩)] w fun e w' => e = .returned (.int .i64 c.k) ∧ w = w' := by
  have c0 : w.cell? ⟨b, 4, none⟩ = some (.int .i64 c.k) := by rw [h.1.cell]; rfl
  clear h
  go_enter Try.func24, Try.ntmps24
  go_wp2_with fail
  go_ret
  exact ⟨rfl, rfl⟩
theorem coil_current (h : (Coil b s c).at_ S w) : Calls Try.prog 20 #[.pointer (some ⟨b, 0, none⟩)] w fun e w' => e = .returned (.int .i64 (cN c.cur)) ∧ w = w' := by
  have c0 : w.cell? ⟨b, 1, none⟩ = some (.int .i64 (cN c.cur)) := by rw [h.1.cell]; rfl
  clear h
  go_enter Try.func20, Try.ntmps20
  go_wp2_with fail
  go_ret
  exact ⟨rfl, rfl⟩
theorem coil_used0 (h : (Coil b s c).at_ S w) : Calls Try.prog 21 #[.pointer (some ⟨b, 0, none⟩), .int .i64 0] w fun e w' => e = .returned (.int .i64 c.u0) ∧ w = w' := by
  have c0 : w.cell? ⟨b, 2, none⟩ = some (.int .i64 c.u0) := by rw [h.1.cell]; rfl
  clear h
  go_enter Try.func21, Try.ntmps21
  go_wp2
  go_ret
  exact ⟨rfl, rfl⟩
theorem coil_used1 (h : (Coil b s c).at_ S w) : Calls Try.prog 21 #[.pointer (some ⟨b, 0, none⟩), .int .i64 1] w fun e w' => e = .returned (.int .i64 c.u1) ∧ w = w' := by
  have c0 : w.cell? ⟨b, 3, none⟩ = some (.int .i64 c.u1) := by rw [h.1.cell]; rfl
  clear h
  go_enter Try.func21, Try.ntmps21
  go_wp2
  go_ret
  exact ⟨rfl, rfl⟩
theorem coil_cells (h : Blk w b (cc s c) 47) : w.cell? ⟨b, 0, none⟩ = some (.int .i64 s) ∧ w.cell? ⟨b, 1, none⟩ = some (.int .i64 (cN c.cur)) ∧ w.cell? ⟨b, 2, none⟩ = some (.int .i64 c.u0) ∧ w.cell? ⟨b, 3, none⟩ = some (.int .i64 c.u1) ∧ w.cell? ⟨b, 4, none⟩ = some (.int .i64 c.k) ∧
    w.frozen? ⟨b, 1, none⟩ = false ∧ w.frozen? ⟨b, 2, none⟩ = false ∧ w.frozen? ⟨b, 3, none⟩ = false ∧ w.frozen? ⟨b, 4, none⟩ = false :=
  ⟨by rw [h.cell]; rfl, by rw [h.cell]; rfl, by rw [h.cell]; rfl, by rw [h.cell]; rfl, by rw [h.cell]; rfl, h.free 1, h.free 2, h.free 3, h.free 4⟩
theorem drewN_goes {O : Thing} (h : O.at_ S w) (n : Nat) : Goes O S w (w.drewN n) := Goes.later h (below_drewN (Below.refl _ _) n)
theorem drew_goes {O : Thing} (h : O.at_ S w) : Goes O S w w.drew := drewN_goes h 1
set_option maxHeartbeats 800000 in
theorem coil_room (hg : Good s c) (h : (Coil b s c).at_ S w) : Calls Try.prog 22 #[.pointer (some ⟨b, 0, none⟩)] w fun e w' => e = .returned (.int .i64 (c.room s)) ∧ Goes (Coil b s c) S w w' := by
  obtain ⟨c0, c1, c2, c3, c4, -⟩ := coil_cells h.1
  have HG := Lib.hid (drewN_goes h)
  clear h
  obtain ⟨cur, u0, u1, k⟩ := c
  simp only [Good, Cs.here] at hg
  obtain ⟨g1, g2, g3, g4, g5, g6, g7, g8⟩ := hg
  cases cur
  all_goals
    simp only [cN, Cs.room, Cs.here, Bool.false_eq_true, if_true, if_false] at c1 c2 c3 c4 g3 g4 g5 g6 g7 g8 ⊢
    go_enter Try.func22, Try.ntmps22
    go_wp2_with fail
    go_quiet (fail)
    go_wp2_with fail
    go_ret
    exact ⟨rfl, HG.out _⟩
set_option maxHeartbeats 1600000 in
theorem coil_lays (n : Int) (hg : Good s c) (h0 : 1 ≤ n) (hn : n ≤ 2048) (h : (Coil b s c).at_ S w) : Calls Try.prog 25 #[.pointer (some ⟨b, 0, none⟩), .int .i64 n] w fun e w' => e = .returned (.int .i64 c.here) ∧ Goes (Coil b s (c.lay n)) S w w' := by
  obtain ⟨c0, c1, c2, c3, c4, -⟩ := coil_cells h.1
  have G := Lib.hid (drewN_goes h)
  clear h
  obtain ⟨cur, u0, u1, k⟩ := c
  simp only [Good, Cs.here] at hg
  obtain ⟨g1, g2, g3, g4, g5, g6, g7, g8⟩ := hg
  cases cur
  · simp only [cN, Cs.lay, Cs.here, Bool.false_eq_true, if_false] at c1 c2 c3 g3 g4 g5 g6 g7 g8 ⊢
    go_enter Try.func25, Try.ntmps25
    go_wp2_with fail
    go_quiet (fail)
    have G1 := G.out nq
    clear G c0 c1 c2 c3 c4
    generalize w.drewN nq = W1 at *
    obtain ⟨c0, c1, c2, c3, c4, f1, f2, f3, f4⟩ := coil_cells G1.now.choose_spec.1.1
    have G2 := Lib.hid (G1.then fun S h => (drew_goes h).then fun S h => var_set h 2 (.int .i64 (u0 + n)))
    clear G1
    simp only [cN, Bool.false_eq_true, if_false] at c1 c2 c3
    go_wp2_with fail
    go_still_tail 14, (by kernel_rfl)
    change wpList _ _ _ _ _ W1.drew
    go_wp2
    go_ret
    exact ⟨rfl, G2.out⟩
  · simp only [cN, Cs.lay, Cs.here, if_true] at c1 c2 c3 g3 g4 g5 g6 g7 g8 ⊢
    go_enter Try.func25, Try.ntmps25
    go_wp2_with fail
    go_quiet (fail)
    have G1 := G.out nq
    clear G c0 c1 c2 c3 c4
    generalize w.drewN nq = W1 at *
    obtain ⟨c0, c1, c2, c3, c4, f1, f2, f3, f4⟩ := coil_cells G1.now.choose_spec.1.1
    have G2 := Lib.hid (G1.then fun S h => (drew_goes h).then fun S h => var_set h 3 (.int .i64 (u1 + n)))
    clear G1
    simp only [cN, if_true] at c1 c2 c3
    go_wp2_with fail
    go_still_tail 14, (by kernel_rfl)
    change wpList _ _ _ _ _ W1.drew
    go_wp2
    go_ret
    exact ⟨rfl, G2.out⟩
end
end Go.Proofs.Ytedkdbholfnjkaa
