/- The contracts of package coil. -/
import Derived.Test.YtnkgnhpapcnebaaGreatM3
set_option linter.unusedVariables false
set_option linter.unusedSimpArgs false
set_option maxHeartbeats 8000000
namespace Go.Proofs.YtnkgnhpapcnebaaGreat
open Go.RowKit
structure Cs where
  cur : Bool
  u0 : Int
  u1 : Int
  k : Int
def cN (b : Bool) : Int := if b then 1 else 0
def Cs.here (c : Cs) : Int := if c.cur then c.u1 else c.u0
def Cs.there (c : Cs) : Int := if c.cur then c.u0 else c.u1
def Cs.lay (c : Cs) (n : Int) : Cs := if c.cur then ⟨c.cur, c.u0, c.u1 + n, c.k⟩ else ⟨c.cur, c.u0 + n, c.u1, c.k⟩
def Cs.room (c : Cs) (s : Int) : Int := s - c.here - c.k
def Cs.turn (c : Cs) : Cs := ⟨!c.cur, c.u0, c.u1, c.here⟩
def Cs.done (c : Cs) : Cs := if c.cur then ⟨c.cur, 0, c.u1, c.k⟩ else ⟨c.cur, c.u0, 0, c.k⟩
def cc (s : Int) (c : Cs) : Array Value := #[.int .i64 s, .int .i64 (cN c.cur), .int .i64 c.u0, .int .i64 c.u1, .int .i64 c.k]
def Good (s : Int) (c : Cs) : Prop := 0 ≤ s ∧ s ≤ 2048 ∧ 0 ≤ c.u0 ∧ c.u0 ≤ s ∧ 0 ≤ c.u1 ∧ c.u1 ≤ s ∧ 0 ≤ c.k ∧ c.here + c.k ≤ s
def Coil (b : Nat) (s : Int) (c : Cs) : Thing := Var b (cc s c) 211
def aP (b : Nat) : Value := .pointer (some ⟨b, 0, none⟩)
section
variable {b : Nat} {s : Int} {c : Cs} {S : Nat → Prop} {w : World}
theorem coil_current (h : (Coil b s c).at_ S w) : Calls Tryz.prog 96 #[.pointer (some ⟨b, 0, none⟩)] w fun e w' => e = .returned (.int .i64 (cN c.cur)) ∧ w = w' := by
  have c0 : w.cell? ⟨b, 1, none⟩ = some (.int .i64 (cN c.cur)) := by rw [h.1.cell]; rfl
  clear h
  go_enter Tryz.func96, Tryz.ntmps96
  go_wp2_with fail
  go_ret
  exact ⟨rfl, rfl⟩
theorem coil_used0 (h : (Coil b s c).at_ S w) : Calls Tryz.prog 98 #[.pointer (some ⟨b, 0, none⟩), .int .i64 0] w fun e w' => e = .returned (.int .i64 c.u0) ∧ w = w' := by
  have c0 : w.cell? ⟨b, 2, none⟩ = some (.int .i64 c.u0) := by rw [h.1.cell]; rfl
  clear h
  go_enter Tryz.func98, Tryz.ntmps98
  go_wp2
  go_ret
  exact ⟨rfl, rfl⟩
theorem coil_used1 (h : (Coil b s c).at_ S w) : Calls Tryz.prog 98 #[.pointer (some ⟨b, 0, none⟩), .int .i64 1] w fun e w' => e = .returned (.int .i64 c.u1) ∧ w = w' := by
  have c0 : w.cell? ⟨b, 3, none⟩ = some (.int .i64 c.u1) := by rw [h.1.cell]; rfl
  clear h
  go_enter Tryz.func98, Tryz.ntmps98
  go_wp2
  go_ret
  exact ⟨rfl, rfl⟩
theorem coil_cells (h : Blk w b (cc s c) 211) : w.cell? ⟨b, 0, none⟩ = some (.int .i64 s) ∧ w.cell? ⟨b, 1, none⟩ = some (.int .i64 (cN c.cur)) ∧ w.cell? ⟨b, 2, none⟩ = some (.int .i64 c.u0) ∧ w.cell? ⟨b, 3, none⟩ = some (.int .i64 c.u1) ∧ w.cell? ⟨b, 4, none⟩ = some (.int .i64 c.k) ∧
    w.frozen? ⟨b, 1, none⟩ = false ∧ w.frozen? ⟨b, 2, none⟩ = false ∧ w.frozen? ⟨b, 3, none⟩ = false ∧ w.frozen? ⟨b, 4, none⟩ = false :=
  ⟨by rw [h.cell]; rfl, by rw [h.cell]; rfl, by rw [h.cell]; rfl, by rw [h.cell]; rfl, by rw [h.cell]; rfl, h.free 1, h.free 2, h.free 3, h.free 4⟩
end
def cNew : Cs := ⟨false, 0, 0, 0⟩
def Cs.skip (c : Cs) (n : Int) : Cs := ⟨c.cur, c.u0, c.u1, c.k - n⟩
theorem coil_new (s : Int) (w : World) (h0 : 0 ≤ s) (h1 : s ≤ 2048) :
    Calls Tryz.prog 74 #[.int .i64 s] w fun e w' => ∃ b, e = .returned (.tuple #[.pointer (some ⟨b, 0, none⟩), .int .i64 0]) ∧ St w (Coil b s cNew) w' := by
  go_enter Tryz.func74, Tryz.ntmps74
  go_wp2_with fail
  go_ret2
  exact ⟨_, rfl, St.fresh _ _⟩
section
variable {b : Nat} {s : Int} {c : Cs} {S : Nat → Prop} {w : World}
set_option maxRecDepth 100000 in
theorem coil_turn (hg : Good s c) (ht : c.there = 0) (h : (Coil b s c).at_ S w) : Calls Tryz.prog 151 #[.pointer (some ⟨b, 0, none⟩)] w fun e w' => e = .returned (.bool true) ∧ Goes (Coil b s c.turn) S w w' := by
  obtain ⟨c0, c1, c2, c3, c4, -⟩ := coil_cells h.1
  have G := Lib.hid (drewN_goes h)
  clear h
  obtain ⟨cur, u0, u1, k⟩ := c
  simp only [Good, Cs.here] at hg
  obtain ⟨g1, g2, g3, g4, g5, g6, g7, g8⟩ := hg
  cases cur
  · simp only [cN, Cs.there, Cs.turn, Cs.here, Bool.false_eq_true, if_false, Bool.not_false] at c1 c2 c3 g3 g4 g5 g6 g7 g8 ht ⊢
    subst ht
    go_enter Tryz.func151, Tryz.ntmps151
    go_wp2_with fail
    go_quiet (fail)
    have G1 := G.out nq
    clear G c0 c1 c2 c3 c4
    generalize w.drewN nq = W1 at *
    obtain ⟨c0, c1, c2, c3, c4, f1, f2, f3, f4⟩ := coil_cells G1.now.choose_spec.1.1
    have G2 := Lib.hid (G1.then fun S h => (drew_goes h).then fun S h => (var_set h 4 (.int .i64 u0)).then fun S h => var_set h 1 (.int .i64 1))
    clear G1
    simp only [cN, Bool.false_eq_true, if_false] at c1 c2 c3
    go_wp2_with fail
    go_still_tail 12, (by kernel_rfl)
    change wpList _ _ _ _ _ W1.drew
    go_wp2
    go_ret
    exact ⟨rfl, G2.out⟩
  · simp only [cN, Cs.there, Cs.turn, Cs.here, if_true, Bool.not_true] at c1 c2 c3 g3 g4 g5 g6 g7 g8 ht ⊢
    subst ht
    go_enter Tryz.func151, Tryz.ntmps151
    go_wp2_with fail
    go_quiet (fail)
    have G1 := G.out nq
    clear G c0 c1 c2 c3 c4
    generalize w.drewN nq = W1 at *
    obtain ⟨c0, c1, c2, c3, c4, f1, f2, f3, f4⟩ := coil_cells G1.now.choose_spec.1.1
    have G2 := Lib.hid (G1.then fun S h => (drew_goes h).then fun S h => (var_set h 4 (.int .i64 u1)).then fun S h => var_set h 1 (.int .i64 0))
    clear G1
    simp only [cN, if_true] at c1 c2 c3
    go_wp2_with fail
    go_still_tail 12, (by kernel_rfl)
    change wpList _ _ _ _ _ W1.drew
    go_wp2
    go_ret
    exact ⟨rfl, G2.out⟩
theorem coil_done (hn : c.k = 0) (h : (Coil b s c).at_ S w) : Calls Tryz.prog 153 #[.pointer (some ⟨b, 0, none⟩)] w fun e w' => e = .returned (.bool true) ∧ Goes (Coil b s c.done) S w w' := by
  obtain ⟨c0, c1, c2, c3, c4, f1, f2, f3, f4⟩ := coil_cells h.1
  have G := Lib.hid fun i => (drew_goes h).then fun S h => var_set h i (.int .i64 0)
  clear h
  obtain ⟨cur, u0, u1, k⟩ := c
  simp only at hn
  subst hn
  cases cur
  · simp only [cN, Cs.done, Bool.false_eq_true, if_false] at c1 c2 c3 ⊢
    go_enter Tryz.func153, Tryz.ntmps153
    go_wp2_with fail
    go_region
    go_wp2
    go_ret
    exact ⟨rfl, G.out 3⟩
  · simp only [cN, Cs.done, if_true] at c1 c2 c3 ⊢
    go_enter Tryz.func153, Tryz.ntmps153
    go_wp2_with fail
    go_region
    go_wp2
    go_ret
    exact ⟨rfl, G.out 2⟩
theorem Good.skip {n : Int} (hg : Good s c) (h0 : 1 ≤ n) (hn : n ≤ c.k) : Good s (c.skip n) := by
  obtain ⟨cur, u0, u1, k⟩ := c; simp only [Good, Cs.here, Cs.skip] at hg hn ⊢; cases cur <;> simp at hg hn ⊢ <;> omega
theorem Good.lay {n : Int} (hg : Good s c) (h0 : 1 ≤ n) (hn : n ≤ c.room s) : Good s (c.lay n) := by
  obtain ⟨cur, u0, u1, k⟩ := c; simp only [Good, Cs.here, Cs.lay, Cs.room] at hg hn ⊢; cases cur <;> simp at hg hn ⊢ <;> omega
theorem Good.turn (hg : Good s c) (ht : c.there = 0) : Good s c.turn := by
  obtain ⟨cur, u0, u1, k⟩ := c; simp only [Good, Cs.here, Cs.turn, Cs.there] at hg ht ⊢; cases cur <;> simp at hg ht ⊢ <;> omega
theorem Good.done (hg : Good s c) : Good s c.done := by
  obtain ⟨cur, u0, u1, k⟩ := c; simp only [Good, Cs.here, Cs.done] at hg ⊢; cases cur <;> simp at hg ⊢ <;> omega
end
end Go.Proofs.YtnkgnhpapcnebaaGreat
/- The contracts of package hand. -/
namespace Go.Proofs.YtnkgnhpapcnebaaGreat
open Go.RowKit
/-- A block that holds a row of ints. -/
def intsAt (q n : Nat) (t : TypeId) (m : Nat → Int) (S : Nat → Prop) (w : World) : Prop := ∃ cs, Blk w q cs t ∧ cs.size = n ∧ (∀ j, j < n → cs[j]? = some (.int .i64 (m j))) ∧ S q ∧ ∀ k, S k → k = q
def Ints (q n : Nat) (t : TypeId) (m : Nat → Int) : Thing where
  at_ := intsAt q n t m
  lt := fun ⟨_, h1, _, _, _, h3⟩ k hk => by rw [h3 k hk]; exact h1.lt
  kept := fun ⟨cs, h1, a, b, h2, h3⟩ hk _ => ⟨cs, by unfold Blk at *; rw [hk q h2]; exact h1, a, b, h2, h3⟩
def setI (m : Nat → Int) (j : Nat) (x : Int) : Nat → Int := fun k => if k = j then x else m k
theorem ints_set {q n : Nat} {t : TypeId} {m : Nat → Int} {S : Nat → Prop} {w : World} (h : (Ints q n t m).at_ S w) (j : Nat) (x : Int) : Goes (Ints q n t (setI m j x)) S w (w.setCell ⟨q, j, none⟩ (.int .i64 x)) := by
  obtain ⟨cs, h1, h2, h3, h4, h5⟩ := h
  refine ⟨⟨S, ⟨_, h1.set j (.int .i64 x), by simpa using h2, fun k hk => ?_, h4, h5⟩, fun _ h => .inl h⟩, (Turned.refl S w).setCell (.inl h4) _⟩
  by_cases e : k = j
  · subst e; simp [setI, h2, hk]
  · rw [Array.getElem?_setIfInBounds_ne (by omega)]; simp only [setI, e, if_false]; exact h3 k hk
/-- The hands: the struct, and each thread's own status. -/
def Hnd (bh g n : Nat) (st : Int) (sn : Bool) (own : Nat → Int) (ct : Int) : Thing :=
  Sep (Var bh #[.int .i64 st, .bool sn, .slice (some ⟨g, 0, none⟩) n n, .int .i64 ct] 168) (Ints g n 3 own)
def hIn (n : Nat) (i : Int) : Prop := 0 ≤ i ∧ i < n
instance (n : Nat) (i : Int) : Decidable (hIn n i) := by unfold hIn; infer_instance
def hSt (n : Nat) (own : Nat → Int) (t : Int) : Int := if hIn n t then own t.toNat else -1
theorem hSt_in {n : Nat} {own : Nat → Int} {j : Nat} (h : j < n) : hSt n own j = own j := by unfold hSt; rw [if_pos ⟨by omega, by omega⟩]; rfl
theorem hSt_out {n : Nat} {own : Nat → Int} {t : Int} (h : ¬ hIn n t) : hSt n own t = -1 := by unfold hSt; rw [if_neg h]
section
variable {bh g n : Nat} {st ct : Int} {sn : Bool} {own : Nat → Int} {S : Nat → Prop} {w w' : World}
theorem hnd_cells (h : (Hnd bh g n st sn own ct).at_ S w) : w.cell? ⟨bh, 0, none⟩ = some (.int .i64 st) ∧ w.cell? ⟨bh, 1, none⟩ = some (.bool sn) ∧ w.cell? ⟨bh, 2, none⟩ = some (.slice (some ⟨g, 0, none⟩) n n) ∧ w.cell? ⟨bh, 3, none⟩ = some (.int .i64 ct) ∧
    ∀ i, w.frozen? ⟨bh, i, none⟩ = false := by
  obtain ⟨_, _, h, _⟩ := h
  have h := h.1
  exact ⟨by rw [h.cell]; rfl, by rw [h.cell]; rfl, by rw [h.cell]; rfl, by rw [h.cell]; rfl, h.free⟩
theorem hnd_own (h : (Hnd bh g n st sn own ct).at_ S w) {j : Nat} (hj : j < n) : w.cell? ⟨g, j, none⟩ = some (.int .i64 (own j)) ∧ w.frozen? ⟨g, j, none⟩ = false := by
  obtain ⟨_, _, _, ⟨cs, h1, h2, h3, _⟩, _⟩ := h
  exact ⟨by rw [h1.cell]; exact h3 j hj, h1.free j⟩
theorem hnd_count (h : (Hnd bh g n st sn own ct).at_ S w) : Goes (Hnd bh g n st sn own (wrap64 (ct + 1))) S w (w.setCell ⟨bh, 3, none⟩ (.int .i64 (wrap64 (ct + 1)))) :=
  goesL (fun _ h => var_set h 3 (.int .i64 (wrap64 (ct + 1)))) S h
theorem hnd_set {j : Nat} (x : Int) (h : (Hnd bh g n st sn own ct).at_ S w) : Goes (Hnd bh g n st sn (setI own j x) ct) S w (w.setCell ⟨g, j, none⟩ (.int .i64 x)) :=
  goesR (fun _ h => ints_set h j x) S h
theorem hand_status_in (k : Nat) (hk : k < n) (_hn : n ≤ 16) (h : (Hnd bh g n st sn own ct).at_ S w) :
    Calls Tryz.prog 211 #[.pointer (some ⟨bh, 0, none⟩), .int .i64 (k : Int)] w fun e w' => e = .returned (.int .i64 (own k)) ∧ w = w' := by
  obtain ⟨-, -, c2, -, -⟩ := hnd_cells h
  obtain ⟨c4, -⟩ := hnd_own h hk
  clear h
  go_enter Tryz.func211, Tryz.ntmps211
  go_wp2_with fail
  go_ret
  exact ⟨rfl, rfl⟩
theorem hand_status_out (i : Int) (hi : ¬ hIn n i) (h : (Hnd bh g n st sn own ct).at_ S w) :
    Calls Tryz.prog 211 #[.pointer (some ⟨bh, 0, none⟩), .int .i64 i] w fun e w' => e = .returned (.int .i64 (-1)) ∧ w = w' := by
  obtain ⟨-, -, c2, -, -⟩ := hnd_cells h
  clear h
  unfold hIn at hi
  by_cases h0 : i < 0
  · clear hi
    go_enter Tryz.func211, Tryz.ntmps211
    go_wp2_with fail
    go_ret
    exact ⟨rfl, rfl⟩
  · have h1 : (n : Int) ≤ i := by omega
    have hd : decide (i < (n : Int)) = false := by simp; omega
    clear hi
    go_enter Tryz.func211, Tryz.ntmps211
    go_wp2_with fail
    go_ret
    exact ⟨rfl, rfl⟩
theorem hand_status (i : Int) (hn : n ≤ 16) (h : (Hnd bh g n st sn own ct).at_ S w) :
    Calls Tryz.prog 211 #[.pointer (some ⟨bh, 0, none⟩), .int .i64 i] w fun e w' => e = .returned (.int .i64 (hSt n own i)) ∧ w = w' := by
  by_cases hi : hIn n i
  · obtain ⟨k, rfl⟩ : ∃ k : Nat, i = (k : Int) := ⟨i.toNat, by have := hi.1; omega⟩
    have hk : k < n := by have := hi.2; omega
    rw [hSt_in hk]
    exact hand_status_in k hk hn h
  · rw [hSt_out hi]; exact hand_status_out i hi h
theorem hand_known (x : Int) : Calls Tryz.prog 136 #[.int .i64 x] w fun e w' => e = .returned (.bool (decide (0 ≤ x ∧ x ≤ 4))) ∧ w = w' := by
  by_cases h0 : 0 ≤ x
  · by_cases h1 : x ≤ 4
    · rw [decide_eq_true ⟨h0, h1⟩]
      go_enter Tryz.func136, Tryz.ntmps136
      go_wp2_with fail
      go_ret
      exact ⟨rfl, rfl⟩
    · rw [decide_eq_false fun h => h1 h.2]
      have h2 : decide (x ≤ 4) = false := by simpa using h1
      go_enter Tryz.func136, Tryz.ntmps136
      go_wp2_with fail
      go_ret
      exact ⟨by first | rfl | (show Ending.returned (.bool _) = _; rw [h2]), rfl⟩
  · rw [decide_eq_false fun h => h0 h.1]
    go_enter Tryz.func136, Tryz.ntmps136
    go_wp2_with fail
    go_ret
    exact ⟨rfl, rfl⟩
theorem hand_poll (i : Int) (hn : n ≤ 16) (h : (Hnd bh g n st sn own ct).at_ S w) :
    Calls Tryz.prog 137 #[.pointer (some ⟨bh, 0, none⟩), .int .i64 i] w fun e w' => e = .returned (.bool (hSt n own i == -1 || hSt n own i == st)) ∧ Goes (Hnd bh g n st sn own (wrap64 (ct + 1))) S w w' := by
  obtain ⟨-, -, -, c3, f⟩ := hnd_cells h
  have f3 := f 3
  have g1 := hnd_count h
  obtain ⟨d0, -, -, -, -⟩ := hnd_cells g1.now.choose_spec.1
  have HS := Lib.hid (g1.look fun S h => hand_status i hn h)
  have HG := Lib.hid g1
  clear g1 h f
  generalize hSt n own i = x at *
  by_cases hx : x = -1
  · subst hx
    go_enter Tryz.func137, Tryz.ntmps137
    go_wp2_with fail
    with_reducible refine HS.out.mono ?_
    rintro e w' ⟨rfl, rfl⟩
    go_wp2_with fail
    go_ret
    exact ⟨rfl, HG.out⟩
  · have e1 : (x == -1) = false := by simpa using hx
    go_enter Tryz.func137, Tryz.ntmps137
    go_wp2_with fail
    with_reducible refine HS.out.mono ?_
    rintro e w' ⟨rfl, rfl⟩
    go_wp2_with fail
    go_ret
    exact ⟨by simp [e1], HG.out⟩
end
section
variable {bh g n : Nat} {st ct : Int} {sn : Bool} {own : Nat → Int} {S : Nat → Prop} {w w' : World}
theorem hnd_put (i : Nat) (v : Value) (st' : Int) (sn' : Bool) (he : (#[.int .i64 st, .bool sn, .slice (some ⟨g, 0, none⟩) n n, .int .i64 ct] : Array Value).setIfInBounds i v = #[.int .i64 st', .bool sn', .slice (some ⟨g, 0, none⟩) n n, .int .i64 ct])
    (h : (Hnd bh g n st sn own ct).at_ S w) : Goes (Hnd bh g n st' sn' own ct) S w (w.setCell ⟨bh, i, none⟩ v) :=
  goesL (fun _ h => by have := var_set h i v; rw [he] at this; exact this) S h
theorem hand_post (x : Int) (fl : Bool) (hx : 0 ≤ x) (hx4 : x ≤ 4) (h : (Hnd bh g n st sn own ct).at_ S w) :
    Calls Tryz.prog 83 #[.pointer (some ⟨bh, 0, none⟩), .int .i64 x, .bool fl] w fun e w' => e = .returned (.bool true) ∧ Goes (Hnd bh g n x (sn != fl) own (wrap64 (ct + 1))) S w w' := by
  obtain ⟨-, c1, -, c3, f⟩ := hnd_cells h
  have f3 := f 3
  have f0 := f 0
  have f1 := f 1
  have g1 := hnd_count h
  have HK := Lib.hid (hand_known (w := w.setCell ⟨bh, 3, none⟩ (.int .i64 (wrap64 (ct + 1)))) x)
  rw [decide_eq_true ⟨hx, hx4⟩] at HK
  have g2 := g1.then fun S h => hnd_put 0 (.int .i64 x) x sn rfl h
  obtain ⟨d0, -, -, -, d5⟩ := hnd_cells g1.now.choose_spec.1
  obtain ⟨-, d1, -, -, d6⟩ := hnd_cells g2.now.choose_spec.1
  have d5 := d5 0
  have d6 := d6 1
  have HG := Lib.hid (g2.then fun S h => hnd_put 1 (.bool (sn != fl)) x (sn != fl) rfl h)
  clear g1 g2 h f
  go_enter Tryz.func83, Tryz.ntmps83
  go_wp2_with fail
  with_reducible refine HK.out.mono ?_
  rintro e w' ⟨rfl, rfl⟩
  clear HK
  go_wp2_with fail
  go_ret
  exact ⟨rfl, HG.out⟩
theorem hand_look (h : (Hnd bh g n st sn own ct).at_ S w) :
    Calls Tryz.prog 162 #[.pointer (some ⟨bh, 0, none⟩)] w fun e w' => e = .returned (.tuple #[.int .i64 st, .bool sn]) ∧ Goes (Hnd bh g n st sn own (wrap64 (ct + 1))) S w w' := by
  obtain ⟨-, -, -, c3, f⟩ := hnd_cells h
  have f3 := f 3
  have g1 := hnd_count h
  obtain ⟨d0, d1, -, -, -⟩ := hnd_cells g1.now.choose_spec.1
  have HG := Lib.hid g1
  clear g1 h f
  go_enter Tryz.func162, Tryz.ntmps162
  go_wp2_with fail
  go_quiet (fail)
  go_wp2_with fail
  go_ret2
  exact ⟨rfl, HG.out.then fun S h => drewN_goes h _⟩
theorem hand_answer (k : Nat) (x : Int) (hk : k < n) (hn : n ≤ 16) (ho : own k ≠ -1) (hx : 0 ≤ x) (hx4 : x ≤ 4) (h : (Hnd bh g n st sn own ct).at_ S w) :
    Calls Tryz.prog 163 #[.pointer (some ⟨bh, 0, none⟩), .int .i64 (k : Int), .int .i64 x] w fun e w' => e = .returned (.bool true) ∧ Goes (Hnd bh g n st sn (setI own k x) (wrap64 (ct + 1))) S w w' := by
  obtain ⟨-, -, -, c3, f⟩ := hnd_cells h
  have f3 := f 3
  have g1 := hnd_count h
  obtain ⟨-, -, d2, -, -⟩ := hnd_cells g1.now.choose_spec.1
  obtain ⟨d4, d5⟩ := hnd_own g1.now.choose_spec.1 hk
  have HS := Lib.hid (g1.look fun S h => hand_status_in k hk hn h)
  have HK := Lib.hid (hand_known (w := w.setCell ⟨bh, 3, none⟩ (.int .i64 (wrap64 (ct + 1)))) x)
  rw [decide_eq_true ⟨hx, hx4⟩] at HK
  have HG := Lib.hid (g1.then fun S h => hnd_set (j := k) x h)
  clear g1 h f
  generalize own k = y at *
  go_enter Tryz.func163, Tryz.ntmps163
  go_wp2_with fail
  with_reducible refine HS.out.mono ?_
  rintro e w' ⟨rfl, rfl⟩
  clear HS
  go_wp2_with fail
  with_reducible refine HK.out.mono ?_
  rintro e w' ⟨rfl, rfl⟩
  clear HK
  go_wp2_with fail
  go_ret
  exact ⟨rfl, HG.out⟩
theorem hand_leave (k : Nat) (hk : k < n) (hn : n ≤ 16) (ho : own k ≠ -1) (h : (Hnd bh g n st sn own ct).at_ S w) :
    Calls Tryz.prog 166 #[.pointer (some ⟨bh, 0, none⟩), .int .i64 (k : Int)] w fun e w' => e = .returned (.bool true) ∧ Goes (Hnd bh g n st sn (setI own k (-1)) (wrap64 (ct + 1))) S w w' := by
  obtain ⟨-, -, -, c3, f⟩ := hnd_cells h
  have f3 := f 3
  have g1 := hnd_count h
  obtain ⟨-, -, d2, -, -⟩ := hnd_cells g1.now.choose_spec.1
  obtain ⟨d4, d5⟩ := hnd_own g1.now.choose_spec.1 hk
  have HS := Lib.hid (g1.look fun S h => hand_status_in k hk hn h)
  have HG := Lib.hid (g1.then fun S h => hnd_set (j := k) (-1) h)
  clear g1 h f
  generalize own k = y at *
  go_enter Tryz.func166, Tryz.ntmps166
  go_wp2_with fail
  with_reducible refine HS.out.mono ?_
  rintro e w' ⟨rfl, rfl⟩
  clear HS
  go_wp2_with fail
  go_ret
  exact ⟨rfl, HG.out⟩
set_option maxRecDepth 100000 in
theorem hand_join (k : Nat) (hk : k < n) (_hn : n ≤ 16) (ho : own k = -1) (h : (Hnd bh g n st sn own ct).at_ S w) :
    Calls Tryz.prog 52 #[.pointer (some ⟨bh, 0, none⟩), .int .i64 (k : Int)] w fun e w' => e = .returned (.tuple #[.int .i64 st, .bool sn, .bool true]) ∧ Goes (Hnd bh g n st sn (setI own k st) (wrap64 (ct + 1))) S w w' := by
  obtain ⟨-, -, -, c3, f⟩ := hnd_cells h
  have f3 := f 3
  have g1 := hnd_count h
  obtain ⟨d0, -, d2, -, -⟩ := hnd_cells g1.now.choose_spec.1
  obtain ⟨d4, d5⟩ := hnd_own g1.now.choose_spec.1 hk
  have HG := Lib.hid g1
  clear g1 h f
  rw [ho] at d4
  go_enter Tryz.func52, Tryz.ntmps52
  go_wp2_with fail
  have G1 := HG.out
  generalize w.setCell ⟨bh, 3, none⟩ (.int .i64 (wrap64 (ct + 1))) = W1 at *
  have g2 := G1.then fun S h => (hnd_set (j := k) st h).then fun S h => drew_goes h
  clear G1 HG
  go_still_tail 10, (by kernel_rfl)
  change wpList _ _ _ _ _ W1.drew
  go_upto_region 5 with fail
  obtain ⟨e0, e1, -, -, -⟩ := hnd_cells g2.now.choose_spec.1
  have HG := Lib.hid g2
  clear g2 d0 d2 d4 d5 c3 f3
  generalize (W1.setCell ⟨g, k, none⟩ (.int .i64 st)).drew = W2 at *
  go_wp2_with fail
  go_quiet (fail)
  go_wp2_with fail
  go_ret3
  exact ⟨rfl, HG.out.then fun S h => drewN_goes h _⟩
end
theorem make_ints (n : Nat) (hn : n ≤ 1024) (w : World) : (Instr.makeSlice 22 (.int .i64 n) (.int .i64 n)).run Tryz.prog w = .ok (.slice (some ⟨w.heap.size, 0, none⟩) n n) (w.alloc (.cells (madeCells #[.int .i64 0] n) 3)) := by
  obtain ⟨i0, hi, hz0, hz1, hz2⟩ := info_parts Tryz.info3
  have := run_make (P := Tryz.prog) w 22 3 i0 _ Tryz.underlying22 hi hz0 .i64 .i64 n n (by omega) (by omega) (by rw [hz2]; omega) (by omega)
  rw [this, hz1]; simp [Value.cells]
theorem St.ints (w : World) (n : Nat) (t : TypeId) : St w (Ints w.heap.size n t fun _ => 0) (w.alloc (.cells (madeCells #[.int .i64 0] n) t)) :=
  ⟨⟨fun k => k = w.heap.size, ⟨_, Blk.new w _ t, by simp [madeCells], fun j hj => by simp [madeCells, hj, Nat.mod_one], rfl, fun _ h => h⟩, fun k hk => by omega⟩, (Below.refl _ _).alloc (Nat.le_refl _) _⟩
theorem ints_congr {b n : Nat} {t : TypeId} {f f' : Nat → Int} (h : ∀ k, k < n → f k = f' k) {S : Nat → Prop} {w : World} (ht : (Ints b n t f).at_ S w) : (Ints b n t f').at_ S w := by
  obtain ⟨cs, h1, h2, h3, h4⟩ := ht
  exact ⟨cs, h1, h2, fun j hj => by rw [← h j hj]; exact h3 j hj, h4⟩
section
variable {W w : World} {bh g n : Nat} {st ct : Int} {sn : Bool} {own own' : Nat → Int}
theorem hnd_congr (h : ∀ k, k < n → own k = own' k) (hs : St W (Hnd bh g n st sn own ct) w) : St W (Hnd bh g n st sn own' ct) w :=
  hs.conv fun _ _ ⟨S, T, h1, h2, h3⟩ => ⟨S, T, h1, ints_congr h h2, h3⟩
end
def oN (q : Nat) : Nat → Int := fun j => if j < q then -1 else 0
def gone : Nat → Int := fun _ => -1
theorem oN_step (q : Nat) : setI (oN q) q (-1) = oN (q + 1) := by
  funext k
  by_cases e : k = q
  · subst e; simp [setI, oN]
  · have : (k < q + 1) ↔ (k < q) := by omega
    simp [setI, oN, e, this]
theorem hand_new (n : Nat) (w : World) (h1 : 1 ≤ n) (h2 : n ≤ 16) :
    Calls Tryz.prog 35 #[.int .i64 n] w fun e w' => ∃ bh g, e = .returned (.tuple #[.pointer (some ⟨bh, 0, none⟩), .int .i64 0]) ∧ St w (Hnd bh g n 0 false gone 0) w' := by
  have hmk := make_ints n (by omega)
  go_enter Tryz.func35, Tryz.ntmps35
  go_wp2_with fail
  clear hmk
  have h3 := ((St.ints w n 3).var #[.int .i64 0, .bool false, .slice (some ⟨w.heap.size, 0, none⟩) n n, .int .i64 0] 168).swap
  have e0 : (w.alloc (.cells (madeCells #[.int .i64 0] n) 3)).heap.size = w.heap.size + 1 := by simp
  rw [e0] at h3
  generalize hbh : w.heap.size + 1 = bh at h3 ⊢
  generalize hg : w.heap.size = g at h3 ⊢
  generalize hW : (w.alloc (.cells (madeCells #[.int .i64 0] n) 3)).alloc (.cells #[.int .i64 0, .bool false, .slice (some ⟨g, 0, none⟩) n n, .int .i64 0] 168) = W1 at h3 ⊢
  clear e0 hbh hg hW
  go_loopw [21] (fun k w' => ∃ q : Nat, q ≤ n ∧ k = .int .i64 q ∧ St w (Hnd bh g n 0 false (oN q) 0) w') (fun k _ => n - (intOf k).toNat)
  case atStart => exact ⟨0, Nat.zero_le _, rfl, hnd_congr (fun k _ => by simp [oN]) h3⟩
  case round =>
    clear h3
    obtain ⟨q, hq, rfl, hs⟩ := hrel
    obtain ⟨c0, c1, c2, c3, f⟩ := hnd_cells hs.1.choose_spec.1
    by_cases hlt : q < n
    · obtain ⟨c4, f4⟩ := hnd_own hs.1.choose_spec.1 hlt
      have h6 := hs.goes fun S h => hnd_set (j := q) (-1) h
      rw [oN_step] at h6
      clear hs f
      go_wp2_with fail
      go_round
      case rel => exact ⟨q + 1, by omega, by go_num, h6⟩
      case measure => simp [intOf]; omega
    · obtain rfl : q = n := by omega
      clear f
      go_wp2_with fail
      go_ret2
      exact ⟨_, _, rfl, hnd_congr (fun k hk => by simp [oN, gone, hk]) hs⟩
end Go.Proofs.YtnkgnhpapcnebaaGreat
