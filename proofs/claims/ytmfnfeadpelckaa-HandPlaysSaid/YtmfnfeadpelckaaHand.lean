/- The contracts of package hand. -/
import Derived.Test.YtmfnfeadpelckaaGen
namespace Go.Proofs.Ytmfnfeadpelckaa
open Go.RowKit

/-- A block that holds a row of ints. -/
def intsAt (q n : Nat) (t : TypeId) (m : Nat → Int) (S : Nat → Prop) (w : World) : Prop := ∃ cs, Blk w q cs t ∧ cs.size = n ∧ (∀ j, j < n → cs[j]? = some (.int .i64 (m j))) ∧ S q ∧ ∀ k, S k → k = q
def Ints (q n : Nat) (t : TypeId) (m : Nat → Int) : Thing where
  at_ := intsAt q n t m
  lt := fun ⟨_, h1, _, _, _, h3⟩ k hk => by rw [h3 k hk]; exact h1.lt
  kept := fun ⟨cs, h1, a, b, h2, h3⟩ hk _ => ⟨cs, by unfold Blk at *; rw [hk q h2]; exact h1, a, b, h2, h3⟩
def setI (m : Nat → Int) (j : Nat) (x : Int) : Nat → Int := fun k => if k = j then x else m k
theorem drewN_goes {O : Thing} {S : Nat → Prop} {w : World} (h : O.at_ S w) (n : Nat) : Goes O S w (w.drewN n) := Goes.later h (below_drewN (Below.refl _ _) n)
theorem drew_goes {O : Thing} {S : Nat → Prop} {w : World} (h : O.at_ S w) : Goes O S w w.drew := drewN_goes h 1
theorem ints_set {q n : Nat} {t : TypeId} {m : Nat → Int} {S : Nat → Prop} {w : World} (h : (Ints q n t m).at_ S w) (j : Nat) (x : Int) : Goes (Ints q n t (setI m j x)) S w (w.setCell ⟨q, j, none⟩ (.int .i64 x)) := by
  obtain ⟨cs, h1, h2, h3, h4, h5⟩ := h
  refine ⟨⟨S, ⟨_, h1.set j (.int .i64 x), by simpa using h2, fun k hk => ?_, h4, h5⟩, fun _ h => .inl h⟩, (Turned.refl S w).setCell (.inl h4) _⟩
  by_cases e : k = j
  · subst e; simp [setI, h2, hk]
  · rw [Array.getElem?_setIfInBounds_ne (by omega)]; simp only [setI, e, if_false]; exact h3 k hk

/-- The hands: the struct, and each thread's own status. -/
def Hnd (bh g n : Nat) (st : Int) (sn : Bool) (own : Nat → Int) (ct : Int) : Thing :=
  Sep (Var bh #[.int .i64 st, .bool sn, .slice (some ⟨g, 0, none⟩) n n, .int .i64 ct] 53) (Ints g n 3 own)
def tIn (n : Nat) (i : Int) : Prop := 0 ≤ i ∧ i < n
instance (n : Nat) (i : Int) : Decidable (tIn n i) := by unfold tIn; infer_instance
def hSt (n : Nat) (own : Nat → Int) (t : Int) : Int := if tIn n t then own t.toNat else -1
theorem hSt_in {n : Nat} {own : Nat → Int} {j : Nat} (h : j < n) : hSt n own j = own j := by unfold hSt; rw [if_pos ⟨by omega, by omega⟩]; rfl
theorem hSt_out {n : Nat} {own : Nat → Int} {t : Int} (h : ¬ tIn n t) : hSt n own t = -1 := by unfold hSt; rw [if_neg h]

section
variable {bh g n : Nat} {st ct : Int} {sn : Bool} {own : Nat → Int} {S : Nat → Prop} {w w' : World}
theorem hnd_cells (h : (Hnd bh g n st sn own ct).at_ S w) : w.cell? ⟨bh, 0, none⟩ = some (.int .i64 st) ∧ w.cell? ⟨bh, 1, none⟩ = some (.bool sn) ∧ w.cell? ⟨bh, 2, none⟩ = some (.slice (some ⟨g, 0, none⟩) n n) ∧ w.cell? ⟨bh, 3, none⟩ = some (.int .i64 ct) ∧
    ∀ i, w.frozen? ⟨bh, i, none⟩ = false := by
  obtain ⟨_, _, h, _⟩ := h
  have h := h.1
  exact ⟨by rw [h.cell]; rfl, by rw [h.cell]; rfl, by rw [h.cell]; rfl, by rw [h.cell]; rfl, h.free⟩
theorem hnd_own (h : (Hnd bh g n st sn own ct).at_ S w) {j : Nat} (hj : j < n) : w.cell? ⟨g, j, none⟩ = some (.int .i64 (own j)) ∧ w.frozen? ⟨g, j, none⟩ = false := by
  obtain ⟨_, _, _, ⟨cs, h1, h2, h3, _⟩, _⟩ := h
  exact ⟨by rw [h1.cell]; exact h3 j hj, h1.free j⟩
theorem hnd_count (h : (Hnd bh g n st sn own ct).at_ S w) : Goes (Hnd bh g n st sn own (ct + 1)) S w (w.setCell ⟨bh, 3, none⟩ (.int .i64 (ct + 1))) :=
  goesL (fun _ h => var_set h 3 (.int .i64 (ct + 1))) S h
theorem hnd_set {j : Nat} (x : Int) (h : (Hnd bh g n st sn own ct).at_ S w) : Goes (Hnd bh g n st sn (setI own j x) ct) S w (w.setCell ⟨g, j, none⟩ (.int .i64 x)) :=
  goesR (fun _ h => ints_set h j x) S h

set_option maxHeartbeats 400000 in
theorem hand_status_in (k : Nat) (hk : k < n) (_hn : n ≤ 16) (h : (Hnd bh g n st sn own ct).at_ S w) :
    Calls Try.prog 13 #[.pointer (some ⟨bh, 0, none⟩), .int .i64 (k : Int)] w fun e w' => e = .returned (.int .i64 (own k)) ∧ w = w' := by
  obtain ⟨-, -, c2, -, -⟩ := hnd_cells h
  obtain ⟨c4, -⟩ := hnd_own h hk
  clear h
  go_enter Try.func13, Try.ntmps13
  go_wp2_with fail
  go_ret
  exact ⟨rfl, rfl⟩
set_option maxHeartbeats 400000 in
theorem hand_status_out (i : Int) (hi : ¬ tIn n i) (h : (Hnd bh g n st sn own ct).at_ S w) :
    Calls Try.prog 13 #[.pointer (some ⟨bh, 0, none⟩), .int .i64 i] w fun e w' => e = .returned (.int .i64 (-1)) ∧ w = w' := by
  obtain ⟨-, -, c2, -, -⟩ := hnd_cells h
  clear h
  unfold tIn at hi
  by_cases h0 : i < 0
  · clear hi
    go_enter Try.func13, Try.ntmps13
    go_wp2_with fail
    go_ret
    exact ⟨rfl, rfl⟩
  · have h1 : (n : Int) ≤ i := by omega
    have hd : decide (i < (n : Int)) = false := by simp; omega
    clear hi
    go_enter Try.func13, Try.ntmps13
    go_wp2_with fail
    go_ret
    exact ⟨rfl, rfl⟩
theorem hand_status (i : Int) (hn : n ≤ 16) (h : (Hnd bh g n st sn own ct).at_ S w) :
    Calls Try.prog 13 #[.pointer (some ⟨bh, 0, none⟩), .int .i64 i] w fun e w' => e = .returned (.int .i64 (hSt n own i)) ∧ w = w' := by
  by_cases hi : tIn n i
  · obtain ⟨k, rfl⟩ : ∃ k : Nat, i = (k : Int) := ⟨i.toNat, by have := hi.1; omega⟩
    have hk : k < n := by have := hi.2; omega
    rw [hSt_in hk]
    exact hand_status_in k hk hn h
  · rw [hSt_out hi]; exact hand_status_out i hi h
theorem hand_counted (h : (Hnd bh g n st sn own ct).at_ S w) :
    Calls Try.prog 16 #[.pointer (some ⟨bh, 0, none⟩)] w fun e w' => e = .returned (.int .i64 ct) ∧ w = w' := by
  obtain ⟨-, -, -, c3, -⟩ := hnd_cells h
  clear h
  go_enter Try.func16, Try.ntmps16
  go_wp2_with fail
  go_ret
  exact ⟨rfl, rfl⟩
theorem hand_known (x : Int) : Calls Try.prog 25 #[.int .i64 x] w fun e w' => e = .returned (.bool (decide (0 ≤ x ∧ x ≤ 4))) ∧ w = w' := by
  by_cases h0 : 0 ≤ x
  · by_cases h1 : x ≤ 4
    · rw [decide_eq_true ⟨h0, h1⟩]
      go_enter Try.func25, Try.ntmps25
      go_wp2_with fail
      go_ret
      exact ⟨rfl, rfl⟩
    · rw [decide_eq_false fun h => h1 h.2]
      have h2 : decide (x ≤ 4) = false := by simpa using h1
      go_enter Try.func25, Try.ntmps25
      go_wp2_with fail
      go_ret
      exact ⟨by first | rfl | (show Ending.returned (.bool _) = _; rw [h2]), rfl⟩
  · rw [decide_eq_false fun h => h0 h.1]
    go_enter Try.func25, Try.ntmps25
    go_wp2_with fail
    go_ret
    exact ⟨rfl, rfl⟩
set_option maxHeartbeats 800000 in
theorem hand_poll (i : Int) (hn : n ≤ 16) (h0 : 0 ≤ ct) (h1 : ct ≤ 1000000) (h : (Hnd bh g n st sn own ct).at_ S w) :
    Calls Try.prog 10 #[.pointer (some ⟨bh, 0, none⟩), .int .i64 i] w fun e w' => e = .returned (.bool (hSt n own i == -1 || hSt n own i == st)) ∧ Goes (Hnd bh g n st sn own (ct + 1)) S w w' := by
  obtain ⟨-, -, -, c3, f⟩ := hnd_cells h
  have f3 := f 3
  have g1 := hnd_count h
  obtain ⟨d0, -, -, -, -⟩ := hnd_cells g1.now.choose_spec.1
  have HS := Lib.hid (g1.look fun S h => hand_status i hn h)
  have HG := Lib.hid g1
  clear g1 h f
  generalize hSt n own i = x at *
  by_cases hx : x = -1
  · subst hx
    go_enter Try.func10, Try.ntmps10
    go_wp2_with fail
    with_reducible refine HS.out.mono ?_
    rintro e w' ⟨rfl, rfl⟩
    go_wp2_with fail
    go_ret
    exact ⟨rfl, HG.out⟩
  · have e1 : (x == -1) = false := by simpa using hx
    go_enter Try.func10, Try.ntmps10
    go_wp2_with fail
    with_reducible refine HS.out.mono ?_
    rintro e w' ⟨rfl, rfl⟩
    go_wp2_with fail
    go_ret
    exact ⟨by simp [e1], HG.out⟩
end
end Go.Proofs.Ytmfnfeadpelckaa
