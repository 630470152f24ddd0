/- The contracts of package tint. -/
import Derived.Test.YtcdmlimhkmbiiaaBase
import Derived.Test.YtcdmlimhkmbiiaaProg
import Derived.Deep.QuietTactic
import Derived.BigQuiet
import Derived.StillTailTactics
namespace Go.Proofs.Ytcdmlimhkmbiiaa
open Go.RowKit

/-- What is known of a fragment: its state, whether it is a head, its colour. -/
structure One where
  st : Nat
  hd : Bool
  sn : Bool

def cells3 (cs : Array Value) (n : Nat) (f : Nat → One) : Prop :=
  cs.size = n * 3 ∧ ∀ i, i < n → cs[i * 3]? = some (.int .i64 ((f i).st : Int)) ∧ cs[i * 3 + 1]? = some (.bool (f i).hd) ∧ cs[i * 3 + 2]? = some (.bool (f i).sn)

/-- How many of the first k are of state s. -/
def cnt (f : Nat → One) (s : Nat) : Nat → Int
  | 0 => 0
  | k + 1 => cnt f s k + if (f k).st = s then 1 else 0
theorem cnt_bd (f : Nat → One) (s : Nat) : ∀ k, 0 ≤ cnt f s k ∧ cnt f s k ≤ k
  | 0 => ⟨Int.le_refl _, Int.le_refl _⟩
  | k + 1 => by have := cnt_bd f s k; simp only [cnt]; split <;> omega

def upd (f : Nat → One) (i : Nat) (x : One) : Nat → One := fun k => if k = i then x else f k
theorem upd_same (f : Nat → One) (i : Nat) (x : One) : upd f i x i = x := by simp [upd]
theorem upd_other (f : Nat → One) {i k : Nat} (x : One) (h : k ≠ i) : upd f i x k = f k := by simp [upd, h]

theorem cnt_upd (f : Nat → One) (i : Nat) (x : One) (s : Nat) : ∀ n, cnt (upd f i x) s n = cnt f s n + (if i < n then (if x.st = s then 1 else 0) - (if (f i).st = s then 1 else 0) else 0)
  | 0 => by simp [cnt]
  | n + 1 => by
    simp only [cnt, cnt_upd f i x s n]
    by_cases h : n = i
    · subst h; simp only [upd_same]; simp; omega
    · rw [upd_other f x h]
      have e : (i < n + 1) ↔ (i < n) := by omega
      simp only [e]; omega

def tabAt (b n : Nat) (f : Nat → One) (S : Nat → Prop) (w : World) : Prop :=
  ∃ g cs, Blk w b #[.slice (some ⟨g, 0, none⟩) n n, .int .i64 (cnt f 0 n), .int .i64 (cnt f 1 n), .int .i64 (cnt f 2 n)] 80 ∧ Blk w g cs 82 ∧ cells3 cs n f ∧ S b ∧ S g ∧ b ≠ g ∧
    (∀ i, i < n → (f i).st ≤ 2) ∧ n ≤ 1024 ∧ ∀ k, S k → k < w.heap.size

/-- A table at block b. -/
def Tab (b n : Nat) (f : Nat → One) : Thing where
  at_ := tabAt b n f
  lt := fun ⟨_, _, _, _, _, _, _, _, _, _, h⟩ => h
  kept := fun ⟨g, cs, h1, h2, h3, h4, h5, h6, h7, h8, h9⟩ hk hs =>
    ⟨g, cs, by unfold Blk at *; rw [hk b h4]; exact h1, by unfold Blk at *; rw [hk g h5]; exact h2, h3, h4, h5, h6, h7, h8, fun k hS => Nat.lt_of_lt_of_le (h9 k hS) hs⟩

/-- What the table says of fragment i. -/
def tIn (n : Nat) (i : Int) : Prop := 0 ≤ i ∧ i < n
instance (n : Nat) (i : Int) : Decidable (tIn n i) := by unfold tIn; infer_instance
def tState (n : Nat) (f : Nat → One) (i : Int) : Nat := if tIn n i then (f i.toNat).st else 0
def tHead (n : Nat) (f : Nat → One) (i : Int) : Bool := if tIn n i then (f i.toNat).hd else false
def tBlack (n : Nat) (f : Nat → One) (i : Int) (s : Bool) : Bool := if tIn n i then (f i.toNat).st == 2 && ((f i.toNat).sn == s) else false

section
variable {b g n : Nat} {c1 c2 c3 : Value} {cs : Array Value} {f : Nat → One} {w : World}

set_option maxHeartbeats 400000 in
theorem tint_state_in (k : Nat) (h : Blk w b #[.slice (some ⟨g, 0, none⟩) n n, c1, c2, c3] 80) (hg : Blk w g cs 82) (h3 : cells3 cs n f) (hk : k < n) (_hn : n ≤ 1024) :
    Calls Try.prog 34 #[.pointer (some ⟨b, 0, none⟩), .int .i64 (k : Int)] w fun e w' => e = .returned (.int .i64 ((f k).st : Int)) ∧ w = w' := by
  have h2 : w.cell? ⟨b, 0, none⟩ = some (.slice (some ⟨g, 0, none⟩) n n) := by rw [h.cell]; rfl
  have h4 : w.cell? ⟨g, k * 3, none⟩ = some (.int .i64 ((f k).st : Int)) := by rw [hg.cell]; exact (h3.2 k hk).1
  clear h hg h3
  go_enter Try.func34, Try.ntmps34
  go_wp2
  go_ret
  exact ⟨rfl, rfl⟩
set_option maxHeartbeats 400000 in
theorem tint_state_out (i : Int) (h : Blk w b #[.slice (some ⟨g, 0, none⟩) n n, c1, c2, c3] 80) (hi : ¬ tIn n i) :
    Calls Try.prog 34 #[.pointer (some ⟨b, 0, none⟩), .int .i64 i] w fun e w' => e = .returned (.int .i64 0) ∧ w = w' := by
  have h2 : w.cell? ⟨b, 0, none⟩ = some (.slice (some ⟨g, 0, none⟩) n n) := by rw [h.cell]; rfl
  clear h
  unfold tIn at hi
  by_cases h0 : i < 0
  · clear hi
    go_enter Try.func34, Try.ntmps34
    go_wp2
    go_ret
    exact ⟨rfl, rfl⟩
  · have h1 : (n : Int) ≤ i := by omega
    have hd : decide (i < (n : Int)) = false := by simp; omega
    clear hi
    go_enter Try.func34, Try.ntmps34
    go_wp2
    go_ret
    exact ⟨rfl, rfl⟩

set_option maxHeartbeats 400000 in
theorem tint_head_in (k : Nat) (h : Blk w b #[.slice (some ⟨g, 0, none⟩) n n, c1, c2, c3] 80) (hg : Blk w g cs 82) (h3 : cells3 cs n f) (hk : k < n) (_hn : n ≤ 1024) :
    Calls Try.prog 32 #[.pointer (some ⟨b, 0, none⟩), .int .i64 (k : Int)] w fun e w' => e = .returned (.bool (f k).hd) ∧ w = w' := by
  have h2 : w.cell? ⟨b, 0, none⟩ = some (.slice (some ⟨g, 0, none⟩) n n) := by rw [h.cell]; rfl
  have h4 : w.cell? ⟨g, k * 3 + 1, none⟩ = some (.bool (f k).hd) := by rw [hg.cell]; exact (h3.2 k hk).2.1
  clear h hg h3
  go_enter Try.func32, Try.ntmps32
  go_wp2
  go_ret
  exact ⟨rfl, rfl⟩
set_option maxHeartbeats 400000 in
theorem tint_head_out (i : Int) (h : Blk w b #[.slice (some ⟨g, 0, none⟩) n n, c1, c2, c3] 80) (hi : ¬ tIn n i) :
    Calls Try.prog 32 #[.pointer (some ⟨b, 0, none⟩), .int .i64 i] w fun e w' => e = .returned (.bool false) ∧ w = w' := by
  have h2 : w.cell? ⟨b, 0, none⟩ = some (.slice (some ⟨g, 0, none⟩) n n) := by rw [h.cell]; rfl
  clear h
  unfold tIn at hi
  by_cases h0 : i < 0
  · clear hi
    go_enter Try.func32, Try.ntmps32
    go_wp2
    go_ret
    exact ⟨rfl, rfl⟩
  · have h1 : (n : Int) ≤ i := by omega
    have hd : decide (i < (n : Int)) = false := by simp; omega
    clear hi
    go_enter Try.func32, Try.ntmps32
    go_wp2
    go_ret
    exact ⟨rfl, rfl⟩
end

theorem tint_state {b n : Nat} {f : Nat → One} (i : Int) {S : Nat → Prop} {w : World} (h : (Tab b n f).at_ S w) :
    Calls Try.prog 34 #[.pointer (some ⟨b, 0, none⟩), .int .i64 i] w fun e w' => e = .returned (.int .i64 (tState n f i : Int)) ∧ w = w' := by
  obtain ⟨g, cs, h1, h2, h3, _, _, _, _, hn, _⟩ := h
  unfold tState
  by_cases hi : tIn n i
  · rw [if_pos hi]
    obtain ⟨k, rfl⟩ : ∃ k : Nat, i = (k : Int) := ⟨i.toNat, by have := hi.1; omega⟩
    exact tint_state_in k h1 h2 h3 (by have := hi.2; omega) hn
  · rw [if_neg hi]; exact tint_state_out i h1 hi
theorem tint_head {b n : Nat} {f : Nat → One} (i : Int) {S : Nat → Prop} {w : World} (h : (Tab b n f).at_ S w) :
    Calls Try.prog 32 #[.pointer (some ⟨b, 0, none⟩), .int .i64 i] w fun e w' => e = .returned (.bool (tHead n f i)) ∧ w = w' := by
  obtain ⟨g, cs, h1, h2, h3, _, _, _, _, hn, _⟩ := h
  unfold tHead
  by_cases hi : tIn n i
  · rw [if_pos hi]
    obtain ⟨k, rfl⟩ : ∃ k : Nat, i = (k : Int) := ⟨i.toNat, by have := hi.1; omega⟩
    exact tint_head_in k h1 h2 h3 (by have := hi.2; omega) hn
  · rw [if_neg hi]; exact tint_head_out i h1 hi

set_option maxHeartbeats 400000 in
theorem tint_black {b n : Nat} {f : Nat → One} (i : Int) (s : Bool) {S : Nat → Prop} {w : World} (h : (Tab b n f).at_ S w) :
    Calls Try.prog 31 #[.pointer (some ⟨b, 0, none⟩), .int .i64 i, .bool s] w fun e w' => e = .returned (.bool (tBlack n f i s)) ∧ w = w' := by
  have hst := tint_state i h
  obtain ⟨g, cs, h1, h2, h3, _, _, _, hw, hn, _⟩ := h
  unfold tState at hst
  unfold tBlack
  by_cases hi : tIn n i
  · rw [if_pos hi] at hst ⊢
    obtain ⟨k, rfl⟩ : ∃ k : Nat, i = (k : Int) := ⟨i.toNat, by have := hi.1; omega⟩
    have hk : k < n := by have := hi.2; omega
    rw [Int.toNat_natCast] at hst ⊢
    clear hi
    have g2 : w.cell? ⟨b, 0, none⟩ = some (.slice (some ⟨g, 0, none⟩) n n) := by rw [h1.cell]; rfl
    have g4 : w.cell? ⟨g, k * 3 + 2, none⟩ = some (.bool (f k).sn) := by rw [h2.cell]; exact (h3.2 k hk).2.2
    clear h1 h2 h3
    have hw2 := hw k hk
    clear hw
    have HS := Lib.hid hst
    clear hst
    by_cases he : (f k).st = 2
    · have e1 : ((f k).st == 2) = true := by simpa using he
      rw [e1]
      rw [he] at HS
      clear he e1 hw2
      go_enter Try.func31, Try.ntmps31
      go_wp2_with fail
      with_reducible refine HS.out.mono ?_
      rintro e w' ⟨rfl, rfl⟩
      go_wp2
      go_ret
      exact ⟨by simp, rfl⟩
    · have e1 : ((f k).st == 2) = false := by simpa using he
      have e2 : (((f k).st : Int) == 2) = false := by simp; omega
      rw [e1]
      clear he e1 hw2
      go_enter Try.func31, Try.ntmps31
      go_wp2_with fail
      with_reducible refine HS.out.mono ?_
      rintro e w' ⟨rfl, rfl⟩
      go_wp2
      go_ret
      exact ⟨by simp, rfl⟩
  · rw [if_neg hi] at hst ⊢
    clear hi h1 h2 h3 hw
    have HS := Lib.hid hst
    clear hst
    go_enter Try.func31, Try.ntmps31
    go_wp2_with fail
    with_reducible refine HS.out.mono ?_
    rintro e w' ⟨rfl, rfl⟩
    go_wp2
    go_ret
    exact ⟨by simp, rfl⟩
end Go.Proofs.Ytcdmlimhkmbiiaa
