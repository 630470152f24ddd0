/- Things beside one another; variables and rows of bools as things. -/
import Derived.Test.YtcdmlimhkmbiiaaBase
namespace Go.Proofs.Ytcdmlimhkmbiiaa
open Go.RowKit

def sepAt (O P : Thing) (U : Nat → Prop) (w : World) : Prop := ∃ S T, O.at_ S w ∧ P.at_ T w ∧ (∀ k, S k → ¬ T k) ∧ (∀ k, S k → U k) ∧ (∀ k, T k → U k) ∧ ∀ k, U k → S k ∨ T k
/-- Two things, apart, as one. -/
def Sep (O P : Thing) : Thing where
  at_ := sepAt O P
  lt := fun ⟨_, _, h1, h2, _, _, _, h6⟩ k hk => (h6 k hk).elim (O.lt h1 k) (P.lt h2 k)
  kept := fun ⟨S, T, h1, h2, h3, h4, h5, h6⟩ hk hs => ⟨S, T, O.kept h1 (fun k hS => hk k (h4 k hS)) hs, P.kept h2 (fun k hT => hk k (h5 k hT)) hs, h3, h4, h5, h6⟩

section
variable {O O' P P' : Thing} {U : Nat → Prop} {w w' : World}
theorem sepAt.swap (h : sepAt O P U w) : sepAt P O U w := by
  obtain ⟨S, T, h1, h2, h3, h4, h5, h6⟩ := h
  exact ⟨T, S, h2, h1, fun k hT hS => h3 k hS hT, h5, h4, fun k hU => (h6 k hU).symm⟩
theorem Goes.conv (hg : Goes O U w w') (h : ∀ S w, O.at_ S w → O'.at_ S w) : Goes O' U w w' := by
  obtain ⟨⟨S, g1, g2⟩, g3⟩ := hg
  exact ⟨⟨S, h S w' g1, g2⟩, g3⟩
theorem Goes.same (h : O.at_ U w) : Goes O U w w := ⟨⟨U, h, fun _ hk => .inl hk⟩, Turned.refl U w⟩
theorem Goes.later (h : O.at_ U w) (hb : Below w.heap.size w w') : Goes O U w w' :=
  ⟨⟨U, O.kept h (fun k hk => hb.block k (O.lt h k hk)) hb.size, fun _ hk => .inl hk⟩, ⟨hb.os, hb.tape, hb.output, hb.size, fun k hk _ => hb.block k hk⟩⟩
/-- A step of the one leaves the other. -/
theorem sep_goes {S T : Nat → Prop} (h2 : P.at_ T w) (h3 : ∀ k, S k → ¬ T k) (h4 : ∀ k, S k → U k) (h5 : ∀ k, T k → U k) (hg : Goes O' S w w') : Goes (Sep O' P) U w w' := by
  obtain ⟨⟨S', g1, g2⟩, g3⟩ := hg
  refine ⟨⟨fun k => S' k ∨ T k, ⟨S', T, g1, P.kept h2 (fun k hk => g3.block k (P.lt h2 k hk) (fun hs => h3 k hs hk)) g3.size, fun k hk hT => ?_, fun k h => .inl h, fun k h => .inr h, fun k h => h⟩, fun k hk => ?_⟩, ?_⟩
  · exact (g2 k hk).elim (fun h => h3 k h hT) (fun h => by have := P.lt h2 k hT; omega)
  · exact hk.elim (fun h => (g2 k h).imp (h4 k) id) (fun h => .inl (h5 k h))
  · exact ⟨g3.os, g3.tape, g3.output, g3.size, fun k hk hU => g3.block k hk (fun hS => hU (h4 k hS))⟩
end

section
variable {P : Program} {f : FuncId} {args : Array Value} {w : World} {R : Ending → Prop} {A B A' B' : Thing}
/-- A call on the left one; on the right one. -/
theorem sepL (hc : ∀ S, A.at_ S w → Calls P f args w fun e w' => R e ∧ Goes A' S w w') : ∀ U, (Sep A B).at_ U w → Calls P f args w fun e w' => R e ∧ Goes (Sep A' B) U w w' :=
  fun _ ⟨_, _, h1, h2, h3, h4, h5, _⟩ => (hc _ h1).mono fun _ _ ⟨he, hg⟩ => ⟨he, sep_goes h2 h3 h4 h5 hg⟩
theorem sepR (hc : ∀ S, B.at_ S w → Calls P f args w fun e w' => R e ∧ Goes B' S w w') : ∀ U, (Sep A B).at_ U w → Calls P f args w fun e w' => R e ∧ Goes (Sep A B') U w w' :=
  fun _ ⟨_, _, h1, h2, h3, h4, h5, _⟩ => (hc _ h2).mono fun _ _ ⟨he, hg⟩ => ⟨he, (sep_goes h1 (fun k hT hS => h3 k hS hT) h5 h4 hg).conv fun _ _ h => sepAt.swap h⟩
theorem lookL (hc : ∀ S, A.at_ S w → Calls P f args w fun e w' => R e ∧ w = w') : ∀ U, (Sep A B).at_ U w → Calls P f args w fun e w' => R e ∧ w = w' := fun _ ⟨_, _, h1, _⟩ => hc _ h1
theorem lookR (hc : ∀ S, B.at_ S w → Calls P f args w fun e w' => R e ∧ w = w') : ∀ U, (Sep A B).at_ U w → Calls P f args w fun e w' => R e ∧ w = w' := fun _ ⟨_, _, _, h2, _⟩ => hc _ h2
end

section
variable {W w w' : World} {A B C A' B' : Thing}
theorem St.left (h : St W (Sep A B) w) : St W A w := by
  obtain ⟨⟨U, ⟨S, T, h1, h2, h3, h4, h5, h6⟩, h7⟩, h8⟩ := h
  exact ⟨⟨S, h1, fun k hk => h7 k (h4 k hk)⟩, h8⟩
theorem St.right (h : St W (Sep A B) w) : St W B w := by
  obtain ⟨⟨U, ⟨S, T, h1, h2, h3, h4, h5, h6⟩, h7⟩, h8⟩ := h
  exact ⟨⟨T, h2, fun k hk => h7 k (h5 k hk)⟩, h8⟩
theorem St.swap (h : St W (Sep A B) w) : St W (Sep B A) w := by
  obtain ⟨⟨U, h, h7⟩, h8⟩ := h
  exact ⟨⟨U, sepAt.swap h, h7⟩, h8⟩
/-- Another thing has come. -/
theorem St.more (h : St W A w) (hn : ∃ S, B.at_ S w' ∧ ∀ k, S k → w.heap.size ≤ k) (hb : Below w.heap.size w w') : St W (Sep A B) w' := by
  obtain ⟨T, h3, h4⟩ := hn
  have hl := h.later hb
  obtain ⟨⟨S, h1, h2⟩, h5⟩ := h
  refine ⟨⟨fun k => S k ∨ T k, ⟨S, T, A.kept h1 (fun k hk => hb.block k (A.lt h1 k hk)) hb.size, h3, fun k hk hk' => ?_, fun k h => .inl h, fun k h => .inr h, fun k h => h⟩, fun k hk => hk.elim (h2 k) fun h => Nat.le_trans h5.size (h4 k h)⟩, hl.2⟩
  have := A.lt h1 k hk
  have := h4 k hk'
  omega
end

/-- A block that holds just these cells. -/
def varAt (b : Nat) (cs : Array Value) (t : TypeId) (S : Nat → Prop) (w : World) : Prop := Blk w b cs t ∧ S b ∧ ∀ k, S k → k = b
def Var (b : Nat) (cs : Array Value) (t : TypeId) : Thing where
  at_ := varAt b cs t
  lt := fun ⟨h1, _, h3⟩ k hk => by rw [h3 k hk]; exact h1.lt
  kept := fun ⟨h1, h2, h3⟩ hk _ => ⟨by unfold Blk at *; rw [hk b h2]; exact h1, h2, h3⟩
theorem St.var {W w : World} {A : Thing} (h : St W A w) (cs : Array Value) (t : TypeId) : St W (Sep A (Var w.heap.size cs t)) (w.alloc (.cells cs t)) :=
  h.more ⟨fun k => k = w.heap.size, ⟨Blk.new w cs t, rfl, fun _ h => h⟩, fun k hk => by omega⟩ ((Below.refl _ _).alloc (Nat.le_refl _) _)
theorem St.blk {W w : World} {b : Nat} {cs : Array Value} {t : TypeId} (h : St W (Var b cs t) w) : Blk w b cs t := h.1.choose_spec.1.1
theorem var_set {b : Nat} {cs : Array Value} {t : TypeId} {S : Nat → Prop} {w : World} (h : (Var b cs t).at_ S w) (i : Nat) (v : Value) : Goes (Var b (cs.setIfInBounds i v) t) S w (w.setCell ⟨b, i, none⟩ v) := by
  obtain ⟨h1, h2, h3⟩ := h
  exact ⟨⟨S, ⟨h1.set i v, h2, h3⟩, fun _ h => .inl h⟩, (Turned.refl S w).setCell (.inl h2) v⟩
/-- A store into a thing among several. -/
theorem goesL {A A' B : Thing} {w w' : World} (hc : ∀ S, A.at_ S w → Goes A' S w w') : ∀ U, (Sep A B).at_ U w → Goes (Sep A' B) U w w' :=
  fun _ ⟨_, _, h1, h2, h3, h4, h5, _⟩ => sep_goes h2 h3 h4 h5 (hc _ h1)
theorem goesR {A B B' : Thing} {w w' : World} (hc : ∀ S, B.at_ S w → Goes B' S w w') : ∀ U, (Sep A B).at_ U w → Goes (Sep A B') U w w' :=
  fun _ ⟨_, _, h1, h2, h3, h4, h5, _⟩ => (sep_goes h1 (fun k hT hS => h3 k hS hT) h5 h4 (hc _ h2)).conv fun _ _ h => sepAt.swap h

/-- A row of n bools at block q, of type t. -/
def boolsAt (q n : Nat) (t : TypeId) (m : Nat → Bool) (S : Nat → Prop) (w : World) : Prop := ∃ cs, Blk w q cs t ∧ cs.size = n ∧ (∀ j, j < n → cs[j]? = some (.bool (m j))) ∧ S q ∧ ∀ k, S k → k = q
def Bools (q n : Nat) (t : TypeId) (m : Nat → Bool) : Thing where
  at_ := boolsAt q n t m
  lt := fun ⟨_, h1, _, _, _, h3⟩ k hk => by rw [h3 k hk]; exact h1.lt
  kept := fun ⟨cs, h1, h2, h3, h4, h5⟩ hk _ => ⟨cs, by unfold Blk at *; rw [hk q h4]; exact h1, h2, h3, h4, h5⟩
theorem St.boolCell {W w : World} {q n : Nat} {t : TypeId} {m : Nat → Bool} (h : St W (Bools q n t m) w) {j : Nat} (hj : j < n) : w.cell? ⟨q, j, none⟩ = some (.bool (m j)) := by
  obtain ⟨⟨S, ⟨cs, h1, h2, h3, h4, h5⟩, _⟩, _⟩ := h
  rw [h1.cell]; exact h3 j hj
theorem St.boolFree {W w : World} {q n : Nat} {t : TypeId} {m : Nat → Bool} (h : St W (Bools q n t m) w) (j : Nat) : w.frozen? ⟨q, j, none⟩ = false := by
  obtain ⟨⟨S, ⟨cs, h1, h2, h3, h4, h5⟩, _⟩, _⟩ := h
  exact h1.free j
def setB (m : Nat → Bool) (j : Nat) (x : Bool) : Nat → Bool := fun k => if k = j then x else m k
theorem bools_set {q n : Nat} {t : TypeId} {m : Nat → Bool} {S : Nat → Prop} {w : World} (h : (Bools q n t m).at_ S w) (j : Nat) (x : Bool) : Goes (Bools q n t (setB m j x)) S w (w.setCell ⟨q, j, none⟩ (.bool x)) := by
  obtain ⟨cs, h1, h2, h3, h4, h5⟩ := h
  refine ⟨⟨S, ⟨_, h1.set j (.bool x), by simpa using h2, fun k hk => ?_, h4, h5⟩, fun _ h => .inl h⟩, (Turned.refl S w).setCell (.inl h4) _⟩
  by_cases e : k = j
  · subst e; simp [setB, h2, hk]
  · rw [Array.getElem?_setIfInBounds_ne (by omega)]; simp only [setB, e, if_false]; exact h3 k hk
theorem St.bools {W w : World} {A : Thing} (h : St W A w) (n : Nat) (t : TypeId) : St W (Sep A (Bools w.heap.size n t fun _ => false)) (w.alloc (.cells (madeCells #[.bool false] n) t)) :=
  h.more ⟨fun k => k = w.heap.size, ⟨_, Blk.new w _ t, by simp [madeCells], fun j hj => by simp [madeCells, hj, Nat.mod_one], rfl, fun _ h => h⟩, fun k hk => by omega⟩ ((Below.refl _ _).alloc (Nat.le_refl _) _)
end Go.Proofs.Ytcdmlimhkmbiiaa
