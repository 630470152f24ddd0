/- What a walk is told of slices of structs and of bools that came in, and how that is read off the row's own reading. -/
import Derived.Test.YtcdmlimhkmbiiaaBase
import Derived.WalkKit
import Derived.ProofKit
import Derived.OpenShut
import Derived.ChangeOld
import Derived.Deep.Slices
namespace Go.Proofs.Ytcdmlimhkmbiiaa
open Go.ChangeShapes Go.WideShapes Go.ChangeAt Go.RowKit Go.Deep

/-- A cell of a field: a bool, or an int. -/
def cellOk (isBool : Bool) (v : Value) : Prop := (isBool = true ∧ ∃ b, v = .bool b) ∨ (isBool = false ∧ ∃ n, v = .int .i64 n)
/-- A slice of structs whose fields are bools (true) and ints (false). -/
def IsStructs (kinds : List Bool) (w : World) (a : Option Addr) (len : Nat) : Prop :=
  len ≤ maxLen ∧ ∀ i, i < len → ∃ b off, a = some ⟨b, off, none⟩ ∧ b < w.heap.size ∧ ∀ (j : Nat) (k : Bool), kinds[j]? = some k → ∃ v, w.cell? ⟨b, off + (i * kinds.length + j), none⟩ = some v ∧ cellOk k v
/-- A slice of bools. -/
def IsBools (w : World) (a : Option Addr) (len : Nat) (zs : List Bool) : Prop :=
  len ≤ maxLen ∧ zs.length = len ∧ ∀ i, i < len → ∃ b off, a = some ⟨b, off, none⟩ ∧ b < w.heap.size ∧ w.cell? ⟨b, off + i, none⟩ = some (.bool (zs.getD i false))

section
variable {H : Type} {enc : TypeId × Value → H} {P : Program} {w : World} {base : Nat} {spare : Nat → Bool} {held : Bool}

theorem spot_none {a : Addr} {v : Value} {n : Nat} (h : w.cell? (a.add n) = some v) (h0 : ∃ u, w.cell? (a.add 0) = some u) : ∃ b off, a = ⟨b, off, none⟩ := by
  obtain ⟨b, off, spot⟩ := a
  cases spot with
  | none => exact ⟨b, off, rfl⟩
  | some s =>
    obtain ⟨u, h0⟩ := h0
    simp [Addr.add, World.cell?] at h0
    split at h0 <;> simp at h0
theorem add_none (b off n : Nat) : (⟨b, off, none⟩ : Addr).add n = ⟨b, off + n, none⟩ := by unfold Addr.add; split <;> simp_all

/-- A slice of structs of plain fields, opened. -/
theorem open_structs {t e : TypeId} {fs : Array Field} {kinds : List Bool} {fuel : Nat} {a : Option Addr} {len cap : Nat} {x : DataW H × List MemPlace}
    (ht : P.underlying t = some (.slice e)) (he : P.underlying e = some (.struct fs)) (hc : P.cellsOf e = kinds.length) (hk0 : 0 < kinds.length)
    (hf : ∀ (j : Nat) (k : Bool), kinds[j]? = some k → ∃ f : Field, fs[j]? = some f ∧ f.offset = j ∧ P.cellsOf f.type = 1 ∧ P.underlying f.type = some (if k = true then .bool else .int .i64))
    (h : DataW.trod enc P w base spare held fuel t [.slice a len cap] = some x) : IsStructs kinds w a len := by
  rcases open_slice ht h with ⟨hcs, _⟩ | ⟨a', len', cap', m, n, D, Pl, hcs, hb, hl, hm, hmm, _, hx⟩
  · simp at hcs; obtain ⟨rfl, rfl, rfl⟩ := hcs
    exact ⟨Nat.zero_le _, fun i hi => absurd hi (by omega)⟩
  · simp at hcs; obtain ⟨rfl, rfl, rfl⟩ := hcs
    have hlm : len ≤ m := by rw [hmm]; split <;> omega
    refine ⟨by omega, fun i hi => ?_⟩
    have cell : ∀ i, i < len → ∀ (j : Nat) (k : Bool), kinds[j]? = some k → ∃ v, w.cell? (a'.add (i * kinds.length + j)) = some v ∧ cellOk k v := by
      intro i hi j k hk
      obtain ⟨cs', h1, h2⟩ := hx i (by omega)
      rw [hc] at h1
      obtain ⟨_, hlen, hcell⟩ := World.cells?_some h1
      obtain ⟨xs, n', _, _, _, hxl, hfield⟩ := DataW.trod_struct he h2
      obtain ⟨f, hfj, ho, hc1, hu⟩ := hf j k hk
      have hj : j < kinds.length := (List.getElem?_eq_some_iff.1 hk).1
      have h3 := hfield j f hfj
      have hjx : j < xs.length := by rw [hxl]; exact (Array.getElem?_eq_some_iff.1 hfj).1
      rw [ho, hc1] at h3
      have h4 : (cs'.drop j).take 1 = [cs'[j]'(by omega)] := by
        rw [List.drop_eq_getElem_cons (by omega)]; rfl
      rw [h4, List.getElem?_eq_getElem hjx] at h3
      have h5 := hcell j hj
      rw [Addr.add_add, List.getElem?_eq_getElem (by omega)] at h5
      refine ⟨_, h5, ?_⟩
      cases k with
      | true =>
        obtain ⟨b, hb, _⟩ := DataW.trod_bool (by simpa using hu) h3
        exact .inl ⟨rfl, b, by simpa using hb⟩
      | false =>
        obtain ⟨q, hq, _⟩ := DataW.trod_int (k := .i64) (by simpa using hu) h3
        exact .inr ⟨rfl, q, by simpa using hq⟩
    obtain ⟨k0, hk00⟩ : ∃ k, kinds[0]? = some k := ⟨_, List.getElem?_eq_getElem hk0⟩
    obtain ⟨u, hu, _⟩ := cell 0 (by omega) 0 k0 hk00
    simp only [Nat.zero_mul, Nat.zero_add] at hu
    obtain ⟨b, off, rfl⟩ := spot_none hu ⟨u, hu⟩
    refine ⟨b, off, rfl, ?_, fun j k hk => ?_⟩
    · rw [add_none] at hu; exact World.block_lt_of_cell? _ _ hu
    · obtain ⟨v, hv, ok⟩ := cell i hi j k hk
      rw [add_none] at hv
      exact ⟨v, hv, ok⟩

/-- A slice of bools, opened. -/
theorem open_boolrow {t e : TypeId} {fuel : Nat} {a : Option Addr} {len cap : Nat} {x : DataW H × List MemPlace}
    (ht : P.underlying t = some (.slice e)) (he : P.underlying e = some .bool) (hc : P.cellsOf e = 1)
    (h : DataW.trod enc P w base spare held fuel t [.slice a len cap] = some x) : ∃ zs, IsBools w a len zs := by
  rcases open_slice1 ht hc h with ⟨hcs, _⟩ | ⟨a', len', cap', m, n, V, D, Pl, hcs, hb, hl, hm, hmm, _, hx⟩
  · simp at hcs; obtain ⟨rfl, rfl, rfl⟩ := hcs
    exact ⟨[], Nat.zero_le _, rfl, fun i hi => absurd hi (by omega)⟩
  · simp at hcs; obtain ⟨rfl, rfl, rfl⟩ := hcs
    have hlm : len ≤ m := by rw [hmm]; split <;> omega
    have cell : ∀ i, i < len → ∃ b, w.cell? (a'.add i) = some (.bool b) ∧ V i = .bool b := by
      intro i hi
      obtain ⟨h1, h2⟩ := hx i (by omega)
      obtain ⟨b, hb, _⟩ := DataW.trod_bool he h2
      have : V i = .bool b := by simpa using hb
      exact ⟨b, by rw [h1, this], this⟩
    refine ⟨(List.range len).map fun i => match V i with | .bool b => b | _ => false, by omega, by simp, fun i hi => ?_⟩
    obtain ⟨b0, h0, _⟩ := cell 0 (by omega)
    obtain ⟨b, off, rfl⟩ := spot_none h0 ⟨_, h0⟩
    obtain ⟨bi, hi', hv⟩ := cell i hi
    rw [add_none] at hi' h0
    refine ⟨b, off, rfl, World.block_lt_of_cell? _ _ h0, ?_⟩
    rw [hi']
    simp [List.getD, hi, hv]
end

/-- An element of two ints. -/
theorem IsStructs.two {w : World} {a : Option Addr} {len : Nat} (h : IsStructs [false, false] w a len) {i : Nat} (hi : i < len) :
    ∃ b off x y, a = some ⟨b, off, none⟩ ∧ b < w.heap.size ∧ w.cell? ⟨b, off + i * 2, none⟩ = some (.int .i64 x) ∧ w.cell? ⟨b, off + i * 2 + 1, none⟩ = some (.int .i64 y) := by
  obtain ⟨b, off, h1, h2, h3⟩ := h.2 i hi
  obtain ⟨v0, c0, k0⟩ := h3 0 false rfl
  obtain ⟨v1, c1, k1⟩ := h3 1 false rfl
  obtain ⟨_, x, rfl⟩ := k0.resolve_left (by simp)
  obtain ⟨_, y, rfl⟩ := k1.resolve_left (by simp)
  exact ⟨b, off, x, y, h1, h2, by simpa using c0, by simpa [Nat.add_assoc] using c1⟩
/-- An element of three ints and two bools. -/
theorem IsStructs.five {w : World} {a : Option Addr} {len : Nat} (h : IsStructs [false, false, false, true, true] w a len) {i : Nat} (hi : i < len) :
    ∃ b off x y z p q, a = some ⟨b, off, none⟩ ∧ b < w.heap.size ∧ w.cell? ⟨b, off + i * 5, none⟩ = some (.int .i64 x) ∧ w.cell? ⟨b, off + i * 5 + 1, none⟩ = some (.int .i64 y) ∧
      w.cell? ⟨b, off + i * 5 + 2, none⟩ = some (.int .i64 z) ∧ w.cell? ⟨b, off + i * 5 + 3, none⟩ = some (.bool p) ∧ w.cell? ⟨b, off + i * 5 + 4, none⟩ = some (.bool q) := by
  obtain ⟨b, off, h1, h2, h3⟩ := h.2 i hi
  obtain ⟨v0, c0, k0⟩ := h3 0 false rfl
  obtain ⟨v1, c1, k1⟩ := h3 1 false rfl
  obtain ⟨v2, c2, k2⟩ := h3 2 false rfl
  obtain ⟨v3, c3, k3⟩ := h3 3 true rfl
  obtain ⟨v4, c4, k4⟩ := h3 4 true rfl
  obtain ⟨_, x, rfl⟩ := k0.resolve_left (by simp)
  obtain ⟨_, y, rfl⟩ := k1.resolve_left (by simp)
  obtain ⟨_, z, rfl⟩ := k2.resolve_left (by simp)
  obtain ⟨_, p, rfl⟩ := k3.resolve_right (by simp)
  obtain ⟨_, q, rfl⟩ := k4.resolve_right (by simp)
  exact ⟨b, off, x, y, z, p, q, h1, h2, by simpa using c0, by simpa [Nat.add_assoc] using c1, by simpa [Nat.add_assoc] using c2, by simpa [Nat.add_assoc] using c3, by simpa [Nat.add_assoc] using c4⟩
end Go.Proofs.Ytcdmlimhkmbiiaa
