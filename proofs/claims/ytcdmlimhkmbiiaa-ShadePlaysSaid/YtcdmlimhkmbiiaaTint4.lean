/- The contract of tint's Set. -/
import Derived.Test.YtcdmlimhkmbiiaaTint3
namespace Go.Proofs.Ytcdmlimhkmbiiaa
open Go.RowKit

/-- Whether Set sets; what it makes of the table. -/
def tSets (n : Nat) (i st : Int) : Bool := decide (tIn n i ∧ 0 ≤ st ∧ st ≤ 2)
def tSet (n : Nat) (f : Nat → One) (i st : Int) (hd sn : Bool) : Nat → One := if tSets n i st then upd f i.toNat ⟨st.toNat, hd && st.toNat == 2, sn⟩ else f

theorem cell_of_cnt {w : World} {b : Nat} {v : Value} {f : Nat → One} {n s : Nat} (h : Blk w b #[v, .int .i64 (cnt f 0 n), .int .i64 (cnt f 1 n), .int .i64 (cnt f 2 n)] 80) (hs : s ≤ 2) : w.cell? ⟨b, 1 + s, none⟩ = some (.int .i64 (cnt f s n)) := by
  rw [h.cell]
  match s, hs with
  | 0, _ => rfl
  | 1, _ => rfl
  | 2, _ => rfl

theorem set_cells (v : Value) (f : Nat → One) (n k st : Nat) (x : One) (hk : k < n) (hx : x.st = st) (hst : st ≤ 2) (h0 : (f k).st ≤ 2) :
    (((#[v, .int .i64 (cnt f 0 n), .int .i64 (cnt f 1 n), .int .i64 (cnt f 2 n)] : Array Value).setIfInBounds (1 + (f k).st) (.int .i64 (cnt f (f k).st n - 1))).setIfInBounds (1 + st)
      (.int .i64 ((if st = (f k).st then cnt f st n - 1 else cnt f st n) + 1))) = #[v, .int .i64 (cnt (upd f k x) 0 n), .int .i64 (cnt (upd f k x) 1 n), .int .i64 (cnt (upd f k x) 2 n)] := by
  rw [cnt_upd f k x 0, cnt_upd f k x 1, cnt_upd f k x 2, hx]
  simp only [hk, if_true]
  generalize (f k).st = s0 at *
  match s0, h0, st, hst with
  | 0, _, 0, _ => simp
  | 0, _, 1, _ => simp; omega
  | 0, _, 2, _ => simp; omega
  | 1, _, 0, _ => simp; omega
  | 1, _, 1, _ => simp
  | 1, _, 2, _ => simp; omega
  | 2, _, 0, _ => simp; omega
  | 2, _, 1, _ => simp; omega
  | 2, _, 2, _ => simp

set_option maxHeartbeats 400000 in
theorem tint_set_no {b g n : Nat} {c1 c2 c3 : Value} {w : World} (i st : Int) (hd sn : Bool) (h : Blk w b #[.slice (some ⟨g, 0, none⟩) n n, c1, c2, c3] 80) (hno : tSets n i st = false) :
    Calls Try.prog 30 #[.pointer (some ⟨b, 0, none⟩), .int .i64 i, .int .i64 st, .bool hd, .bool sn] w fun e w' => e = .returned (.bool false) ∧ w = w' := by
  have h2 : w.cell? ⟨b, 0, none⟩ = some (.slice (some ⟨g, 0, none⟩) n n) := by rw [h.cell]; rfl
  replace hno := of_decide_eq_false hno
  unfold tIn at hno
  clear h
  by_cases h0 : i < 0
  · clear hno
    go_enter Try.func30, Try.ntmps30
    go_wp2
    go_ret
    exact ⟨rfl, rfl⟩
  by_cases h1 : (n : Int) ≤ i
  · have hd : decide (i < (n : Int)) = false := by simp; omega
    clear hno
    go_enter Try.func30, Try.ntmps30
    go_wp2
    go_ret
    exact ⟨rfl, rfl⟩
  have hi : decide (i < (n : Int)) = true := by simp; omega
  by_cases h3 : st < 0
  · clear hno
    go_enter Try.func30, Try.ntmps30
    go_wp2
    go_ret
    exact ⟨rfl, rfl⟩
  · have h4 : 2 < st := by omega
    clear hno
    go_enter Try.func30, Try.ntmps30
    go_wp2
    go_ret
    exact ⟨rfl, rfl⟩

/-- SET. -/
theorem tint_set {b n : Nat} {f : Nat → One} (i st : Int) (hd sn : Bool) {S : Nat → Prop} {w : World} (h : (Tab b n f).at_ S w) :
    Calls Try.prog 30 #[.pointer (some ⟨b, 0, none⟩), .int .i64 i, .int .i64 st, .bool hd, .bool sn] w fun e w' => e = .returned (.bool (tSets n i st)) ∧ Goes (Tab b n (tSet n f i st hd sn)) S w w' := by
  unfold tSet
  cases hm : tSets n i st with
  | false =>
    have h' := h
    obtain ⟨g, cs, h1, _⟩ := h'
    refine (tint_set_no i st hd sn h1 hm).mono fun e w' ⟨he, hw⟩ => ?_
    subst hw
    exact ⟨he, ⟨S, by simpa using h, fun k hk => .inl hk⟩, Turned.refl S w⟩
  | true =>
    simp only [tSets, decide_eq_true_eq] at hm
    obtain ⟨hi, hs1, hs2⟩ := hm
    obtain ⟨k, rfl⟩ : ∃ k : Nat, i = (k : Int) := ⟨i.toNat, by have := hi.1; omega⟩
    obtain ⟨s, rfl⟩ : ∃ s : Nat, st = (s : Int) := ⟨st.toNat, by omega⟩
    have hk : k < n := by have := hi.2; omega
    obtain ⟨g, cs, h1, h2, h3, h4, h5, h6, h7, h8, h9⟩ := h
    obtain ⟨a0, a1, a2⟩ := h3.2 k hk
    have c0 := cnt_bd f (f k).st n
    have c1 := cnt_bd f s n
    have hs3 : s ≤ 2 := by omega
    refine (tint_set_walk (st0 := (f k).st) (hd0 := (f k).hd) (sn0 := (f k).sn) k s hd sn h1 (by rw [h2.cell]; exact a0) (by rw [h2.cell]; exact a1) (by rw [h2.cell]; exact a2) (fun j => h2.free j) h6 hk h8 hs3 (h7 k hk)
      (cnt f (f k).st n) (if s = (f k).st then cnt f s n - 1 else cnt f s n) (cell_of_cnt h1 (h7 k hk)) c0.1 (by omega) ?_ ?_ ?_).mono fun e w' ⟨he, hw⟩ => ?_
    · split
      · rename_i e
        rw [e]
        exact World.cell?_setCell_same _ _ _ (cell_of_cnt h1 (h7 k hk))
      · rename_i e
        rw [World.cell?_setCell_other _ _ _ _ (fun x => e (by have := congrArg Addr.off x; simp at this; omega))]
        exact cell_of_cnt h1 hs3
    · split <;> omega
    · split <;> omega
    · subst hw
      have hb := ((((h1.set (1 + (f k).st) (.int .i64 (cnt f (f k).st n - 1))).drew).set (1 + s) (.int .i64 ((if s = (f k).st then cnt f s n - 1 else cnt f s n) + 1))).drew)
      rw [set_cells _ f n k s ⟨s, hd && s == 2, sn⟩ hk rfl hs3 (h7 k hk)] at hb
      have hg := (((h2.far (a := ⟨b, 1 + (f k).st, none⟩) (fun e => h6 e.symm) (.int .i64 (cnt f (f k).st n - 1))).drew).far (a := ⟨b, 1 + s, none⟩) (fun e => h6 e.symm) (.int .i64 ((if s = (f k).st then cnt f s n - 1 else cnt f s n) + 1))).drew
      refine ⟨he, ⟨S, ⟨g, _, ((hb.far h6 _).far h6 _).far h6 _, (((hg.set (k * 3) (.int .i64 s)).set (k * 3 + 1) (.bool (hd && s == 2))).set (k * 3 + 2) (.bool sn)), ?_, h4, h5, h6, ?_, h8, fun k hk => by simpa using h9 k hk⟩, fun k hk => .inl hk⟩, ?_⟩
      · simpa using cells3_all h3 hk ⟨s, hd && s == 2, sn⟩
      · intro j hj
        simp only [if_true, Int.toNat_natCast, upd]
        split
        · exact hs3
        · exact h7 j hj
      · exact (((((((Turned.refl S w).setCell (.inl h4) _).drew).setCell (.inl h4) _).drew.setCell (.inl h5) _).setCell (.inl h5) _).setCell (.inl h5) _)

theorem tint_newI (m : Int) (w : World) (h1 : 0 ≤ m) (h2 : m ≤ 1024) :
    Calls Try.prog 29 #[.int .i64 m] w fun e w' => ∃ b, e = .returned (.tuple #[.pointer (some ⟨b, 0, none⟩), .int .i64 0]) ∧ (∃ S, (Tab b m.toNat blank).at_ S w' ∧ ∀ k, S k → w.heap.size ≤ k) ∧ Below w.heap.size w w' := by
  have := tint_new m.toNat w (by omega)
  rw [Int.toNat_of_nonneg h1] at this
  exact this
theorem tint_counts_st {W : World} {b n : Nat} {f : Nat → One} {w : World} (h : St W (Tab b n f) w) :
    Calls Try.prog 40 #[.pointer (some ⟨b, 0, none⟩)] w fun e w' => e = .returned (.tuple #[.int .i64 (cnt f 0 n), .int .i64 (cnt f 1 n), .int .i64 (cnt f 2 n)]) ∧ St W (Tab b n f) w' :=
  (tint_counts h.1.choose_spec.1).mono fun _ _ ⟨he, hb⟩ => ⟨he, h.later hb⟩
end Go.Proofs.Ytcdmlimhkmbiiaa
