/- The contracts of package pool. -/
import Derived.Test.YtnkgnhpapcnebaaGreatM3
set_option linter.unusedVariables false
set_option linter.unusedSimpArgs false
set_option maxHeartbeats 8000000
namespace Go.Proofs.YtnkgnhpapcnebaaGreat
open Go.RowKit
theorem make_bools (n : Nat) (hn : n ≤ 1024) (w : World) : (Instr.makeSlice 55 (.int .i64 n) (.int .i64 n)).run Tryz.prog w = .ok (.slice (some ⟨w.heap.size, 0, none⟩) n n) (w.alloc (.cells (madeCells #[.bool false] n) 4)) := by
  obtain ⟨i0, hi, hz0, hz1, hz2⟩ := info_parts Tryz.info4
  have := run_make (P := Tryz.prog) w 55 4 i0 _ Tryz.underlying55 hi hz0 .i64 .i64 n n (by omega) (by omega) (by rw [hz2]; omega) (by omega)
  rw [this, hz1]; simp [Value.cells]
/-- How many are free. -/
def pcnt : Nat → (Nat → Bool) → Nat
  | 0, _ => 0
  | n + 1, f => pcnt n f + if f n then 1 else 0
theorem pcnt_le (n : Nat) (f : Nat → Bool) : pcnt n f ≤ n := by
  induction n with
  | zero => exact Nat.le_refl 0
  | succ n ih => simp only [pcnt]; split <;> omega
theorem pcnt_congr {f f' : Nat → Bool} (n : Nat) (h : ∀ j, j < n → f j = f' j) : pcnt n f = pcnt n f' := by
  induction n with
  | zero => rfl
  | succ n ih => simp only [pcnt]; rw [ih fun j hj => h j (by omega), h n (by omega)]
theorem pcnt_out {n i : Nat} {f : Nat → Bool} {x : Bool} (h : n ≤ i) : pcnt n (setB f i x) = pcnt n f := pcnt_congr n fun j hj => by simp [setB]; omega
theorem pcnt_set {n i : Nat} {f : Nat → Bool} {x : Bool} (h : i < n) : pcnt n (setB f i x) + (if f i then 1 else 0) = pcnt n f + (if x then 1 else 0) := by
  induction n with
  | zero => omega
  | succ n ih =>
    simp only [pcnt]
    by_cases e : i = n
    · subst e
      rw [pcnt_out (Nat.le_refl _)]
      simp only [setB, if_true]; omega
    · have := ih (by omega)
      have e2 : setB f i x n = f n := by simp [setB]; omega
      rw [e2]; omega
theorem pcnt_off {n i : Nat} {f : Nat → Bool} (h : i < n) (hf : f i = true) : (pcnt n (setB f i false) : Int) = pcnt n f - 1 := by
  have := pcnt_set (x := false) (f := f) h
  simp [hf] at this; omega
theorem pcnt_on {n i : Nat} {f : Nat → Bool} (h : i < n) (hf : f i = false) : (pcnt n (setB f i true) : Int) = pcnt n f + 1 := by
  have := pcnt_set (x := true) (f := f) h
  simp [hf] at this; omega
/-- The pool. -/
def Pool (b g n : Nat) (f : Nat → Bool) : Thing := Sep (Var b #[.slice (some ⟨g, 0, none⟩) n n, .int .i64 (pcnt n f)] 208) (Bools g n 4 f)
def full : Nat → Bool := fun _ => true
def inN (n : Nat) (i : Int) : Prop := 0 ≤ i ∧ i < n
instance (n : Nat) (i : Int) : Decidable (inN n i) := by unfold inN; infer_instance
def pH (n : Nat) (f : Nat → Bool) (i : Int) : Bool := decide (inN n i) && f i.toNat
theorem pH_in {n k : Nat} {f : Nat → Bool} (h : k < n) : pH n f k = f k := by
  have : inN n (k : Int) := ⟨by omega, by omega⟩
  simp [pH, this]
def gB (n : Nat) (f : Nat → Bool) (i : Int) : Bool := decide (inN n i) && !f i.toNat
def gF (n : Nat) (f : Nat → Bool) (i : Int) : Nat → Bool := if gB n f i = true then setB f i.toNat true else f
theorem gB_in {n k : Nat} {f : Nat → Bool} (h : k < n) : gB n f k = !f k := by
  have : inN n (k : Int) := ⟨by omega, by omega⟩
  simp [gB, this]
theorem gB_out {n : Nat} {f : Nat → Bool} {i : Int} (h : ¬ inN n i) : gB n f i = false := by simp [gB, h]
/-- Pools of one content are one. -/
theorem bools_congr {q n : Nat} {t : TypeId} {m m' : Nat → Bool} (h : ∀ j, j < n → m j = m' j) {S : Nat → Prop} {w : World} (ht : (Bools q n t m).at_ S w) : (Bools q n t m').at_ S w := by
  obtain ⟨cs, h1, h2, h3, h4⟩ := ht
  exact ⟨cs, h1, h2, fun j hj => by rw [← h j hj]; exact h3 j hj, h4⟩
section
variable {b g n : Nat} {f : Nat → Bool} {S : Nat → Prop} {w w' : World}
theorem pool_congr {f' : Nat → Bool} (h : ∀ j, j < n → f j = f' j) (hp : (Pool b g n f).at_ S w) : (Pool b g n f').at_ S w := by
  obtain ⟨A, B, h1, h2, h3⟩ := hp
  exact ⟨A, B, by rw [← pcnt_congr n h]; exact h1, bools_congr h h2, h3⟩
theorem pool_cells (h : (Pool b g n f).at_ S w) : w.cell? ⟨b, 0, none⟩ = some (.slice (some ⟨g, 0, none⟩) n n) ∧ w.cell? ⟨b, 1, none⟩ = some (.int .i64 (pcnt n f)) ∧ w.frozen? ⟨b, 1, none⟩ = false := by
  obtain ⟨_, _, h, _⟩ := h
  have h := h.1
  exact ⟨by rw [h.cell]; rfl, by rw [h.cell]; rfl, h.free 1⟩
theorem pool_bit (h : (Pool b g n f).at_ S w) {j : Nat} (hj : j < n) : w.cell? ⟨g, j, none⟩ = some (.bool (f j)) ∧ w.frozen? ⟨g, j, none⟩ = false := by
  obtain ⟨_, _, _, ⟨cs, h1, h2, h3, _⟩, _⟩ := h
  exact ⟨by rw [h1.cell]; exact h3 j hj, h1.free j⟩
theorem pool_free (h : (Pool b g n f).at_ S w) : Calls Tryz.prog 134 #[.pointer (some ⟨b, 0, none⟩)] w fun e w' => e = .returned (.int .i64 (pcnt n f)) ∧ w = w' := by
  obtain ⟨c0, c1, -⟩ := pool_cells h
  clear h
  go_enter Tryz.func134, Tryz.ntmps134
  go_wp2_with fail
  go_ret
  exact ⟨rfl, rfl⟩
theorem pool_takes (i : Nat) (hn : n ≤ 1024) (hi : i < n) (hf : f i = true) (h : (Pool b g n f).at_ S w) :
    Calls Tryz.prog 279 #[.pointer (some ⟨b, 0, none⟩), .int .i64 (i : Int)] w fun e w' => e = .returned (.tuple #[]) ∧ Goes (Pool b g n (setB f i false)) S w w' := by
  obtain ⟨c0, c1, f1⟩ := pool_cells h
  obtain ⟨c2, f2⟩ := pool_bit h hi
  have e1 := pcnt_off hi hf
  have hc := pcnt_le n f
  have g1 : Goes (Sep (Var b #[.slice (some ⟨g, 0, none⟩) n n, .int .i64 (pcnt n f)] 208) (Bools g n 4 (setB f i false))) S w (w.setCell ⟨g, i, none⟩ (.bool false)) := goesR (fun _ h => bools_set h i false) S h
  have hb : ∀ S' w', (Sep (Var b #[.slice (some ⟨g, 0, none⟩) n n, .int .i64 (pcnt n f)] 208) (Bools g n 4 (setB f i false))).at_ S' w' → w'.cell? ⟨b, 1, none⟩ = some (.int .i64 (pcnt n f)) ∧ w'.frozen? ⟨b, 1, none⟩ = false := by
    rintro S' w' ⟨_, _, h, _⟩
    exact ⟨by rw [h.1.cell]; rfl, h.1.free 1⟩
  obtain ⟨d1, d2⟩ := hb _ _ g1.now.choose_spec.1
  have d0 : (w.setCell ⟨g, i, none⟩ (.bool false)).cell? ⟨b, 0, none⟩ = some (.slice (some ⟨g, 0, none⟩) n n) := by
    obtain ⟨_, _, h, _⟩ := g1.now.choose_spec.1
    rw [h.1.cell]; rfl
  have g2 : Goes (Pool b g n (setB f i false)) S w ((w.setCell ⟨g, i, none⟩ (.bool false)).setCell ⟨b, 1, none⟩ (.int .i64 (pcnt n f - 1))) := by
    have := g1.then fun S h => goesL (fun _ h => var_set h 1 (.int .i64 ((pcnt n f : Int) - 1))) S h
    unfold Pool; rw [e1]; exact this
  have HG := Lib.hid g2
  clear g1 g2 h hb hf e1
  generalize pcnt n f = ct at *
  go_enter Tryz.func279, Tryz.ntmps279
  go_wp2_with fail
  go_end0
  exact ⟨rfl, HG.out⟩
theorem pool_give (i : Int) (hn : n ≤ 1024) (h : (Pool b g n f).at_ S w) :
    Calls Tryz.prog 217 #[.pointer (some ⟨b, 0, none⟩), .int .i64 i] w fun e w' => e = .returned (.bool (gB n f i)) ∧ Goes (Pool b g n (gF n f i)) S w w' := by
  obtain ⟨c0, c1, f1⟩ := pool_cells h
  have HS := Lib.hid (Goes.same h)
  by_cases hi : inN n i
  · obtain ⟨k, rfl⟩ : ∃ k : Nat, i = (k : Int) := ⟨i.toNat, by have := hi.1; omega⟩
    have hk : k < n := by have := hi.2; omega
    rw [gB_in hk]
    obtain ⟨c2, f2⟩ := pool_bit h hk
    clear hi
    unfold gF
    rw [gB_in hk]
    cases hf : f k
    · rw [hf] at c2
      simp only [Bool.not_false, if_true]
      have e1 := pcnt_on hk hf
      have hc := pcnt_le n f
      have g1 : Goes (Sep (Var b #[.slice (some ⟨g, 0, none⟩) n n, .int .i64 (pcnt n f)] 208) (Bools g n 4 (setB f k true))) S w (w.setCell ⟨g, k, none⟩ (.bool true)) := goesR (fun _ h => bools_set h k true) S h
      have hb : ∀ S' w', (Sep (Var b #[.slice (some ⟨g, 0, none⟩) n n, .int .i64 (pcnt n f)] 208) (Bools g n 4 (setB f k true))).at_ S' w' → w'.cell? ⟨b, 1, none⟩ = some (.int .i64 (pcnt n f)) ∧ w'.frozen? ⟨b, 1, none⟩ = false := by
        rintro S' w' ⟨_, _, h, _⟩
        exact ⟨by rw [h.1.cell]; rfl, h.1.free 1⟩
      obtain ⟨d1, d2⟩ := hb _ _ g1.now.choose_spec.1
      have g2 : Goes (Pool b g n (setB f k true)) S w ((w.setCell ⟨g, k, none⟩ (.bool true)).setCell ⟨b, 1, none⟩ (.int .i64 (pcnt n f + 1))) := by
        have := g1.then fun S h => goesL (fun _ h => var_set h 1 (.int .i64 ((pcnt n f : Int) + 1))) S h
        unfold Pool; rw [e1]; exact this
      have HG := Lib.hid g2
      clear g1 g2 h hb hf e1 HS
      rw [show (k : Int).toNat = k from rfl]
      generalize pcnt n f = ct at *
      go_enter Tryz.func217, Tryz.ntmps217
      go_wp2_with fail
      go_ret
      exact ⟨rfl, HG.out⟩
    · rw [hf] at c2
      simp only [Bool.not_true, Bool.false_eq_true, if_false]
      clear h hf
      generalize pcnt n f = ct at *
      go_enter Tryz.func217, Tryz.ntmps217
      go_wp2_with fail
      go_ret
      exact ⟨rfl, HS.out⟩
  · unfold gF
    rw [gB_out hi]
    simp only [Bool.false_eq_true, if_false]
    unfold inN at hi
    clear h
    by_cases h0 : 0 ≤ i
    · have hd : decide (i < (n : Int)) = false := by simp; omega
      have hge : (n : Int) ≤ i := by omega
      clear hi
      go_enter Tryz.func217, Tryz.ntmps217
      go_wp2_with fail
      go_ret
      exact ⟨rfl, HS.out⟩
    · have hlt : i < 0 := by omega
      clear hi h0
      go_enter Tryz.func217, Tryz.ntmps217
      go_wp2_with fail
      go_ret
      exact ⟨rfl, HS.out⟩
end
def fN (q : Nat) : Nat → Bool := fun j => decide (j < q)
theorem fN_step (q : Nat) : setB (fN q) q true = fN (q + 1) := by
  funext k
  by_cases e : k = q
  · subst e; simp [setB, fN]
  · have : (k < q + 1) ↔ (k < q) := by omega
    simp [setB, fN, e, this]
theorem pcnt_full (n : Nat) : pcnt n full = n := by
  induction n with
  | zero => rfl
  | succ n ih => simp [pcnt, ih, full]
theorem pool_new (n : Nat) (w : World) (h2 : n ≤ 1024) :
    Calls Tryz.prog 73 #[.int .i64 n] w fun e w' => ∃ b g, e = .returned (.tuple #[.pointer (some ⟨b, 0, none⟩), .int .i64 0]) ∧ St w (Pool b g n full) w' := by
  have hmk := make_bools n (by omega)
  go_enter Tryz.func73, Tryz.ntmps73
  go_wp2_with fail
  clear hmk
  have h3 : St w (Sep (Bools w.heap.size n 4 fun _ => false) (Var (w.heap.size + 1) #[.slice (some ⟨w.heap.size, 0, none⟩) n n, .int .i64 n] 208)) ((w.alloc (.cells (madeCells #[.bool false] n) 4)).alloc (.cells #[.slice (some ⟨w.heap.size, 0, none⟩) n n, .int .i64 n] 208)) := by
    have h4 : St w (Bools w.heap.size n 4 fun _ => false) (w.alloc (.cells (madeCells #[.bool false] n) 4)) :=
      ⟨⟨fun k => k = w.heap.size, ⟨_, Blk.new w _ 4, by simp [madeCells], fun j hj => by simp [madeCells, hj, Nat.mod_one], rfl, fun _ h => h⟩, fun k hk => by omega⟩, (Below.refl _ _).alloc (Nat.le_refl _) _⟩
    have := h4.var #[.slice (some ⟨w.heap.size, 0, none⟩) n n, .int .i64 n] 208
    simpa using this
  have h3 := h3.swap
  generalize hbh : w.heap.size + 1 = b at h3 ⊢
  generalize hg : w.heap.size = g at h3 ⊢
  generalize hW : (w.alloc (.cells (madeCells #[.bool false] n) 4)).alloc (.cells #[.slice (some ⟨g, 0, none⟩) n n, .int .i64 n] 208) = W1 at h3 ⊢
  clear hbh hg hW
  have c0 : W1.cell? ⟨b, 0, none⟩ = some (.slice (some ⟨g, 0, none⟩) n n) := by rw [h3.left.blk.cell]; rfl
  go_wp2_with fail
  go_loopw [22] (fun k w' => ∃ q : Nat, q ≤ n ∧ k = .int .i64 q ∧ St w (Sep (Var b #[.slice (some ⟨g, 0, none⟩) n n, .int .i64 n] 208) (Bools g n 4 (fN q))) w') (fun k _ => n - (intOf k).toNat)
  case atStart => exact ⟨0, Nat.zero_le _, rfl, by rw [show fN 0 = fun _ => false by funext k; simp [fN]]; exact h3⟩
  case round =>
    clear h3 c0
    obtain ⟨q, hq, rfl, hs⟩ := hrel
    have c0 : wr.cell? ⟨b, 0, none⟩ = some (.slice (some ⟨g, 0, none⟩) n n) := by rw [hs.left.blk.cell]; rfl
    by_cases hlt : q < n
    · have c2 := hs.right.boolCell hlt
      have f2 := hs.right.boolFree q
      have h6 := hs.goes (w' := wr.setCell ⟨g, q, none⟩ (.bool true)) (goesR fun S h => bools_set h q true)
      rw [fN_step] at h6
      clear hs
      go_wp2_with fail
      go_round
      case rel => exact ⟨q + 1, by omega, by go_num, h6⟩
      case measure => simp [intOf]; omega
    · obtain rfl : q = n := by omega
      go_wp2_with fail
      go_ret2
      refine ⟨b, g, rfl, hs.conv fun S w h => pool_congr (f := fN q) (fun j hj => by simp [fN, full, hj]) ?_⟩
      obtain ⟨A, B, a1, a2, a3⟩ := h
      refine ⟨A, B, ?_, a2, a3⟩
      have : pcnt q (fN q) = q := by rw [pcnt_congr q (f' := full) fun j hj => by simp [fN, full, hj], pcnt_full]
      rw [this]; exact a1
/-- A run of k free ones from a on. -/
def isRun (f : Nat → Bool) (a k : Nat) : Prop := ∀ j, j < k → f (a + j) = true
/-- The highest run of k, or none. -/
def Best (n : Nat) (f : Nat → Bool) (k : Int) : Option Nat → Prop
  | some a => 1 ≤ k ∧ a + k.toNat ≤ n ∧ isRun f a k.toNat ∧ ∀ b, a < b → b + k.toNat ≤ n → ¬ isRun f b k.toNat
  | none => k < 1 ∨ ∀ b, b + k.toNat ≤ n → ¬ isRun f b k.toNat
theorem Best.unique {n : Nat} {f : Nat → Bool} {k : Int} : ∀ {r r' : Option Nat}, Best n f k r → Best n f k r' → r = r'
  | none, none, _, _ => rfl
  | some a, none, h, h' => (h'.elim (fun e => by have := h.1; omega) fun e => (e a h.2.1 h.2.2.1).elim)
  | none, some a, h', h => (h'.elim (fun e => by have := h.1; omega) fun e => (e a h.2.1 h.2.2.1).elim)
  | some a, some b, h, h' => by
    by_cases e : a = b
    · rw [e]
    · by_cases e2 : a < b
      · exact (h.2.2.2 b e2 h'.2.1 h'.2.2.1).elim
      · exact (h'.2.2.2 a (by omega) h.2.1 h.2.2.1).elim
open Classical in
noncomputable def runOf (n : Nat) (f : Nat → Bool) (k : Int) : Option Nat := if h : ∃ r, Best n f k r then h.choose else none
theorem Best.is {n : Nat} {f : Nat → Bool} {k : Int} {r : Option Nat} (h : Best n f k r) : runOf n f k = r := by
  have he : ∃ r, Best n f k r := ⟨r, h⟩
  unfold runOf; rw [dif_pos he]
  exact Best.unique he.choose_spec h
noncomputable def rV (n : Nat) (f : Nat → Bool) (k : Int) : Int := match runOf n f k with | some a => a | none => 0
noncomputable def rB (n : Nat) (f : Nat → Bool) (k : Int) : Bool := (runOf n f k).isSome
theorem Best.some {n a : Nat} {f : Nat → Bool} {k : Int} (h : Best n f k (some a)) : rV n f k = a ∧ rB n f k = true := by unfold rV rB; rw [h.is]; exact ⟨rfl, rfl⟩
theorem Best.none {n : Nat} {f : Nat → Bool} {k : Int} (h : Best n f k none) : rV n f k = 0 ∧ rB n f k = false := by unfold rV rB; rw [h.is]; exact ⟨rfl, rfl⟩
/-- m free ones from q on, not more; and no run at q or above. -/
def RunInv (n : Nat) (f : Nat → Bool) (k : Int) (q m : Nat) : Prop :=
  q + m ≤ n ∧ (m : Int) < k ∧ (∀ j, j < m → f (q + j) = true) ∧ (q + m = n ∨ f (q + m) = false) ∧ ∀ a, q ≤ a → a + k.toNat ≤ n → ¬ isRun f a k.toNat
theorem runInv_first {n : Nat} {f : Nat → Bool} {k : Int} (hk : 1 ≤ k) : RunInv n f k n 0 :=
  ⟨by omega, by omega, fun j hj => by omega, .inl rfl, fun a h1 h2 => by omega⟩
theorem runInv_off {n q m : Nat} {f : Nat → Bool} {k : Int} (h : RunInv n f k (q + 1) m) (hf : f q = false) : RunInv n f k q 0 := by
  obtain ⟨h1, h2, h3, h4, h5⟩ := h
  refine ⟨by omega, by omega, fun j hj => by omega, .inr hf, fun a ha hn hr => ?_⟩
  by_cases e : a = q
  · subst e
    have := hr 0 (by omega)
    rw [Nat.add_zero, hf] at this; cases this
  · exact h5 a (by omega) hn hr
theorem runInv_on {n q m : Nat} {f : Nat → Bool} {k : Int} (h : RunInv n f k (q + 1) m) (hf : f q = true) (hm : ((m : Int) + 1) ≠ k) : RunInv n f k q (m + 1) := by
  obtain ⟨h1, h2, h3, h4, h5⟩ := h
  refine ⟨by omega, by omega, fun j hj => ?_, ?_, fun a ha hn hr => ?_⟩
  · by_cases e : j = 0
    · subst e; exact hf
    · have := h3 (j - 1) (by omega)
      rwa [show q + 1 + (j - 1) = q + j by omega] at this
  · rwa [show q + (m + 1) = q + 1 + m by omega]
  · by_cases e : a = q
    · subst e
      rcases h4 with e | e
      · omega
      · have := hr (m + 1) (by omega)
        rw [show a + (m + 1) = a + 1 + m by omega, e] at this; cases this
    · exact h5 a (by omega) hn hr
theorem runInv_found {n q m : Nat} {f : Nat → Bool} {k : Int} (h : RunInv n f k (q + 1) m) (hf : f q = true) (hm : ((m : Int) + 1) = k) : Best n f k (some q) := by
  obtain ⟨h1, h2, h3, h4, h5⟩ := h
  refine ⟨by omega, by omega, fun j hj => ?_, fun a ha hn => h5 a (by omega) hn⟩
  by_cases e : j = 0
  · subst e; exact hf
  · have := h3 (j - 1) (by omega)
    rwa [show q + 1 + (j - 1) = q + j by omega] at this
theorem runInv_none {n m : Nat} {f : Nat → Bool} {k : Int} (h : RunInv n f k 0 m) : Best n f k none := .inr fun a hn => h.2.2.2.2 a (Nat.zero_le _) hn
section
variable {b g n : Nat} {f : Nat → Bool} {S : Nat → Prop} {w w' : World}
theorem pool_run (k : Int) (hn : n ≤ 1024) (h : (Pool b g n f).at_ S w) :
    Calls Tryz.prog 220 #[.pointer (some ⟨b, 0, none⟩), .int .i64 k] w fun e w' => e = .returned (.tuple #[.int .i64 (rV n f k), .bool (rB n f k)]) ∧ w = w' := by
  obtain ⟨c0, -, -⟩ := pool_cells h
  have HB := Lib.hid fun j (hj : j < n) => (pool_bit h hj).1
  clear h
  by_cases hk : k < 1
  · rw [(Best.none (f := f) (n := n) (k := k) (.inl hk)).1, (Best.none (f := f) (n := n) (k := k) (.inl hk)).2]
    go_enter Tryz.func220, Tryz.ntmps220
    go_wp2_with fail
    go_ret2
    exact ⟨rfl, rfl⟩
  · have hk1 : 1 ≤ k := by omega
    have hR0 := Lib.hid (runInv_first (n := n) (f := f) hk1)
    go_enter Tryz.func220, Tryz.ntmps220
    go_wp2_with fail
    go_loopw [6, 7] (fun c i w' => ∃ q m : Nat, q ≤ n ∧ c = .int .i64 m ∧ i = .int .i64 ((q : Int) - 1) ∧ Hid (RunInv n f k q m) ∧ w' = w) (fun _ i _ => (intOf i + 1).toNat)
    case atStart => exact ⟨n, 0, Nat.le_refl _, rfl, rfl, hR0, rfl⟩
    case round =>
      clear hR0
      obtain ⟨q, m, hq, rfl, rfl, hR, rfl⟩ := hrel
      cases q with
      | zero =>
        rw [show ((0 : Nat) : Int) - 1 = -1 from rfl]
        go_wp2_with fail
        go_ret2
        exact ⟨by rw [(runInv_none hR.out).none.1, (runInv_none hR.out).none.2]; rfl, rfl⟩
      | succ q =>
        have hm1 : (m : Int) < k := hR.out.2.1
        have hm2 : q + 1 + m ≤ n := hR.out.1
        have c2 := HB.out q (by omega)
        have e0 : ((q + 1 : Nat) : Int) - 1 = (q : Int) := by omega
        rw [e0]
        cases hf : f q
        · rw [hf] at c2
          have HI := Lib.hid (runInv_off hR.out hf)
          clear hR hf
          go_wp2_with fail
          go_round
          case rel => exact ⟨q, 0, by omega, rfl, by go_num, HI, by first | rfl | trivial⟩
          case measure => first | (simp [intOf]; done) | (simp [intOf]; omega)
        · rw [hf] at c2
          by_cases hm : (m : Int) + 1 = k
          · have HI := Lib.hid (runInv_found hR.out hf hm)
            clear hR hf
            subst hm
            go_wp2_with fail
            go_ret2
            exact ⟨by rw [HI.out.some.1, HI.out.some.2]; rfl, rfl⟩
          · have HI := Lib.hid (runInv_on hR.out hf hm)
            have hmb : ((m : Int) + 1 == k) = false := by simpa using hm
            clear hR hf
            go_wp2_with fail
            go_round
            case rel => exact ⟨q, m + 1, by omega, by go_num, by go_num, HI, by first | rfl | trivial⟩
            case measure => first | (simp [intOf]; done) | (simp [intOf]; omega)
end
/-- A row of ints that the call has made, or nil. -/
def rowAt (v : Value) (xs : List Int) (S : Nat → Prop) (w : World) : Prop := w.ownsRow 0 3 1 v xs.length (xs.map (Value.int .i64)) ∧ ∀ k, S k ↔ v.ownBlock = some k
def RowT (v : Value) (xs : List Int) : Thing where
  at_ := rowAt v xs
  lt := fun ⟨h1, h2⟩ k hk => ownBlock_lt h1 ((h2 k).1 hk)
  kept := fun ⟨h1, h2⟩ hk _ => ⟨ownsRow_same h1 fun k hv => hk k ((h2 k).2 hv), h2⟩
theorem row_nil (w : World) : (RowT (.slice none 0 0) []).at_ (fun _ => False) w := ⟨⟨rfl, .inl ⟨rfl, rfl⟩⟩, fun k => ⟨False.elim, fun h => by simp [Value.ownBlock] at h⟩⟩
theorem St.nilRow {W w : World} {A : Thing} (h : St W A w) : St W (Sep A (RowT (.slice none 0 0) [])) w :=
  h.more ⟨_, row_nil w, fun k hk => hk.elim⟩ (Below.refl _ _)
theorem St.row {W w : World} {v : Value} {xs : List Int} (h : St W (RowT v xs) w) : w.ownsRow 0 3 1 v xs.length (xs.map (Value.int .i64)) := h.1.choose_spec.1.1
theorem row_push {v v' : Value} {xs : List Int} {x : Int} {S : Nat → Prop} {w w1 : World} (h : (RowT v xs).at_ S w)
    (ho : w1.ownsRow 0 3 1 v' (xs.length + 1) (xs.map (Value.int .i64) ++ [.int .i64 x])) (hg : (w.alloc (.cells #[.int .i64 x] 3)).grownBy w1 v.ownBlock)
    (hbk : v'.ownBlock = v.ownBlock ∨ v'.ownBlock = some (w.heap.size + 1)) : Goes (RowT v' (xs ++ [x])) S w w1 := by
  obtain ⟨h1, h2⟩ := h
  refine ⟨⟨fun k => v'.ownBlock = some k, ⟨?_, fun k => Iff.rfl⟩, fun k hk => ?_⟩, ((Turned.refl S w).alloc _).grown hg fun k hk => .inl ((h2 k).2 hk)⟩
  · simpa using ho
  · rcases hbk with e | e
    · exact .inl ((h2 k).2 (e ▸ hk))
    · rw [e] at hk; simp at hk; subst hk; exact .inr (by omega)
/-- What Low takes: the lowest ones below q, not more than K. -/
def lowL (f : Nat → Bool) (K : Nat) : Nat → List Int
  | 0 => []
  | q + 1 => if (f q && decide ((lowL f K q).length < K)) = true then lowL f K q ++ [(q : Int)] else lowL f K q
def lowF (f : Nat → Bool) (K : Nat) : Nat → Nat → Bool
  | 0 => f
  | q + 1 => if (f q && decide ((lowL f K q).length < K)) = true then setB (lowF f K q) q false else lowF f K q
/-- Rising. -/
def Rises (l : List Int) : Prop := ∀ i j : Nat, i < j → j < l.length → l[i]?.getD 0 < l[j]?.getD 0
/-- A run of m from a on, and what is free when it is taken. -/
def rnL (a : Nat) : Nat → List Int
  | 0 => []
  | m + 1 => rnL a m ++ [((a + m : Nat) : Int)]
def rnF (f : Nat → Bool) (a : Nat) : Nat → Nat → Bool
  | 0 => f
  | m + 1 => setB (rnF f a m) (a + m) false
/-- What Take takes. -/
def tkB (n : Nat) (f : Nat → Bool) (k : Int) : Bool := decide (1 ≤ k ∧ k ≤ pcnt n f)
noncomputable def tkL (n : Nat) (f : Nat → Bool) (k : Int) : List Int :=
  if 1 ≤ k ∧ k ≤ pcnt n f then (match runOf n f k with | some a => rnL a k.toNat | none => lowL f k.toNat n) else []
noncomputable def tkF (n : Nat) (f : Nat → Bool) (k : Int) : Nat → Bool :=
  if 1 ≤ k ∧ k ≤ pcnt n f then (match runOf n f k with | some a => rnF f a k.toNat | none => lowF f k.toNat n) else f
end Go.Proofs.YtnkgnhpapcnebaaGreat
