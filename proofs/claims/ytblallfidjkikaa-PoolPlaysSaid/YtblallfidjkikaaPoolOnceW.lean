/- The walk of PoolOnce. -/
import Derived.Test.YtblallfidjkikaaPool3
import Derived.Test.YtblallfidjkikaaArgs
import Derived.Deep.CutBlock
namespace Go.Proofs.Ytblallfidjkikaa
open Go.RowKit
set_option linter.unusedVariables false
set_option linter.unusedSimpArgs false

theorem sep_assoc {A B C : Thing} {U : Nat → Prop} {w : World} (h : (Sep (Sep A B) C).at_ U w) : (Sep A (Sep B C)).at_ U w := by
  obtain ⟨V, T, ⟨S, R, h1, h2, h3, h4, h5, h6⟩, g2, g3, g4, g5, g6⟩ := h
  exact ⟨S, fun k => R k ∨ T k, h1, ⟨R, T, h2, g2, fun k hr => g3 k (h5 k hr), fun k h => .inl h, fun k h => .inr h, fun k h => h⟩, fun k hs hk => hk.elim (h3 k hs) (g3 k (h4 k hs)), fun k hs => g4 k (h4 k hs), fun k hk => hk.elim (fun h => g4 k (h5 k h)) (g5 k),
    fun k hu => (g6 k hu).elim (fun hv => (h6 k hv).imp id .inl) fun ht => .inr (.inr ht)⟩
theorem sep_assoc' {A B C : Thing} {U : Nat → Prop} {w : World} (h : (Sep A (Sep B C)).at_ U w) : (Sep (Sep A B) C).at_ U w := by
  obtain ⟨S, V, h1, ⟨R, T, g1, g2, g3, g4, g5, g6⟩, h3, h4, h5, h6⟩ := h
  exact ⟨fun k => S k ∨ R k, T, ⟨S, R, h1, g1, fun k hs hr => h3 k hs (g4 k hr), fun k h => .inl h, fun k h => .inr h, fun k h => h⟩, g2, fun k hk ht => hk.elim (fun hs => h3 k hs (g5 k ht)) fun hr => g3 k hr ht, fun k hk => hk.elim (h4 k) fun hr => h5 k (g4 k hr), fun k ht => h5 k (g5 k ht),
    fun k hu => (h6 k hu).elim (fun hs => .inl (.inl hs)) fun hv => (g6 k hv).imp .inr id⟩
theorem St.assoc {W w : World} {A B C : Thing} (h : St W (Sep (Sep A B) C) w) : St W (Sep A (Sep B C)) w := h.conv fun _ _ => sep_assoc
theorem St.assoc' {W w : World} {A B C : Thing} (h : St W (Sep A (Sep B C)) w) : St W (Sep (Sep A B) C) w := h.conv fun _ _ => sep_assoc'
theorem opCell {W w : World} {bo : Nat} {kd n : Int} (h : St W (Var bo #[.int .i64 kd, .int .i64 n] 30) w) : w.cell? ⟨bo, 0, none⟩ = some (.int .i64 kd) ∧ w.cell? ⟨bo, 1, none⟩ = some (.int .i64 n) :=
  ⟨by rw [h.blk.cell]; rfl, by rw [h.blk.cell]; rfl⟩

/-- What has come, ahead of its being noted. -/
def Got (n : Nat) (f out : Nat → Bool) (xs : List Int) (A : Int) : Prop :=
  (∀ i, i < xs.length → ∃ j : Nat, xs[i]?.getD 0 = (j : Int) ∧ j < n ∧ f j = false) ∧ Rises xs ∧ (∀ j, j < n → out j = (!f j && decide ((j : Int) ∉ xs))) ∧ A + cnt n f + xs.length = n ∧ 0 ≤ A
theorem got_took {n : Nat} {f0 f out : Nat → Bool} {xs : List Int} {A : Int} (h : Took n f0 f xs) (ho : ∀ j, j < n → out j = !f0 j) (hA : A + cnt n f0 = n) : Got n f out xs A := by
  refine ⟨fun i hi => ?_, h.2.1, fun j hj => ?_, by have := h.2.2.2; omega, by have := cnt_le n f0; omega⟩
  · obtain ⟨j, h1, h2, _, h4⟩ := h.get hi; exact ⟨j, h1, h2, h4⟩
  · rw [ho j hj, h.2.2.1 j hj]
    by_cases e : (j : Int) ∈ xs
    · obtain ⟨i, h1, h2, h3⟩ := h.1 _ e
      have : j = i := by omega
      subst this
      simp [e, h3]
    · simp [e]
theorem got_give {n : Nat} {f out : Nat → Bool} {A i : Int} (ho : ∀ j, j < n → out j = !f j) (hA : A + cnt n f = n) :
    Got n (gF n f i) (if gB n f i = true then setB out i.toNat false else out) [] (if gB n f i = true then A - 1 else A) := by
  refine ⟨fun i hi => by simp at hi, fun i j h1 h2 => by simp at h2, fun j hj => ?_, ?_, ?_⟩
  · unfold gF; split
    · simp only [setB]; split
      · simp
      · rw [ho j hj]; simp
    · rw [ho j hj]; simp
  · unfold gF; split
    · rename_i h
      simp [gB] at h
      have h1 : i.toNat < n := by have := h.1.1; have := h.1.2; omega
      have := cnt_on (n := n) (f := f) h1 h.2
      simp; omega
    · simp; omega
  · split
    · rename_i h
      simp [gB] at h
      have h1 : i.toNat < n := by have := h.1.1; have := h.1.2; omega
      have := cnt_on (n := n) (f := f) h1 h.2
      have := cnt_le n (setB f i.toNat true)
      omega
    · have := cnt_le n f; omega
/-- The first c of what has come are noted. -/
def Mid (n : Nat) (f out : Nat → Bool) (xs : List Int) (c : Nat) : Prop := ∀ j, j < n → out j = (!f j && decide ((j : Int) ∉ xs.drop c))
theorem mid_step {n c j : Nat} {f out : Nat → Bool} {xs : List Int} (h : Mid n f out xs c) (hc : c < xs.length) (hr : Rises xs) (hx : xs[c]?.getD 0 = (j : Int)) (hf : f j = false) : Mid n f (setB out j true) xs (c + 1) := by
  have hd : xs.drop c = xs[c] :: xs.drop (c + 1) := List.drop_eq_getElem_cons hc
  have hxc : xs[c] = (j : Int) := by rw [List.getElem?_eq_getElem hc] at hx; exact hx
  have hn : (j : Int) ∉ xs.drop (c + 1) := by
    intro hm
    obtain ⟨i, hi, he⟩ := List.getElem_of_mem hm
    rw [List.getElem_drop] at he
    simp at hi
    have := hr c (c + 1 + i) (by omega) (by omega)
    rw [hx, List.getElem?_eq_getElem (by omega)] at this
    simp [he] at this
  intro i hi
  by_cases e : i = j
  · subst e; simp [setB, hf, hn]
  · rw [show setB out j true i = out i by simp [setB, e], h i hi, hd, hxc]
    have : ¬ ((i : Int) = (j : Int)) := by omega
    simp [this]
theorem mid_at {n c j : Nat} {f out : Nat → Bool} {xs : List Int} (h : Mid n f out xs c) (hc : c < xs.length) (hx : xs[c]?.getD 0 = (j : Int)) (hj : j < n) : out j = false := by
  rw [h j hj]
  have : (j : Int) ∈ xs.drop c := by
    have hxc : xs[c] = (j : Int) := by rw [List.getElem?_eq_getElem hc] at hx; exact hx
    rw [List.drop_eq_getElem_cons hc, hxc]; simp
  simp [this]
theorem mid_end {n : Nat} {f out : Nat → Bool} {xs : List Int} (h : Mid n f out xs xs.length) {j : Nat} (hj : j < n) : out j = !f j := by rw [h j hj]; simp

set_option maxRecDepth 100000 in
set_option maxHeartbeats 800000 in
theorem poolOnce_no (n : Int) (a1 : Option Addr) (len1 cap1 : Nat) (W : World) (hm : n < 0 ∨ 1024 < n) :
    Calls Try.prog 3 #[.int .i64 n, .slice a1 len1 cap1] W fun e w' => e = .returned (.bool true) ∧ Below W.heap.size W w' := by
  go_enter Try.func3, Try.ntmps3
  go_wp2_with fail
  with_reducible refine (pool_first _).mono ?_
  rintro e wa ⟨rfl, hb0⟩
  go_wp2_with fail
  with_reducible refine (pool_new_no n _ hm).mono ?_
  rintro e wb ⟨rfl, rfl⟩
  clear hm
  go_wp2_with fail
  with_reducible refine (pool_first _).mono ?_
  rintro e wa ⟨rfl, hb1⟩
  go_wp2_with fail
  go_ret
  exact ⟨rfl, hb0.trans (hb1.mono hb0.size)⟩
set_option maxRecDepth 100000 in
set_option maxHeartbeats 800000 in
theorem poolOnce_long (n : Int) (a1 : Option Addr) (len1 cap1 : Nat) (W : World) (h0 : 0 ≤ n) (h1 : n ≤ 1024) (hm : 300 < (len1 : Int)) :
    Calls Try.prog 3 #[.int .i64 n, .slice a1 len1 cap1] W fun e w' => e = .returned (.bool true) ∧ Below W.heap.size W w' := by
  go_enter Try.func3, Try.ntmps3
  go_wp2_with fail
  with_reducible refine (pool_first _).mono ?_
  rintro e wa ⟨rfl, hb0⟩
  go_wp2_with fail
  with_reducible refine (pool_newI n _ h0 h1).mono ?_
  rintro e wb ⟨b, g, rfl, hs⟩
  have hs := hs.onward hb0
  go_wp2_with fail
  with_reducible refine (pool_first _).mono ?_
  rintro e wa ⟨rfl, hb1⟩
  go_wp2_with fail
  go_ret
  exact ⟨rfl, (hs.later hb1).below⟩

def OnceAt (W : World) (b g n Q bo : Nat) (kd N : Int) (u v : Value) (w : World) : Prop := ∃ (f out : Nat → Bool) (xs : List Int) (A : Int), u = .int .i64 A ∧ Got n f out xs A ∧
  St W (Sep (Sep (Pool b g n f) (Sep (Bools Q n 4 out) (Var bo #[.int .i64 kd, .int .i64 N] 30))) (RowT v xs)) w

set_option maxRecDepth 100000 in
set_option maxHeartbeats 25600000 in
theorem poolOnce_walk (n : Nat) (a1 : Option Addr) (len1 cap1 : Nat) (W : World) (w1 : IsStructs [false, false] W a1 len1) (hn : (n : Int) ≤ 1024) (hlen : (len1 : Int) ≤ 300) :
    Calls Try.prog 3 #[.int .i64 n, .slice a1 len1 cap1] W fun e w' => e = .returned (.bool true) ∧ Below W.heap.size W w' := by
  have hmk := make_bools n (by omega)
  have hn4 : n ≤ 1024 := by omega
  go_enter Try.func3, Try.ntmps3
  go_wp2_with fail
  with_reducible refine (pool_first _).mono ?_
  rintro e wa ⟨rfl, hb0⟩
  go_wp2_with fail
  with_reducible refine (pool_new n _ (by omega)).mono ?_
  rintro e wb ⟨b, g, rfl, hs⟩
  have hs := hs.onward hb0
  clear hb0
  go_wp2_with fail
  clear hmk
  have h3 := hs.bools n 4
  generalize hV : wb.alloc _ = w3 at h3 ⊢
  generalize hQ : wb.heap.size = Q at h3 ⊢
  clear hs hV hQ
  go_loopw [8, 9] (fun u k w => ∃ (q : Nat) (f out : Nat → Bool) (A : Int), q ≤ len1 ∧ k = .int .i64 q ∧ u = .int .i64 A ∧ A + cnt n f = n ∧ Hid (∀ j, j < n → out j = !f j) ∧ St W (Sep (Pool b g n f) (Bools Q n 4 out)) w) (fun _ k _ => len1 - (intOf k).toNat)
  case atStart => exact ⟨0, full, _, 0, Nat.zero_le _, rfl, rfl, by rw [cnt_full]; omega, Lib.hid fun j _ => rfl, h3⟩
  case round =>
    clear h3
    obtain ⟨q, f, out, A, hq, rfl, rfl, hA, hO, hs⟩ := hrel
    have hcn := cnt_le n f
    by_cases hlt : q < len1
    · obtain ⟨ab, off, kd, N, rfl, hab, c0, c1⟩ := w1.two hlt
      have g0 := (hs.below.cell (p := ⟨ab, off + q * 2, none⟩) hab).trans c0
      have g1 := (hs.below.cell (p := ⟨ab, off + q * 2 + 1, none⟩) hab).trans c1
      have HA := Lib.hid hA
      generalize hct : cnt n f = ct at hA hcn
      have HC := Lib.hid hct
      clear hct
      go_upto_block 2 with fail
      clear g0 g1 c0 c1
      have h6 := (hs.var #[.int .i64 kd, .int .i64 N] 30).assoc
      generalize hV : wr.alloc (.cells #[.int .i64 kd, .int .i64 N] 30) = w6 at h6 ⊢
      generalize hBo : wr.heap.size = bo at h6 ⊢
      clear hs hV hBo
      obtain ⟨v0, v1⟩ := opCell h6.right.right
      go_cut [8, 11] (fun u v w => OnceAt W b g n Q bo kd N u v w)
      case first =>
        by_cases k0 : kd = 0
        · as_aux_lemma =>
          subst k0
          go_wp2_with fail
          with_reducible refine (pool_take N hn4 h6).mono ?_
          rintro e w7 ⟨v, rfl, h7⟩
          obtain ⟨a, c, rfl, hc1, hc2⟩ := slice_of_owns h7.right.row
          have v1 := (opCell h7.left.right.right).2
          have HG := Lib.hid (got_took (took_take n f N) hO.out HA.out)
          clear h6 v0
          by_cases hk : 1 ≤ N ∧ N ≤ ct
          · have hk' : 1 ≤ N ∧ N ≤ cnt n f := by rw [HC.out]; exact hk
            rw [show tkB n f N = true from decide_eq_true hk']
            have hl := tkL_len hk'
            obtain ⟨hk1, hk2⟩ := hk
            have hle : N ≤ n - A := by omega
            have hlb : (((tkL n f N).length : Int) != N) = false := by simp [hl]
            have H7 := Lib.hid h7
            clear h7 hk' hl
            generalize tkL n f N = xs at *
            go_wp2_with fail
            go_meet
            exact ⟨_, _, xs, A, rfl, HG.out, H7.out⟩
          · have hk' : ¬ (1 ≤ N ∧ N ≤ cnt n f) := by rw [HC.out]; exact hk
            rw [show tkB n f N = false from decide_eq_false hk']
            rw [tkL_nil hk'] at h7 HG
            have H7 := Lib.hid h7
            rw [show ([] : List Int).length = 0 from rfl] at *
            rw [tkL_nil hk'] at *
            rw [show ([] : List Int).length = 0 from rfl] at *
            clear h7 hk'
            by_cases hk1 : 1 ≤ N
            · have hgt : decide (N ≤ n - A) = false := by simp; omega
              clear hk
              go_wp2_with fail
              go_meet
              exact ⟨_, _, [], A, rfl, HG.out, H7.out⟩
            · have hgt : decide (1 ≤ N) = false := by simpa using hk1
              clear hk
              go_wp2_with fail
              go_meet
              exact ⟨_, _, [], A, rfl, HG.out, H7.out⟩
        have d0 : (kd == 0) = false := by simpa using k0
        by_cases k1 : kd = 1
        · as_aux_lemma =>
          subst k1
          clear k0 d0
          go_wp2_with fail
          with_reducible refine (pool_low N hn4 h6).mono ?_
          rintro e w7 ⟨v, rfl, h7⟩
          obtain ⟨a, c, rfl, hc1, hc2⟩ := slice_of_owns h7.right.row
          have v1 := (opCell h7.left.right.right).2
          have HG := Lib.hid (got_took (took_low n N.toNat f) hO.out HA.out)
          have hl := (lowL_len f N.toNat n).symm
          rw [HC.out] at hl
          have H7 := Lib.hid h7
          clear h6 v0 h7
          generalize lowL f N.toNat n = xs at *
          go_wp2_with fail
          all_goals
            go_meet
            exact ⟨_, _, xs, A, rfl, HG.out, H7.out⟩
        have d1 : (kd == 1) = false := by simpa using k1
        by_cases k2 : kd = 2
        · as_aux_lemma =>
          subst k2
          clear k0 d0 k1 d1
          by_cases hi : inN n N
          · obtain ⟨j, rfl⟩ : ∃ j : Nat, N = (j : Int) := ⟨N.toNat, by have := hi.1; omega⟩
            have hj : j < n := by have := hi.2; omega
            clear hi
            have c5 := h6.right.left.boolCell hj
            have HG := got_give (i := (j : Int)) hO.out HA.out
            have C1 := h6.call (sepL fun S h => pool_give (j : Int) hn4 h)
            rw [hO.out j hj] at c5
            cases hf : f j
            · rw [hf] at c5
              have hgb : gB n f (j : Int) = true := by rw [gB_in hj, hf]; rfl
              rw [hgb] at HG C1
              simp only [if_true] at HG
              have HG := Lib.hid HG
              have C1 := Lib.hid C1
              clear h6 hf hgb
              generalize gF n f (j : Int) = f2 at *
              go_wp2_with fail
              with_reducible refine C1.out.mono ?_
              rintro e w7 ⟨rfl, h7⟩
              have v1 := (opCell h7.right.right).2
              have c5 := h7.right.left.boolCell hj
              have f5 := h7.right.left.boolFree j
              have h8 := h7.goes (w' := w7.setCell ⟨Q, j, none⟩ (.bool false)) (goesR (goesL fun S h => bools_set h j false))
              have H8 := Lib.hid h8.nilRow
              clear h7 h8 C1
              go_wp2_with fail
              go_meet
              exact ⟨_, _, [], A - 1, rfl, HG.out, H8.out⟩
            · rw [hf] at c5
              have hgb : gB n f (j : Int) = false := by rw [gB_in hj, hf]; rfl
              rw [hgb] at HG C1
              simp only [Bool.false_eq_true, if_false] at HG
              have HG := Lib.hid HG
              have C1 := Lib.hid C1
              clear h6 hf hgb
              generalize gF n f (j : Int) = f2 at *
              go_wp2_with fail
              with_reducible refine C1.out.mono ?_
              rintro e w7 ⟨rfl, h7⟩
              have H8 := Lib.hid h7.nilRow
              clear h7 C1
              go_wp2_with fail
              go_meet
              exact ⟨_, _, [], A, rfl, HG.out, H8.out⟩
          · have HG := got_give (i := N) hO.out HA.out
            have C1 := h6.call (sepL fun S h => pool_give N hn4 h)
            have hgb : gB n f N = false := gB_out hi
            rw [hgb] at HG C1
            simp only [Bool.false_eq_true, if_false] at HG
            have HG := Lib.hid HG
            have C1 := Lib.hid C1
            unfold inN at hi
            clear h6 hgb
            generalize gF n f N = f2 at *
            by_cases h0 : 0 ≤ N
            · have hd : decide (N < (n : Int)) = false := by simp; omega
              clear hi
              go_wp2_with fail
              with_reducible refine C1.out.mono ?_
              rintro e w7 ⟨rfl, h7⟩
              have H8 := Lib.hid h7.nilRow
              clear h7 C1
              go_wp2_with fail
              go_meet
              exact ⟨_, _, [], A, rfl, HG.out, H8.out⟩
            · have hd : decide (0 ≤ N) = false := by simpa using h0
              clear hi
              go_wp2_with fail
              with_reducible refine C1.out.mono ?_
              rintro e w7 ⟨rfl, h7⟩
              have H8 := Lib.hid h7.nilRow
              clear h7 C1
              go_wp2_with fail
              go_meet
              exact ⟨_, _, [], A, rfl, HG.out, H8.out⟩
        have d2 : (kd == 2) = false := by simpa using k2
        clear k0 k1 k2
        have H6 := Lib.hid h6.nilRow
        have HG := Lib.hid (got_took (took_nil n f) hO.out HA.out)
        clear h6
        go_wp2_with fail
        go_meet
        exact ⟨_, _, [], A, rfl, HG.out, H6.out⟩
      case rest =>
        clear h6 v0 v1 hO HA HC hA hcn
        obtain ⟨f, out, xs, A, rfl, hG, h9⟩ := hcut
        obtain ⟨G1, G2, G3, G4, G5⟩ := hG
        obtain ⟨a, cp, rfl, hc1, hc2⟩ := slice_of_owns h9.right.row
        have hcn := cnt_le n f
        have HG1 := Lib.hid G1
        have HG2 := Lib.hid G2
        have HM := Lib.hid (show Mid n f out xs 0 from G3)
        clear G1 G2 G3
        generalize hct : cnt n f = ct at G4 hcn
        have HC := Lib.hid hct
        clear hct
        generalize hL : xs.length = L at *
        have HL := Lib.hid hL
        clear hL
        go_wp2_with fail
        go_loopw [8, 14] (fun u k w => ∃ (c : Nat) (out : Nat → Bool), c ≤ L ∧ k = .int .i64 c ∧ u = .int .i64 (A + c) ∧ Hid (Mid n f out xs c) ∧ St W (Sep (Sep (Pool b g n f) (Sep (Bools Q n 4 out) (Var bo #[.int .i64 kd, .int .i64 N] 30))) (RowT (.slice a L cp) xs)) w) (fun _ k _ => L - (intOf k).toNat)
        case atStart => exact ⟨0, out, Nat.zero_le _, rfl, by simp, HM, h9⟩
        case round =>
          clear h9 HM
          obtain ⟨c, out, hc, rfl, rfl, hM, hs⟩ := hrel
          by_cases hlc : c < L
          · as_aux_lemma =>
            have hlx : c < xs.length := by rw [HL.out]; exact hlc
            obtain ⟨j, hx, hj, hfj⟩ := HG1.out c hlc
            obtain ⟨br, rfl, e1⟩ := row_cell hs.right.row rfl hlx
            rw [hx] at e1
            have c5 := hs.left.right.left.boolCell hj
            rw [mid_at hM.out hlx hx hj] at c5
            have HM2 := Lib.hid (mid_step hM.out hlx HG2.out hx hfj)
            have HS := Lib.hid hs
            have hj1 : decide ((j : Int) < 0) = false := by simp
            have hj2 : decide (n ≤ j) = false := by simp; omega
            have hjn : (j : Int) < n := by omega
            clear hM hfj
            by_cases hc0 : c = 0
            · subst hc0
              clear hs hx hlx
              go_wp2_with fail
              go_quiet (fail)
              have h10 := HS.out.drewN nq
              have f5 := h10.left.right.left.boolFree j
              have h11 := h10.goes (w' := (wr.drewN nq).setCell ⟨Q, j, none⟩ (.bool true)) (goesL (goesR (goesL fun S h => bools_set h j true)))
              have H11 := Lib.hid h11
              clear h10 h11 HS
              go_wp2_with fail
              go_round
              case rel => exact ⟨1, _, by omega, by go_num, by go_num, HM2, H11.out⟩
              case measure => simp [intOf]; omega
            · obtain ⟨i, hx2, hi, hfi⟩ := HG1.out (c - 1) (by omega)
              obtain ⟨br2, hbr, e2⟩ := row_cell hs.right.row rfl (show c - 1 < xs.length by omega)
              obtain rfl : br = br2 := by simpa using hbr
              rw [hx2] at e2
              have hij : i < j := by have := HG2.out (c - 1) c (by omega) hlx; rw [hx, hx2] at this; omega
              have hdj : decide (j ≤ i) = false := by simp; omega
              obtain ⟨p, hp⟩ : ∃ p, p = c - 1 := ⟨_, rfl⟩
              rw [← hp] at e2
              have hcp : (c : Int) - 1 = (p : Int) := by omega
              have hw : IntKind.i64.wrap (p : Int) = p := IntWalk.i64_in _ (by omega)
              have hpL : (p : Int) < L := by omega
              have hcL : (c : Int) < L := by omega
              have hc1 : 0 < c := by omega
              have HP := Lib.hid hp
              clear hs hx hx2 hbr hfi hlx hij hp hc0
              go_wp2_with fail
              go_quiet (fail)
              have h10 := HS.out.drewN nq
              have f5 := h10.left.right.left.boolFree j
              have h11 := h10.goes (w' := (wr.drewN nq).setCell ⟨Q, j, none⟩ (.bool true)) (goesL (goesR (goesL fun S h => bools_set h j true)))
              have H11 := Lib.hid h11
              clear h10 h11 HS
              go_wp2_with fail
              go_round
              case rel => exact ⟨c + 1, _, by omega, by go_num, by go_num, HM2, H11.out⟩
              case measure => simp [intOf]; omega
          · as_aux_lemma =>
            obtain rfl : c = L := by omega
            have C1 := hs.left.look (lookL fun S h => pool_free h)
            rw [HC.out] at C1
            have C1 := Lib.hid C1
            have H9 := Lib.hid hs.left.assoc'.left
            have HM := Lib.hid fun j hj => mid_end (by rw [HL.out]; exact hM.out) (j := j) hj
            have hne : ((ct : Int) != n - (A + c)) = false := by simp; omega
            clear hs hM
            go_wp2_with fail
            with_reducible refine C1.out.mono ?_
            rintro e w10 ⟨rfl, rfl⟩
            clear C1
            go_wp2_with fail
            go_round
            case rel => exact ⟨q + 1, f, out, A + c, by omega, by go_num, rfl, by rw [HC.out]; omega, HM, H9.out⟩
            case measure => simp [intOf]; omega
    · obtain rfl : q = len1 := by omega
      go_wp2_with fail
      with_reducible refine (pool_first _).mono ?_
      rintro e w7 ⟨rfl, hb7⟩
      go_wp2_with fail
      go_ret
      exact ⟨rfl, (hs.later hb7).below⟩
theorem poolOnce_all (n : Int) (a1 : Option Addr) (len1 cap1 : Nat) (W : World) (w1 : IsStructs [false, false] W a1 len1) :
    Calls Try.prog 3 #[.int .i64 n, .slice a1 len1 cap1] W fun e w' => e = .returned (.bool true) ∧ Below W.heap.size W w' := by
  by_cases hm : n < 0 ∨ 1024 < n
  · exact poolOnce_no n a1 len1 cap1 W hm
  by_cases hlen : (300 : Int) < len1
  · exact poolOnce_long n a1 len1 cap1 W (by omega) (by omega) hlen
  obtain ⟨k, rfl⟩ : ∃ k : Nat, n = (k : Int) := ⟨n.toNat, by omega⟩
  exact poolOnce_walk k a1 len1 cap1 W w1 (by omega) (by omega)
end Go.Proofs.Ytblallfidjkikaa
