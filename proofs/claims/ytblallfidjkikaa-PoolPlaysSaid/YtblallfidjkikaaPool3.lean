/- Comparing rows; what chapter 8's laws open with. -/
import Derived.Test.YtblallfidjkikaaPool2
namespace Go.Proofs.Ytblallfidjkikaa
open Go.RowKit
set_option linter.unusedVariables false
set_option linter.unusedSimpArgs false

/-- A slice value that holds these ints. -/
def IsInts (w : World) (v : Value) (xs : List Int) : Prop := ∃ a cap, v = .slice a xs.length cap ∧ xs.length ≤ cap ∧ cap ≤ maxLen ∧ ∀ j, j < xs.length → ∃ b, a = some ⟨b, 0, none⟩ ∧ w.cell? ⟨b, j, none⟩ = some (.int .i64 (xs[j]?.getD 0))
theorem isInts_row {w : World} {v : Value} {xs : List Int} (h : w.ownsRow 0 3 1 v xs.length (xs.map (Value.int .i64))) : IsInts w v xs := by
  obtain ⟨a, c, hv, h1, h2⟩ := slice_of_owns h
  exact ⟨a, c, hv, h1, h2, fun j hj => row_cell h hv hj⟩
theorem list_eq {xs ys : List Int} (hl : xs.length = ys.length) (h : ∀ j, j < xs.length → xs[j]?.getD 0 = ys[j]?.getD 0) : xs = ys := by
  apply List.ext_getElem hl
  intro i h1 h2
  have := h i h1
  rwa [List.getElem?_eq_getElem h1, List.getElem?_eq_getElem h2] at this
set_option maxHeartbeats 1600000 in
theorem ints_eq {w : World} {v u : Value} {xs ys : List Int} (h1 : IsInts w v xs) (h2 : IsInts w u ys) (hs : xs.length ≤ 1000000) :
    Calls Try.prog 15 #[v, u] w fun e w' => e = .returned (.bool (decide (xs = ys))) ∧ ∃ m, w' = w.drewN m := by
  obtain ⟨a1, c1, rfl, hc1, hm1, hx⟩ := h1
  obtain ⟨a2, c2, rfl, hc2, hm2, hy⟩ := h2
  unfold maxLen at hm1 hm2
  by_cases hl : xs.length = ys.length
  · have HX := Lib.hid hx
    have HY := Lib.hid hy
    rw [← hl] at hc2 ⊢
    have HL := Lib.hid hl
    clear hx hy hl
    generalize hN : xs.length = N at HX HL hs hc1 hc2 ⊢
    have HN := Lib.hid hN
    clear hN
    go_enter Try.func15, Try.ntmps15
    go_wp2_with fail
    go_loopw [5] (fun k w' => ∃ q m : Nat, q ≤ N ∧ k = .int .i64 q ∧ Hid (∀ j, j < q → xs[j]?.getD 0 = ys[j]?.getD 0) ∧ w' = w.drewN m) (fun k _ => N - (intOf k).toNat)
    case atStart => exact ⟨0, 0, Nat.zero_le _, rfl, Lib.hid fun j hj => by omega, rfl⟩
    case round =>
      obtain ⟨q, m, hq, rfl, hH, rfl⟩ := hrel
      by_cases hlt : q < N
      · obtain ⟨b1, rfl, e1⟩ := HX.out q hlt
        obtain ⟨b2, rfl, e2⟩ := HY.out q (by have := HL.out; omega)
        by_cases hxy : xs[q]?.getD 0 = ys[q]?.getD 0
        · have H2 := Lib.hid (show ∀ j, j < q + 1 → xs[j]?.getD 0 = ys[j]?.getD 0 from fun j hj => by
            by_cases e : j = q
            · rw [e]; exact hxy
            · exact hH.out j (by omega))
          rw [← hxy] at e2
          clear hxy hH
          generalize xs[q]?.getD 0 = x at e1 e2
          go_wp2_with fail
          go_quiet (fail)
          go_wp2_with fail
          go_round
          case rel => exact ⟨q + 1, m + nq, by omega, by go_num, H2, by first | rfl | trivial | simp⟩
          case measure => simp [intOf]; omega
        · have hne := Lib.hid (show xs ≠ ys from fun e => hxy (by rw [e]))
          clear hH
          generalize xs[q]?.getD 0 = x at e1 hxy
          generalize ys[q]?.getD 0 = y at e2 hxy
          have hxb : (x == y) = false := by simpa using hxy
          go_wp2_with fail
          go_quiet (fail)
          go_wp2_with fail
          go_ret
          exact ⟨by rw [decide_eq_false hne.out]; rfl, m + nq, by simp⟩
      · obtain rfl : q = N := by omega
        have hee := Lib.hid (list_eq (HN.out.trans HL.out) fun j hj => hH.out j (by have := HN.out; omega))
        go_wp2_with fail
        go_ret
        exact ⟨by rw [decide_eq_true hee.out]; rfl, m, rfl⟩
  · have hne : xs ≠ ys := fun e => hl (by rw [e])
    rw [decide_eq_false hne]
    clear hx hy hne
    go_enter Try.func15, Try.ntmps15
    go_wp2_with fail
    go_ret
    exact ⟨rfl, 0, rfl⟩

theorem best5 : Best 5 full 2 (some 3) := ⟨by omega, by decide, fun _ _ => rfl, fun b h1 h2 => by have : (2 : Int).toNat = 2 := rfl; omega⟩
theorem tk5 : tkB 5 full 2 = true ∧ tkL 5 full 2 = [3, 4] ∧ cnt 5 (tkF 5 full 2) = 3 := by
  have hc : (1 : Int) ≤ 2 ∧ (2 : Int) ≤ cnt 5 full := by rw [cnt_full]; omega
  refine ⟨decide_eq_true hc, ?_, ?_⟩
  · unfold tkL; rw [if_pos hc, best5.is]; rfl
  · unfold tkF; rw [if_pos hc, best5.is]
    have := rnF_cnt (n := 5) (a := 3) (m := 2) (f := full) (by omega) (fun _ _ => rfl)
    rw [cnt_full] at this
    show cnt 5 (rnF full 3 2) = 3
    omega
theorem isInts_two (w : World) (x y : Int) (t : TypeId) : IsInts (w.alloc (.cells #[.int .i64 x, .int .i64 y] t)) (.slice (some ⟨w.heap.size, 0, none⟩) 2 2) [x, y] := by
  refine ⟨_, 2, rfl, Nat.le_refl _, by decide, fun j hj => ⟨w.heap.size, rfl, ?_⟩⟩
  rw [(Blk.new w #[.int .i64 x, .int .i64 y] t).cell]
  match j, hj with
  | 0, _ => rfl
  | 1, _ => rfl
set_option maxHeartbeats 1600000 in
theorem pool_first (W : World) :
    Calls Try.prog 7 #[] W fun e w' => e = .returned (.bool true) ∧ Below W.heap.size W w' := by
  go_enter Try.func7, Try.ntmps7
  go_wp2_with fail
  with_reducible refine (pool_newI 5 _ (by omega) (by omega)).mono ?_
  rintro e w1 ⟨b, g, rfl, h1⟩
  rw [show Int.toNat 5 = 5 from rfl] at h1
  go_wp2_with fail
  with_reducible refine (pool_take 2 (by omega) h1.nilRow).mono ?_
  rintro e w2 ⟨v, rfl, h2⟩
  rw [tk5.1]
  rw [tk5.2.1] at h2
  obtain ⟨a, c, hv, hc1, hc2⟩ := slice_of_owns h2.right.row
  subst hv
  clear h1
  go_wp2_with fail
  have h3 := h2.later ((Below.refl _ _).alloc (Nat.le_refl _) (.cells #[.int .i64 3, .int .i64 4] 3))
  refine (ints_eq (isInts_row h3.right.row) (isInts_two _ 3 4 _) (by decide)).mono ?_
  rintro e w3 ⟨rfl, m, rfl⟩
  rw [decide_eq_true rfl]
  have h4 := h3.drewN m
  clear h2 h3
  go_wp2_with fail
  with_reducible refine (h4.look (lookL (lookL fun S h => pool_free h))).mono ?_
  rintro e w5 ⟨rfl, rfl⟩
  rw [tk5.2.2]
  go_wp2_with fail
  go_ret
  exact ⟨rfl, h4.below⟩

/-- What was taken: it was free, rises, is free no more. -/
def Took (n : Nat) (f0 f : Nat → Bool) (xs : List Int) : Prop :=
  (∀ x ∈ xs, ∃ j : Nat, x = j ∧ j < n ∧ f0 j = true) ∧ Rises xs ∧ (∀ j, j < n → f j = (f0 j && decide ((j : Int) ∉ xs))) ∧ cnt n f + xs.length = cnt n f0
theorem took_nil (n : Nat) (f : Nat → Bool) : Took n f f [] := ⟨fun x hx => by simp at hx, fun i j h1 h2 => by simp at h2, fun j _ => by simp, rfl⟩
theorem took_low (n K : Nat) (f : Nat → Bool) : Took n f (lowF f K n) (lowL f K n) := ⟨fun x hx => lowL_mem hx, lowL_rises f K n, fun j _ => lowF_is f K n j, lowF_cnt (Nat.le_refl _)⟩
theorem rnL_mem {a m : Nat} {x : Int} : x ∈ rnL a m ↔ ∃ j : Nat, x = j ∧ a ≤ j ∧ j < a + m := by
  induction m with
  | zero =>
    simp only [rnL, List.not_mem_nil, false_iff]
    rintro ⟨j, h1, h2, h3⟩; omega
  | succ m ih =>
    simp only [rnL, List.mem_append, List.mem_singleton, ih]
    constructor
    · rintro (⟨j, h1, h2, h3⟩ | h)
      · exact ⟨j, h1, h2, by omega⟩
      · exact ⟨a + m, h, by omega, by omega⟩
    · rintro ⟨j, h1, h2, h3⟩
      by_cases e : j = a + m
      · exact .inr (by rw [h1, e])
      · exact .inl ⟨j, h1, h2, by omega⟩
theorem took_run {n a m : Nat} {f : Nat → Bool} (hn : a + m ≤ n) (hr : ∀ j, j < m → f (a + j) = true) : Took n f (rnF f a m) (rnL a m) := by
  refine ⟨fun x hx => ?_, fun i j h1 h2 => ?_, fun j _ => ?_, by rw [rnL_len]; exact rnF_cnt hn hr⟩
  · obtain ⟨j, h1, h2, h3⟩ := rnL_mem.1 hx
    refine ⟨j, h1, by omega, ?_⟩
    have := hr (j - a) (by omega)
    rwa [show a + (j - a) = j by omega] at this
  · rw [rnL_len] at h2
    rw [rnL_get a m (by omega), rnL_get a m h2]; omega
  · rw [rnF_is]
    have : (j : Int) ∈ rnL a m ↔ (a ≤ j ∧ j < a + m) := by
      rw [rnL_mem]
      constructor
      · rintro ⟨i, h1, h2, h3⟩; have : j = i := by omega
        subst this; exact ⟨h2, h3⟩
      · rintro ⟨h1, h2⟩; exact ⟨j, rfl, h1, h2⟩
    by_cases e : (j : Int) ∈ rnL a m
    · simp [e, this.1 e]
    · have e2 : ¬ (a ≤ j ∧ j < a + m) := fun h => e (this.2 h)
      simp [e, e2]
theorem took_take (n : Nat) (f : Nat → Bool) (k : Int) : Took n f (tkF n f k) (tkL n f k) := by
  unfold tkF tkL
  by_cases h : 1 ≤ k ∧ k ≤ cnt n f
  · rw [if_pos h, if_pos h]
    cases hr : runOf n f k with
    | none => exact took_low n k.toNat f
    | some a => exact took_run (best_some hr).2.1 (best_some hr).2.2.1
  · rw [if_neg h, if_neg h]; exact took_nil n f
theorem tkL_len {n : Nat} {f : Nat → Bool} {k : Int} (h : 1 ≤ k ∧ k ≤ cnt n f) : ((tkL n f k).length : Int) = k := by
  unfold tkL; rw [if_pos h]
  cases runOf n f k with
  | none => simp only [lowL_len]; omega
  | some a => simp only [rnL_len]; omega
theorem tkL_nil {n : Nat} {f : Nat → Bool} {k : Int} (h : ¬ (1 ≤ k ∧ k ≤ cnt n f)) : tkL n f k = [] := by unfold tkL; rw [if_neg h]
theorem Took.get {n : Nat} {f0 f : Nat → Bool} {xs : List Int} (h : Took n f0 f xs) {i : Nat} (hi : i < xs.length) : ∃ j : Nat, xs[i]?.getD 0 = (j : Int) ∧ j < n ∧ f0 j = true ∧ f j = false := by
  have hm : xs[i]?.getD 0 ∈ xs := by rw [List.getElem?_eq_getElem hi]; simp
  obtain ⟨j, h1, h2, h3⟩ := h.1 _ hm
  refine ⟨j, h1, h2, h3, ?_⟩
  rw [h.2.2.1 j h2, h3, ← h1]; simp [hm]
end Go.Proofs.Ytblallfidjkikaa
