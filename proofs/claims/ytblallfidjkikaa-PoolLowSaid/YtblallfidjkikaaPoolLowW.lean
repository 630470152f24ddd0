/- The walk of PoolLow. -/
import Derived.Test.YtblallfidjkikaaPool3
import Derived.Test.YtblallfidjkikaaArgs
namespace Go.Proofs.Ytblallfidjkikaa
open Go.RowKit
set_option linter.unusedVariables false
set_option linter.unusedSimpArgs false

theorem low_full (K q : Nat) : lowL full K q = rnL 0 (min K q) ∧ lowF full K q = rnF full 0 (min K q) := by
  induction q with
  | zero => simp [lowL, lowF, rnL, rnF]
  | succ q ih =>
    have hlen : (lowL full K q).length = min K q := by rw [ih.1, rnL_len]
    by_cases h : q < K
    · have e1 : min K q = q := by omega
      have e2 : min K (q + 1) = q + 1 := by omega
      have hc : (full q && decide ((lowL full K q).length < K)) = true := by rw [hlen]; simp [full]; omega
      constructor
      · simp only [lowL, if_pos hc, e2, rnL, Nat.zero_add]; rw [ih.1, e1]
      · simp only [lowF, if_pos hc, e2, rnF, Nat.zero_add]; rw [ih.2, e1]
    · have e1 : min K (q + 1) = min K q := by omega
      have hc : ¬ (full q && decide ((lowL full K q).length < K)) = true := by rw [hlen]; simp [full]; omega
      constructor
      · simp only [lowL, if_neg hc, e1]; exact ih.1
      · simp only [lowF, if_neg hc, e1]; exact ih.2
theorem best_all {n : Nat} {f : Nat → Bool} (h1 : 1 ≤ n) (hf : ∀ j, j < n → f j = true) : Best n f n (some 0) := by
  have e : (n : Int).toNat = n := rfl
  refine ⟨by omega, by omega, fun j hj => by rw [Nat.zero_add]; exact hf j (by omega), fun b hb hn => by omega⟩

set_option maxRecDepth 100000 in
set_option maxHeartbeats 800000 in
theorem poolLow_no (n k : Int) (a2 : Option Addr) (len2 cap2 : Nat) (W : World) (hm : n < 0 ∨ 1024 < n) :
    Calls Try.prog 6 #[.int .i64 n, .int .i64 k, .slice a2 len2 cap2] W fun e w' => e = .returned (.bool true) ∧ Below W.heap.size W w' := by
  go_enter Try.func6, Try.ntmps6
  go_wp2_with fail
  with_reducible refine (pool_first _).mono ?_
  rintro e wa ⟨rfl, hb0⟩
  go_wp2_with fail
  with_reducible refine (pool_new_no n _ hm).mono ?_
  rintro e wb ⟨rfl, rfl⟩
  clear hm
  go_wp2_with fail
  with_reducible refine (pool_first _).mono ?_
  rintro e wa ⟨rfl, hb1⟩
  go_wp2_with fail
  go_ret
  exact ⟨rfl, hb0.trans (hb1.mono hb0.size)⟩
set_option maxRecDepth 100000 in
set_option maxHeartbeats 1600000 in
theorem poolLow_out (n k : Int) (a2 : Option Addr) (len2 cap2 : Nat) (W : World) (h0 : 0 ≤ n) (h1 : n ≤ 1024) (hm : n < 1 ∨ 200 < n ∨ 500 < (len2 : Int)) :
    Calls Try.prog 6 #[.int .i64 n, .int .i64 k, .slice a2 len2 cap2] W fun e w' => e = .returned (.bool true) ∧ Below W.heap.size W w' := by
  go_enter Try.func6, Try.ntmps6
  go_wp2_with fail
  with_reducible refine (pool_first _).mono ?_
  rintro e wa ⟨rfl, hb0⟩
  go_wp2_with fail
  with_reducible refine (pool_newI n _ h0 h1).mono ?_
  rintro e wb ⟨b, g, rfl, hs⟩
  have hs := hs.onward hb0
  go_wp2_with fail
  all_goals
    with_reducible refine (pool_first _).mono ?_
    rintro e wa ⟨rfl, hb1⟩
    go_wp2_with fail
    go_ret
    exact ⟨rfl, (hs.later hb1).below⟩

set_option maxRecDepth 100000 in
set_option maxHeartbeats 25600000 in
theorem poolLow_walk (n : Nat) (k : Int) (a2 : Option Addr) (len2 cap2 : Nat) (z2 : List Int) (W : World) (w2 : IsRow .i64 W a2 len2 cap2 z2) (h1 : 1 ≤ (n : Int)) (h2 : (n : Int) ≤ 200) (h3 : (len2 : Int) ≤ 500) :
    Calls Try.prog 6 #[.int .i64 n, .int .i64 k, .slice a2 len2 cap2] W fun e w' => e = .returned (.bool true) ∧ Below W.heap.size W w' := by
  have hn4 : n ≤ 1024 := by omega
  go_enter Try.func6, Try.ntmps6
  go_wp2_with fail
  with_reducible refine (pool_first _).mono ?_
  rintro e wa ⟨rfl, hb0⟩
  go_wp2_with fail
  with_reducible refine (pool_new n _ (by omega)).mono ?_
  rintro e wb ⟨b, g, rfl, hs⟩
  have hs := hs.onward hb0
  clear hb0
  go_wp2_with fail
  with_reducible refine (pool_low k hn4 hs.nilRow).mono ?_
  rintro e w3 ⟨v, rfl, h4⟩
  rw [(low_full k.toNat n).1, (low_full k.toNat n).2] at h4
  obtain ⟨L, hL⟩ : ∃ L, L = min k.toNat n := ⟨_, rfl⟩
  rw [← hL] at h4
  obtain ⟨a, cp, rfl, hc1, hc2⟩ := slice_of_owns h4.right.row
  have hLn : L ≤ n := by omega
  have hct : cnt n (rnF full 0 L) + L = n := by
    have := rnF_cnt (n := n) (a := 0) (m := L) (f := full) (by omega) (fun _ _ => rfl)
    rw [cnt_full] at this; exact this
  have hF := Lib.hid (show ∀ j, L ≤ j → j < n → rnF full 0 L j = true from fun j h1 h2 => by rw [rnF_is]; simp [full]; omega)
  have hF0 := Lib.hid (show ∀ j, j < L → rnF full 0 L j = false from fun j h1 => by rw [rnF_is]; simp [full]; omega)
  have hxs := Lib.hid (show ∀ j, j < L → (rnL 0 L)[j]?.getD 0 = (j : Int) from fun j hj => by rw [rnL_get 0 L hj]; simp)
  have hlx := Lib.hid (rnL_len 0 L)
  rw [hlx.out] at hc1 h4
  rw [hlx.out]
  generalize rnL 0 L = xs at *
  generalize hfe : rnF full 0 L = f at *
  clear hs hfe
  have hle := Lib.hid hL
  have hLb : ((L : Int) != max 0 (min k n)) = false := by simp; omega
  have HCT := Lib.hid hct
  clear hct hL
  go_wp2_with fail
  all_goals clear hLb
  all_goals as_aux_lemma =>
    go_loopw [10] (fun i w => ∃ c : Nat, c ≤ L ∧ i = .int .i64 c ∧ w = w3) (fun i _ => L - (intOf i).toNat)
    case atStart => exact ⟨0, Nat.zero_le _, rfl, rfl⟩
    case round =>
      obtain ⟨c, hc, rfl, rfl⟩ := hrel
      by_cases hlc : c < L
      · obtain ⟨br, rfl, e1⟩ := row_cell h4.right.row rfl (show c < xs.length by rw [hlx.out]; exact hlc)
        rw [hxs.out c hlc] at e1
        have C1 := h4.look (lookL (lookL fun S h => pool_has (c : Int) hn4 h))
        rw [pH_in (show c < n by omega), hF0.out c hlc] at C1
        have C1 := Lib.hid C1
        have H4 := Lib.hid h4
        clear h4
        go_wp2_with fail
        with_reducible refine C1.out.mono ?_
        rintro e w7 ⟨rfl, rfl⟩
        clear C1
        go_wp2_with fail
        go_round
        case rel => exact ⟨c + 1, by omega, by go_num, by first | rfl | trivial⟩
        case measure => first | (simp [intOf]; done) | (simp [intOf]; omega)
      · obtain rfl : c = L := by omega
        go_wp2_with fail
        go_loopw [11, 12] (fun u i w => ∃ (q : Nat) (f : Nat → Bool) (B : Int), q ≤ len2 ∧ i = .int .i64 q ∧ u = .int .i64 B ∧ 0 ≤ B ∧ B ≤ q ∧ Hid (B + n = cnt n f + c) ∧ Hid (∀ j, c ≤ j → j < n → f j = true) ∧ St W (Sep (Sep (Pool b g n f) (RowT (.slice none 0 0) [])) (RowT (.slice a c cp) xs)) w) (fun _ i _ => len2 - (intOf i).toNat)
        case atStart => exact ⟨0, f, 0, Nat.zero_le _, rfl, rfl, by omega, by omega, Lib.hid (by have := HCT.out; omega), hF, h4⟩
        case round =>
          clear h4 HCT hF hF0
          obtain ⟨q, f, B, hq, rfl, rfl, hB0, hB1, hB, hF, hs⟩ := hrel
          by_cases hlt : q < len2
          · obtain ⟨ab, off, x, rfl, hab, hx, hc0⟩ := w2.at_ hlt
            clear hx
            have hcl := (hs.below.cell (p := ⟨ab, off + q, none⟩) hab).trans hc0
            clear hc0
            by_cases hin : inN c x
            · obtain ⟨j, rfl⟩ : ∃ j : Nat, x = (j : Int) := ⟨x.toNat, by have := hin.1; omega⟩
              have hj : j < c := by have := hin.2; omega
              have hjn : j < n := by omega
              clear hin
              have C1 := hs.look (lookL (lookL fun S h => pool_has (j : Int) hn4 h))
              have C2 := hs.call (sepL (sepL fun S h => pool_give (j : Int) hn4 h))
              rw [pH_in hjn] at C1
              cases hf : f j
              · have hgb : gB n f (j : Int) = true := by rw [gB_in hjn, hf]; rfl
                have hgf : gF n f (j : Int) = setB f j true := by unfold gF; rw [if_pos hgb]; rfl
                rw [hf] at C1
                rw [hgb, hgf] at C2
                have HB2 := Lib.hid (show (B + 1) + n = cnt n (setB f j true) + c by have := cnt_on hjn hf; have := hB.out; omega)
                have HF2 := Lib.hid (show ∀ i, c ≤ i → i < n → setB f j true i = true from fun i h1 h2 => by simp only [setB]; split; rfl; exact hF.out i h1 h2)
                have C1 := Lib.hid C1
                have C2 := Lib.hid C2
                clear hs hB hF hf hgb hgf
                generalize setB f j true = f2 at *
                go_wp2_with fail
                with_reducible refine C1.out.mono ?_
                rintro e w7 ⟨rfl, rfl⟩
                clear C1
                go_wp2_with fail
                with_reducible refine C2.out.mono ?_
                rintro e w8 ⟨rfl, h8⟩
                clear C2
                go_wp2_with fail
                go_round
                case rel => exact ⟨q + 1, f2, B + 1, by omega, by go_num, by go_num, by omega, by omega, HB2, HF2, h8⟩
                case measure => simp [intOf]; omega
              · have hgb : gB n f (j : Int) = false := by rw [gB_in hjn, hf]; rfl
                have hgf : gF n f (j : Int) = f := by unfold gF; rw [hgb]; rfl
                rw [hf] at C1
                rw [hgb, hgf] at C2
                have C1 := Lib.hid C1
                have C2 := Lib.hid C2
                clear hs hf hgb hgf
                go_wp2_with fail
                with_reducible refine C1.out.mono ?_
                rintro e w7 ⟨rfl, rfl⟩
                clear C1
                go_wp2_with fail
                with_reducible refine C2.out.mono ?_
                rintro e w8 ⟨rfl, h8⟩
                clear C2
                go_wp2_with fail
                go_round
                case rel => exact ⟨q + 1, f, B, by omega, by go_num, rfl, by omega, by omega, hB, hF, h8⟩
                case measure => simp [intOf]; omega
            · have hgb : gB n f x = false := by
                by_cases hi : inN n x
                · obtain ⟨j, rfl⟩ : ∃ j : Nat, x = (j : Int) := ⟨x.toNat, by have := hi.1; omega⟩
                  have hjn : j < n := by have := hi.2; omega
                  rw [gB_in hjn, hF.out j (by unfold inN at hin; omega) hjn]; rfl
                · exact gB_out hi
              have hgf : gF n f x = f := by unfold gF; rw [hgb]; rfl
              have C2 := hs.call (sepL (sepL fun S h => pool_give x hn4 h))
              rw [hgb, hgf] at C2
              have C2 := Lib.hid C2
              clear hs hgb hgf
              unfold inN at hin
              by_cases h0 : 0 ≤ x
              · have hd : decide (x < (c : Int)) = false := by simp; omega
                clear hin
                go_wp2_with fail
                with_reducible refine C2.out.mono ?_
                rintro e w8 ⟨rfl, h8⟩
                clear C2
                go_wp2_with fail
                go_round
                case rel => exact ⟨q + 1, f, B, by omega, by go_num, rfl, by omega, by omega, hB, hF, h8⟩
                case measure => simp [intOf]; omega
              · have hd : decide (0 ≤ x) = false := by simpa using h0
                clear hin
                go_wp2_with fail
                with_reducible refine C2.out.mono ?_
                rintro e w8 ⟨rfl, h8⟩
                clear C2
                go_wp2_with fail
                go_round
                case rel => exact ⟨q + 1, f, B, by omega, by go_num, rfl, by omega, by omega, hB, hF, h8⟩
                case measure => simp [intOf]; omega
          · obtain rfl : q = len2 := by omega
            go_wp2_with fail
            go_loopw [11, 14] (fun u i w => ∃ (d : Nat) (f : Nat → Bool) (B : Int), d ≤ c ∧ i = .int .i64 d ∧ u = .int .i64 B ∧ 0 ≤ B ∧ B ≤ 500 + d ∧ Hid (B + n = cnt n f + c) ∧ Hid (∀ j, (j < d ∨ c ≤ j) → j < n → f j = true) ∧ St W (Sep (Sep (Pool b g n f) (RowT (.slice none 0 0) [])) (RowT (.slice a c cp) xs)) w) (fun _ i _ => c - (intOf i).toNat)
            case atStart => exact ⟨0, f, B, Nat.zero_le _, rfl, rfl, hB0, by omega, hB, Lib.hid fun j h1 h2 => hF.out j (by omega) h2, hs⟩
            case round =>
              clear hs hB0 hB1 hB hF
              obtain ⟨d, f, B, hd, rfl, rfl, hB0, hB1, hB, hF, hs⟩ := hrel
              by_cases hld : d < c
              · have hdn : d < n := by omega
                have C1 := hs.look (lookL (lookL fun S h => pool_has (d : Int) hn4 h))
                rw [pH_in hdn] at C1
                cases hf : f d
                · have C2 := hs.call (sepL (sepL fun S h => pool_give (d : Int) hn4 h))
                  have hgb : gB n f (d : Int) = true := by rw [gB_in hdn, hf]; rfl
                  have hgf : gF n f (d : Int) = setB f d true := by unfold gF; rw [if_pos hgb]; rfl
                  rw [hf] at C1
                  rw [hgb, hgf] at C2
                  have HB2 := Lib.hid (show (B + 1) + n = cnt n (setB f d true) + c by have := cnt_on hdn hf; have := hB.out; omega)
                  have HF2 := Lib.hid (show ∀ i, (i < d + 1 ∨ c ≤ i) → i < n → setB f d true i = true from fun i h1 h2 => by
                    simp only [setB]; split
                    · rfl
                    · exact hF.out i (by omega) h2)
                  have C1 := Lib.hid C1
                  have C2 := Lib.hid C2
                  clear hs hB hF hf hgb hgf
                  generalize setB f d true = f2 at *
                  go_wp2_with fail
                  with_reducible refine C1.out.mono ?_
                  rintro e w7 ⟨rfl, rfl⟩
                  clear C1
                  go_wp2_with fail
                  with_reducible refine C2.out.mono ?_
                  rintro e w8 ⟨rfl, h8⟩
                  clear C2
                  go_wp2_with fail
                  go_round
                  case rel => exact ⟨d + 1, f2, B + 1, by omega, by go_num, by go_num, by omega, by omega, HB2, HF2, h8⟩
                  case measure => simp [intOf]; omega
                · have HF2 := Lib.hid (show ∀ i, (i < d + 1 ∨ c ≤ i) → i < n → f i = true from fun i h1 h2 => by
                    by_cases e : i = d
                    · rw [e]; exact hf
                    · exact hF.out i (by omega) h2)
                  rw [hf] at C1
                  have C1 := Lib.hid C1
                  clear hF hf
                  go_wp2_with fail
                  with_reducible refine C1.out.mono ?_
                  rintro e w7 ⟨rfl, rfl⟩
                  clear C1
                  go_wp2_with fail
                  go_round
                  case rel => exact ⟨d + 1, f, B, by omega, by go_num, rfl, by omega, by omega, hB, HF2, hs⟩
                  case measure => simp [intOf]; omega
              · obtain rfl : d = c := by omega
                have hall : ∀ j, j < n → f j = true := fun j hj => hF.out j (by omega) hj
                have hcn : cnt n f = n := by rw [cnt_congr n (f' := full) hall, cnt_full]
                have hBd : B = d := by have := hB.out; omega
                subst hBd
                have hb := best_all (by omega) hall
                have C1 := hs.look (lookL (lookL fun S h => pool_run (n : Int) hn4 h))
                rw [hb.some.1, hb.some.2] at C1
                have C1 := Lib.hid C1
                have hg0 : gB n f 0 = false := by
                  have := gB_in (f := f) (show 0 < n by omega)
                  rw [hall 0 (by omega)] at this; exact this
                clear hall hb hB hF
                go_wp2_with fail
                with_reducible refine C1.out.mono ?_
                rintro e w7 ⟨rfl, rfl⟩
                clear C1
                go_wp2_with fail
                with_reducible refine (pool_first _).mono ?_
                rintro e w8 ⟨rfl, hb1⟩
                have h8 := hs.later hb1
                clear hs hb1
                have C2 := h8.look (lookL (lookL fun S h => pool_free h))
                rw [hcn] at C2
                have C2 := Lib.hid C2
                have C3 := h8.call (sepL (sepL fun S h => pool_give 0 hn4 h))
                rw [hg0] at C3
                have C3 := Lib.hid C3
                clear h8 hg0 hcn
                go_wp2_with fail
                with_reducible refine C2.out.mono ?_
                rintro e w9 ⟨rfl, rfl⟩
                clear C2
                go_wp2_with fail
                with_reducible refine C3.out.mono ?_
                rintro e w9 ⟨rfl, h9⟩
                clear C3
                go_wp2_with fail
                go_ret
                exact ⟨rfl, h9.below⟩
theorem poolLow_all (n k : Int) (a2 : Option Addr) (len2 cap2 : Nat) (z2 : List Int) (W : World) (w2 : IsRow .i64 W a2 len2 cap2 z2) :
    Calls Try.prog 6 #[.int .i64 n, .int .i64 k, .slice a2 len2 cap2] W fun e w' => e = .returned (.bool true) ∧ Below W.heap.size W w' := by
  by_cases hm : n < 0 ∨ 1024 < n
  · exact poolLow_no n k a2 len2 cap2 W hm
  by_cases hm2 : n < 1 ∨ 200 < n ∨ 500 < (len2 : Int)
  · exact poolLow_out n k a2 len2 cap2 W (by omega) (by omega) hm2
  obtain ⟨m, rfl⟩ : ∃ m : Nat, n = (m : Int) := ⟨n.toNat, by omega⟩
  exact poolLow_walk m k a2 len2 cap2 z2 W w2 (by omega) (by omega) (by omega)
end Go.Proofs.Ytblallfidjkikaa
