/- The walk of PoolRuns. -/
import Derived.Test.YtblallfidjkikaaPoolOnceW
import Derived.Test.YtblallfidjkikaaArgs
import Derived.Deep.CutBlock
namespace Go.Proofs.Ytblallfidjkikaa
open Go.RowKit
set_option linter.unusedVariables false
set_option linter.unusedSimpArgs false

def bV : Option Nat → Int
  | some a => a
  | none => -1
/-- The best below q. -/
def BestLow (f : Nat → Bool) (K q : Nat) : Option Nat → Prop
  | some a => a < q ∧ isRun f a K ∧ ∀ b, a < b → b < q → ¬ isRun f b K
  | none => ∀ b, b < q → ¬ isRun f b K
theorem bestLow_on {f : Nat → Bool} {K q : Nat} {r : Option Nat} (h : isRun f q K) : BestLow f K (q + 1) (some q) := ⟨by omega, h, fun b h1 h2 => by omega⟩
theorem bestLow_off {f : Nat → Bool} {K q : Nat} {r : Option Nat} (hb : BestLow f K q r) (h : ¬ isRun f q K) : BestLow f K (q + 1) r := by
  cases r with
  | none => 
    intro b hbq
    by_cases e : b = q
    · rw [e]; exact h
    · exact hb b (by omega)
  | some a =>
    refine ⟨by have := hb.1; omega, hb.2.1, fun b h1 h2 => ?_⟩
    by_cases e : b = q
    · rw [e]; exact h
    · exact hb.2.2 b h1 (by omega)
theorem bestLow_end {n : Nat} {f : Nat → Bool} {k : Int} {q : Nat} {r : Option Nat} (hk : 1 ≤ k ∧ k ≤ n) (hq : (q : Int) = n - k + 1) (hb : BestLow f k.toNat q r) : Best n f k r := by
  cases r with
  | none => exact .inr fun b hn => hb b (by omega)
  | some a => exact ⟨hk.1, by have := hb.1; omega, hb.2.1, fun b h1 h2 => hb.2.2 b h1 (by omega)⟩
theorem best_none {n : Nat} {f : Nat → Bool} {k : Int} (hk : ¬ (1 ≤ k ∧ k ≤ n)) : Best n f k none := by
  by_cases h : k < 1
  · exact .inl h
  · exact .inr fun b hn => by omega
theorem gF_cnt {n : Nat} {f : Nat → Bool} {i : Int} : (cnt n (gF n f i) : Int) = cnt n f + (if gB n f i = true then 1 else 0) := by
  unfold gF; split
  · rename_i h
    have h' := h
    simp [gB] at h
    have h1 : i.toNat < n := by have := h.1.1; have := h.1.2; omega
    exact cnt_on h1 h.2
  · simp

set_option maxRecDepth 100000 in
set_option maxHeartbeats 800000 in
theorem poolRuns_no (n k : Int) (a2 : Option Addr) (len2 cap2 : Nat) (W : World) (hm : n < 0 ∨ 1024 < n) :
    Calls Try.prog 5 #[.int .i64 n, .int .i64 k, .slice a2 len2 cap2] W fun e w' => e = .returned (.bool true) ∧ Below W.heap.size W w' := by
  go_enter Try.func5, Try.ntmps5
  go_wp2_with fail
  with_reducible refine (pool_first _).mono ?_
  rintro e wa ⟨rfl, hb0⟩
  go_wp2_with fail
  with_reducible refine (pool_new_no n _ hm).mono ?_
  rintro e wb ⟨rfl, rfl⟩
  clear hm
  go_wp2_with fail
  with_reducible refine (pool_first _).mono ?_
  rintro e wa ⟨rfl, hb1⟩
  go_wp2_with fail
  go_ret
  exact ⟨rfl, hb0.trans (hb1.mono hb0.size)⟩
set_option maxRecDepth 100000 in
set_option maxHeartbeats 1600000 in
theorem poolRuns_out (n k : Int) (a2 : Option Addr) (len2 cap2 : Nat) (W : World) (h0 : 0 ≤ n) (h1 : n ≤ 1024) (hm : 200 < n ∨ 200 < (len2 : Int)) :
    Calls Try.prog 5 #[.int .i64 n, .int .i64 k, .slice a2 len2 cap2] W fun e w' => e = .returned (.bool true) ∧ Below W.heap.size W w' := by
  go_enter Try.func5, Try.ntmps5
  go_wp2_with fail
  with_reducible refine (pool_first _).mono ?_
  rintro e wa ⟨rfl, hb0⟩
  go_wp2_with fail
  with_reducible refine (pool_newI n _ h0 h1).mono ?_
  rintro e wb ⟨b, g, rfl, hs⟩
  have hs := hs.onward hb0
  go_wp2_with fail
  all_goals
    with_reducible refine (pool_first _).mono ?_
    rintro e wa ⟨rfl, hb1⟩
    go_wp2_with fail
    go_ret
    exact ⟨rfl, (hs.later hb1).below⟩

set_option maxRecDepth 100000 in
set_option maxHeartbeats 25600000 in
theorem poolRuns_walk (n : Nat) (k : Int) (a2 : Option Addr) (len2 cap2 : Nat) (z2 : List Int) (W : World) (w2 : IsRow .i64 W a2 len2 cap2 z2) (h2 : (n : Int) ≤ 200) (h3 : (len2 : Int) ≤ 200) :
    Calls Try.prog 5 #[.int .i64 n, .int .i64 k, .slice a2 len2 cap2] W fun e w' => e = .returned (.bool true) ∧ Below W.heap.size W w' := by
  obtain ⟨i0, hi, hz0, hz1, hz2⟩ := info_parts Try.info3
  have hn4 : n ≤ 1024 := by omega
  go_enter Try.func5, Try.ntmps5
  go_wp2_with fail
  with_reducible refine (pool_first _).mono ?_
  rintro e wa ⟨rfl, hb0⟩
  go_wp2_with fail
  with_reducible refine (pool_new n _ (by omega)).mono ?_
  rintro e wb ⟨b, g, rfl, hs⟩
  have hs := hs.onward hb0
  clear hb0
  go_wp2_with fail
  with_reducible refine (pool_take (n : Int) hn4 hs.nilRow).mono ?_
  rintro e w3 ⟨v, rfl, h4⟩
  obtain ⟨a, cp, rfl, hc1, hc2⟩ := slice_of_owns h4.right.row
  have hT := took_take n full (n : Int)
  have hlen : (tkL n full (n : Int)).length = n := by
    by_cases h : 1 ≤ (n : Int) ∧ (n : Int) ≤ cnt n full
    · have := tkL_len h; omega
    · rw [tkL_nil h]; rw [cnt_full] at h; simp; omega
  have hct0 : cnt n (tkF n full (n : Int)) = 0 := by have := hT.2.2.2; rw [hlen, cnt_full] at this; omega
  have hB : tkB n full (n : Int) = decide (1 ≤ n) := by unfold tkB; rw [cnt_full]; simp; omega
  rw [hB]
  rw [hlen] at h4 hc1 ⊢
  have H4 := Lib.hid h4.left
  have HC0 := Lib.hid hct0
  clear hs h4 hT hlen hct0 hB hc1 hc2
  generalize tkF n full (n : Int) = f0 at *
  generalize hX : RowT (.slice none 0 0) [] = X at *
  clear hX
  go_upto_region 7 with fail
  go_cut [10, 67] from 50 to 67 (fun o u w => u = .bool false ∧ w = w3)
  case first =>
    as_aux_lemma =>
    by_cases hn0 : n = 0
    · subst hn0
      go_wp2_with fail
      go_meet
      exact ⟨rfl, rfl⟩
    · have hn1 : decide (1 ≤ n) = true := by simp; omega
      have hnp : 0 < n := by omega
      go_wp2_with fail
      go_meet
      exact ⟨rfl, rfl⟩
  case rest =>
    obtain ⟨rfl, hw⟩ := hcut
    subst hw
    go_wp2_with fail
    go_loopw [11, 12] (fun u i w => ∃ (q : Nat) (f : Nat → Bool), q ≤ len2 ∧ i = .int .i64 q ∧ u = .int .i64 (cnt n f) ∧ St W (Sep (Pool b g n f) X) w) (fun _ i _ => len2 - (intOf i).toNat)
    case atStart => exact ⟨0, f0, Nat.zero_le _, rfl, by first | (rw [HC0.out]; done) | (rw [HC0.out]; rfl), H4.out⟩
    case round =>
      clear H4 HC0
      obtain ⟨q, f, hq, rfl, rfl, hs⟩ := hrel
      have hcn := cnt_le n f
      by_cases hlt : q < len2
      · as_aux_lemma =>
        obtain ⟨ab, off, x, rfl, hab, hx, hc0⟩ := w2.at_ hlt
        clear hx
        have hcl := (hs.below.cell (p := ⟨ab, off + q, none⟩) hab).trans hc0
        have C2 := Lib.hid (hs.call (sepL fun S h => pool_give x hn4 h))
        have hgc := gF_cnt (n := n) (f := f) (i := x)
        clear hc0 hs
        generalize gF n f x = f2 at *
        cases hg : gB n f x
        · rw [hg] at C2 hgc
          simp only [Bool.false_eq_true, if_false] at hgc
          have HGC := Lib.hid hgc
          clear hgc hg
          go_wp2_with fail
          with_reducible refine C2.out.mono ?_
          rintro e w8 ⟨rfl, h8⟩
          clear C2
          go_wp2_with fail
          go_round
          case rel => exact ⟨q + 1, f2, by omega, by go_num, by rw [HGC.out]; simp, h8⟩
          case measure => simp [intOf]; omega
        · rw [hg] at C2 hgc
          simp only [if_true] at hgc
          have HGC := Lib.hid hgc
          clear hgc hg
          go_wp2_with fail
          with_reducible refine C2.out.mono ?_
          rintro e w8 ⟨rfl, h8⟩
          clear C2
          go_wp2_with fail
          go_round
          case rel => exact ⟨q + 1, f2, by omega, by go_num, by first | (rw [HGC.out]; done) | (rw [HGC.out]; first | rfl | go_num), h8⟩
          case measure => simp [intOf]; omega
      · obtain rfl : q = len2 := by omega
        go_upto_block 2 with fail
        have HS := Lib.hid hs
        clear hs
        go_cut [13] (fun u w => ∃ r : Option Nat, u = .int .i64 (bV r) ∧ Hid (Best n f k r) ∧ w = wr)
        case first =>
          as_aux_lemma =>
          by_cases hk : 1 ≤ k ∧ k ≤ n
          · obtain ⟨K, rfl⟩ : ∃ K : Nat, k = (K : Int) := ⟨k.toNat, by omega⟩
            have hk1 : 1 ≤ (K : Int) := hk.1
            have hk2 : (K : Int) ≤ n := hk.2
            have HK := Lib.hid hk
            clear hk
            go_wp2_with fail
            go_loopw [13, 14] (fun u i w => ∃ (q : Nat) (r : Option Nat), q + K ≤ n + 1 ∧ i = .int .i64 q ∧ u = .int .i64 (bV r) ∧ Hid (BestLow f K q r) ∧ w = wr) (fun _ i _ => n + 1 - (intOf i).toNat)
            case atStart => exact ⟨0, none, by omega, rfl, rfl, Lib.hid fun b hb => by omega, rfl⟩
            case round =>
              obtain ⟨q, r, hq2, rfl, rfl, hBL, rfl⟩ := hrel
              by_cases hlq : q + K ≤ n
              · have hqk : (q : Int) ≤ n - K := by omega
                go_wp2_with fail
                go_loopw [15] (fun i w => ∃ c : Nat, c ≤ K ∧ i = .int .i64 c ∧ Hid (∀ j, j < c → f (q + j) = true) ∧ w = wr) (fun i _ => K - (intOf i).toNat)
                case atStart => exact ⟨0, Nat.zero_le _, rfl, Lib.hid fun j hj => by omega, rfl⟩
                case round =>
                  obtain ⟨c, hc, rfl, hall, rfl⟩ := hrel
                  by_cases hlc : c < K
                  · have C1 := HS.out.look (lookL fun S h => pool_has ((q + c : Nat) : Int) hn4 h)
                    rw [pH_in (show q + c < n by omega), show ((q + c : Nat) : Int) = (q : Int) + c by omega] at C1
                    cases hf : f (q + c)
                    · rw [hf] at C1
                      have C1 := Lib.hid C1
                      have HB2 := Lib.hid (bestLow_off hBL.out fun hr => by have := hr c hlc; rw [hf] at this; cases this)
                      have hne : ((c : Int) == (K : Int)) = false := by simp; omega
                      clear hall hf hBL
                      go_wp2_with fail
                      with_reducible refine C1.out.mono ?_
                      rintro e w7 ⟨rfl, rfl⟩
                      clear C1
                      go_wp2_with fail
                      go_round
                      case rel => exact ⟨q + 1, r, by omega, by go_num, rfl, HB2, by first | rfl | trivial⟩
                      case measure => first | (simp [intOf]; done) | (simp [intOf]; omega)
                    · rw [hf] at C1
                      have C1 := Lib.hid C1
                      have HA2 := Lib.hid (show ∀ j, j < c + 1 → f (q + j) = true from fun j hj => by
                        by_cases e : j = c
                        · rw [e]; exact hf
                        · exact hall.out j (by omega))
                      clear hall hf
                      go_wp2_with fail
                      with_reducible refine C1.out.mono ?_
                      rintro e w7 ⟨rfl, rfl⟩
                      clear C1
                      go_wp2_with fail
                      go_round
                      case rel => exact ⟨c + 1, by omega, by go_num, HA2, by first | rfl | trivial⟩
                      case measure => first | (simp [intOf]; done) | (simp [intOf]; omega)
                  · obtain rfl : c = K := by omega
                    have HB2 := Lib.hid (bestLow_on (r := r) hall.out)
                    clear hall hBL
                    go_wp2_with fail
                    go_round
                    case rel => exact ⟨q + 1, some q, by omega, by go_num, rfl, HB2, by first | rfl | trivial⟩
                    case measure => first | (simp [intOf]; done) | (simp [intOf]; omega)
              · have hqk : decide ((q : Int) ≤ n - K) = false := by simp; omega
                have HB := Lib.hid (bestLow_end HK.out (by omega) hBL.out)
                clear hBL
                go_wp2_with fail
                go_meet
                exact ⟨r, rfl, HB, by first | rfl | trivial⟩
          · have HB := Lib.hid (best_none (f := f) hk)
            by_cases hk1 : 1 ≤ k
            · have hk2 : decide (k ≤ (n : Int)) = false := by simp; omega
              clear hk
              go_wp2_with fail
              refine wp_loop_rounds 1 ?_
              rw [rounds_succ]
              go_wp2_with fail
              go_meet
              exact ⟨none, rfl, HB, rfl⟩
            · have hk2 : decide (1 ≤ k) = false := by simpa using hk1
              clear hk
              go_wp2_with fail
              refine wp_loop_rounds 1 ?_
              rw [rounds_succ]
              go_wp2_with fail
              go_meet
              exact ⟨none, rfl, HB, rfl⟩
        case rest =>
          obtain ⟨r, rfl, hBest, hw⟩ := hcut
          subst hw
          have C1 := HS.out.look (lookL fun S h => pool_run k hn4 h)
          cases r with
          | none =>
            as_aux_lemma =>
            rw [hBest.out.none.1, hBest.out.none.2] at C1
            have C1 := Lib.hid C1
            rw [show bV none = -1 from rfl]
            go_wp2_with fail
            with_reducible refine C1.out.mono ?_
            rintro e w7 ⟨rfl, rfl⟩
            clear C1
            have h1 := HS.out.nilRow
            go_upto_block 6 with fail
            go_cut [18] (fun u w => ∃ v, u = v ∧ St W (Sep (Sep (Pool b g n f) X) (RowT v (lowL f k.toNat n))) w)
            case first =>
              as_aux_lemma =>
              go_wp2_with fail
              go_loopw [18, 19] (fun u i w' => ∃ (q : Nat) (v : Value), q ≤ n ∧ u = v ∧ i = .int .i64 q ∧ St W (Sep (Sep (Pool b g n f) X) (RowT v (lowL f k.toNat q))) w') (fun _ i _ => n - (intOf i).toNat)
              case atStart => exact ⟨0, _, Nat.zero_le _, rfl, rfl, h1⟩
              case round =>
                clear h1
                obtain ⟨q, v, hq, rfl, rfl, hs⟩ := hrel
                obtain ⟨a, c, rfl, hc1, hc2⟩ := slice_of_owns hs.right.row
                have hlen := lowL_len f k.toNat q
                have hcq := cnt_le q f
                by_cases hlt : q < n
                · by_cases hfull : (lowL f k.toNat q).length < k.toNat
                  · have hfi : ((lowL f k.toNat q).length : Int) < k := by omega
                    have C1 := hs.look (lookL (lookL fun S h => pool_has (q : Int) hn4 h))
                    rw [pH_in hlt] at C1
                    cases hf : f q
                    · rw [hf] at C1
                      have e2 : lowL f k.toNat (q + 1) = lowL f k.toNat q := by simp [lowL, hf]
                      have H9 := Lib.hid (show St W (Sep (Sep (Pool b g n f) X) (RowT _ (lowL f k.toNat (q + 1)))) wr by rw [e2]; exact hs)
                      have C1 := Lib.hid C1
                      clear hs hf hlen e2
                      go_wp2_with fail
                      with_reducible refine C1.out.mono ?_
                      rintro e w7 ⟨rfl, rfl⟩
                      clear C1
                      go_wp2_with fail
                      go_round
                      case rel => exact ⟨q + 1, _, by omega, rfl, by go_num, H9.out⟩
                      case measure => simp [intOf]; omega
                    · rw [hf] at C1
                      have e2 : lowL f k.toNat (q + 1) = lowL f k.toNat q ++ [(q : Int)] := by simp [lowL, hf, hfull]
                      have hlq : (lowL f k.toNat q).length ≤ 1000000 := by rw [hlen]; omega
                      have E2 := Lib.hid e2
                      have C1 := Lib.hid C1
                      have HO := Lib.hid hs.right.row
                      have H7 := Lib.hid hs
                      clear hs hf hlen e2
                      generalize lowL f k.toNat q = l at *
                      go_wp2_with fail
                      with_reducible refine C1.out.mono ?_
                      rintro e w1 ⟨rfl, rfl⟩
                      clear C1
                      go_wp2_with (at_builtin; refine wpList_push rfl _ _ 31 rfl 3 i0 (.int .i64 0) 8 Try.underlying31 hi hz0 hz1 hz2 rfl _ _ _ rfl (HO.out.alloc _) ⟨wr.heap.size, 0, none⟩ (.int .i64 (q : Int)) rfl ?c1 rfl hlq (by decide) ?_)
                      case c1 => exact World.cell?_alloc_new _ _ _ 0
                      intro v' w2 ho hg hbk
                      have h8 := H7.out.goes (w' := w2) (goesR fun S h => row_push h ho hg (by simpa using hbk))
                      have H9 := Lib.hid (show St W (Sep (Sep (Pool b g n f) X) (RowT v' (lowL f k.toNat (q + 1)))) w2 by rw [E2.out]; exact h8)
                      clear h8 H7 HO ho hg hbk E2
                      go_wp2_with fail
                      go_round
                      case rel => exact ⟨q + 1, v', by omega, rfl, by go_num, H9.out⟩
                      case measure => simp [intOf]; omega
                  · have hfi : decide (((lowL f k.toNat q).length : Int) < k) = false := by simp; omega
                    obtain ⟨d, hd⟩ : ∃ d, n = q + d := ⟨n - q, by omega⟩
                    obtain ⟨e1, e2⟩ := lowL_full hfull d
                    have H9 := Lib.hid (show St W (Sep (Sep (Pool b g n f) X) (RowT _ (lowL f k.toNat n))) wr by rw [show lowL f k.toNat n = lowL f k.toNat q by rw [hd]; exact e1]; exact hs)
                    clear hs hlen e1 e2 hd
                    go_wp2_with fail
                    go_meet
                    exact ⟨_, rfl, H9.out⟩
                · obtain rfl : q = n := by omega
                  clear hlen
                  go_wp2_with fail
                  go_meet
                  exact ⟨_, rfl, hs⟩
            case rest =>
              obtain ⟨v, rfl, h5⟩ := hcut
              have HL5 := Lib.hid (show ∀ xs, tkL n f k = xs → 1 ≤ k ∧ k ≤ cnt n f → xs = lowL f k.toNat n from fun xs e h => by rw [← e]; unfold tkL; rw [if_pos h, hBest.out.is])
              clear HS hBest
              have hT := took_take n f k
              go_wp2_with fail
              with_reducible refine (pool_take k hn4 h5.assoc).mono ?_
              rintro e w8 ⟨v3, rfl, h7⟩
              obtain ⟨a3, c3, rfl, hc3, hc4⟩ := slice_of_owns h7.right.row
              have hTc := hT.2.2.2
              clear h5 hT
              by_cases hkc : 1 ≤ k ∧ k ≤ cnt n f
              · have hxe := HL5.out _ rfl hkc
                have hB : tkB n f k = true := decide_eq_true hkc
                rw [hB]
                have hlx := tkL_len hkc
                obtain ⟨hk1, hk2⟩ := hkc
                have HF := Lib.hid (show (cnt n (tkF n f k) : Int) = cnt n f - k by omega)
                have H7 := Lib.hid h7
                have HXE := Lib.hid hxe
                clear h7 hTc hxe HL5 hB
                generalize tkL n f k = xs at *
                generalize hL : xs.length = L at *
                have HXL := Lib.hid hlx
                have HXL2 := Lib.hid hL
                generalize cnt n f = ct at *
                have hLn : (L : Int) ≤ n := by omega
                have hLk : ((L : Int) == k) = true := by simp [hlx]
                have hLg : decide ((n : Int) < L) = false := by simp; omega
                clear hL hlx
                have hLg2 : decide (n < L) = false := by simp; omega
                go_wp2_with fail
                with_reducible refine (pool_first _).mono ?_
                rintro e w8 ⟨rfl, hb1⟩
                have h8 := H7.out.later hb1
                have C3 := h8.look (lookL (lookL fun S h => pool_free h))
                rw [HF.out] at C3
                have C3 := Lib.hid C3
                have h9 := St.row h8.right
                have hrow5 := St.row h8.left.right.right
                obtain ⟨av, cv, hv, hcv1, hcv2⟩ := slice_of_owns hrow5
                have HI := Lib.hid (ints_eq (isInts_row h9) (isInts_row hrow5) (by have := HXL.out; have := HXL2.out; omega))
                have HBl := Lib.hid h8
                have hxe := HXE.out
                subst hv
                clear hb1 h8 h9 hrow5 H7
                go_wp2_with fail
                with_reducible refine C3.out.mono ?_
                rintro e w9 ⟨rfl, rfl⟩
                clear C3
                clear hxe
                go_wp2_with fail
                have HI2 := HI.out
                rw [decide_eq_true HXE.out] at HI2
                refine HI2.mono ?_
                rintro e w10 ⟨rfl, m, rfl⟩
                clear HI HI2
                go_wp2_with fail
                go_ret
                exact ⟨rfl, (HBl.out.drewN m).below⟩
              · have hB : tkB n f k = false := decide_eq_false hkc
                rw [hB]
                have hxn := tkL_nil hkc
                rw [hxn] at h7 hc3 ⊢
                rw [show ([] : List Int).length = 0 from rfl] at *
                have H7 := Lib.hid h7.below
                clear h7 hTc HL5 hB hxn
                generalize cnt n f = ct at *
                by_cases hk1 : 1 ≤ k
                · have hgt : decide (k ≤ (ct : Int)) = false := by simp; omega
                  clear hkc
                  go_wp2_with fail
                  with_reducible refine (pool_first _).mono ?_
                  rintro e w9 ⟨rfl, hb1⟩
                  go_wp2_with fail
                  go_ret
                  exact ⟨rfl, H7.out.trans (hb1.mono H7.out.size)⟩
                · have hgt : decide (1 ≤ k) = false := by simpa using hk1
                  clear hkc
                  go_wp2_with fail
                  with_reducible refine (pool_first _).mono ?_
                  rintro e w9 ⟨rfl, hb1⟩
                  go_wp2_with fail
                  go_ret
                  exact ⟨rfl, H7.out.trans (hb1.mono H7.out.size)⟩
          | some r =>
            as_aux_lemma =>
            rw [hBest.out.some.1, hBest.out.some.2] at C1
            have C1 := Lib.hid C1
            rw [show bV (some r) = (r : Int) from rfl]
            have hrn : (r : Int) ≤ n := by have := hBest.out.2.1; omega
            go_wp2_with fail
            with_reducible refine C1.out.mono ?_
            rintro e w7 ⟨rfl, rfl⟩
            clear C1
            have h1 := HS.out.nilRow
            go_upto_block 6 with fail
            go_cut [18] (fun u w => ∃ v, u = v ∧ St W (Sep (Sep (Pool b g n f) X) (RowT v (lowL f k.toNat n))) w)
            case first =>
              as_aux_lemma =>
              go_wp2_with fail
              go_loopw [18, 19] (fun u i w' => ∃ (q : Nat) (v : Value), q ≤ n ∧ u = v ∧ i = .int .i64 q ∧ St W (Sep (Sep (Pool b g n f) X) (RowT v (lowL f k.toNat q))) w') (fun _ i _ => n - (intOf i).toNat)
              case atStart => exact ⟨0, _, Nat.zero_le _, rfl, rfl, h1⟩
              case round =>
                clear h1
                obtain ⟨q, v, hq, rfl, rfl, hs⟩ := hrel
                obtain ⟨a, c, rfl, hc1, hc2⟩ := slice_of_owns hs.right.row
                have hlen := lowL_len f k.toNat q
                have hcq := cnt_le q f
                by_cases hlt : q < n
                · by_cases hfull : (lowL f k.toNat q).length < k.toNat
                  · have hfi : ((lowL f k.toNat q).length : Int) < k := by omega
                    have C1 := hs.look (lookL (lookL fun S h => pool_has (q : Int) hn4 h))
                    rw [pH_in hlt] at C1
                    cases hf : f q
                    · rw [hf] at C1
                      have e2 : lowL f k.toNat (q + 1) = lowL f k.toNat q := by simp [lowL, hf]
                      have H9 := Lib.hid (show St W (Sep (Sep (Pool b g n f) X) (RowT _ (lowL f k.toNat (q + 1)))) wr by rw [e2]; exact hs)
                      have C1 := Lib.hid C1
                      clear hs hf hlen e2
                      go_wp2_with fail
                      with_reducible refine C1.out.mono ?_
                      rintro e w7 ⟨rfl, rfl⟩
                      clear C1
                      go_wp2_with fail
                      go_round
                      case rel => exact ⟨q + 1, _, by omega, rfl, by go_num, H9.out⟩
                      case measure => simp [intOf]; omega
                    · rw [hf] at C1
                      have e2 : lowL f k.toNat (q + 1) = lowL f k.toNat q ++ [(q : Int)] := by simp [lowL, hf, hfull]
                      have hlq : (lowL f k.toNat q).length ≤ 1000000 := by rw [hlen]; omega
                      have E2 := Lib.hid e2
                      have C1 := Lib.hid C1
                      have HO := Lib.hid hs.right.row
                      have H7 := Lib.hid hs
                      clear hs hf hlen e2
                      generalize lowL f k.toNat q = l at *
                      go_wp2_with fail
                      with_reducible refine C1.out.mono ?_
                      rintro e w1 ⟨rfl, rfl⟩
                      clear C1
                      go_wp2_with (at_builtin; refine wpList_push rfl _ _ 31 rfl 3 i0 (.int .i64 0) 8 Try.underlying31 hi hz0 hz1 hz2 rfl _ _ _ rfl (HO.out.alloc _) ⟨wr.heap.size, 0, none⟩ (.int .i64 (q : Int)) rfl ?c1 rfl hlq (by decide) ?_)
                      case c1 => exact World.cell?_alloc_new _ _ _ 0
                      intro v' w2 ho hg hbk
                      have h8 := H7.out.goes (w' := w2) (goesR fun S h => row_push h ho hg (by simpa using hbk))
                      have H9 := Lib.hid (show St W (Sep (Sep (Pool b g n f) X) (RowT v' (lowL f k.toNat (q + 1)))) w2 by rw [E2.out]; exact h8)
                      clear h8 H7 HO ho hg hbk E2
                      go_wp2_with fail
                      go_round
                      case rel => exact ⟨q + 1, v', by omega, rfl, by go_num, H9.out⟩
                      case measure => simp [intOf]; omega
                  · have hfi : decide (((lowL f k.toNat q).length : Int) < k) = false := by simp; omega
                    obtain ⟨d, hd⟩ : ∃ d, n = q + d := ⟨n - q, by omega⟩
                    obtain ⟨e1, e2⟩ := lowL_full hfull d
                    have H9 := Lib.hid (show St W (Sep (Sep (Pool b g n f) X) (RowT _ (lowL f k.toNat n))) wr by rw [show lowL f k.toNat n = lowL f k.toNat q by rw [hd]; exact e1]; exact hs)
                    clear hs hlen e1 e2 hd
                    go_wp2_with fail
                    go_meet
                    exact ⟨_, rfl, H9.out⟩
                · obtain rfl : q = n := by omega
                  clear hlen
                  go_wp2_with fail
                  go_meet
                  exact ⟨_, rfl, hs⟩
            case rest =>
              obtain ⟨v, rfl, h5⟩ := hcut
              have HL5 := Lib.hid (show ∀ xs, tkL n f k = xs → 1 ≤ k ∧ k ≤ cnt n f → xs = rnL r k.toNat from fun xs e h => by rw [← e]; unfold tkL; rw [if_pos h, hBest.out.is])
              clear HS hBest
              have hT := took_take n f k
              go_wp2_with fail
              with_reducible refine (pool_take k hn4 h5.assoc).mono ?_
              rintro e w8 ⟨v3, rfl, h7⟩
              obtain ⟨a3, c3, rfl, hc3, hc4⟩ := slice_of_owns h7.right.row
              have hTc := hT.2.2.2
              clear h5 hT
              by_cases hkc : 1 ≤ k ∧ k ≤ cnt n f
              · have hxe := HL5.out _ rfl hkc
                have hB : tkB n f k = true := decide_eq_true hkc
                rw [hB]
                have hlx := tkL_len hkc
                obtain ⟨hk1, hk2⟩ := hkc
                have HF := Lib.hid (show (cnt n (tkF n f k) : Int) = cnt n f - k by omega)
                have H7 := Lib.hid h7
                have HXE := Lib.hid hxe
                clear h7 hTc hxe HL5 hB
                generalize tkL n f k = xs at *
                generalize hL : xs.length = L at *
                have HXL := Lib.hid hlx
                have HXL2 := Lib.hid hL
                generalize cnt n f = ct at *
                have hLn : (L : Int) ≤ n := by omega
                have hLk : ((L : Int) == k) = true := by simp [hlx]
                have hLg : decide ((n : Int) < L) = false := by simp; omega
                clear hL hlx
                have hLg2 : decide (n < L) = false := by simp; omega
                go_wp2_with fail
                go_loopw [22] (fun i w => ∃ c : Nat, c ≤ L ∧ i = .int .i64 c ∧ w = w8) (fun i _ => L - (intOf i).toNat)
                case atStart => exact ⟨0, Nat.zero_le _, rfl, rfl⟩
                case round =>
                  obtain ⟨c, hc, rfl, hw⟩ := hrel
                  subst hw
                  by_cases hlc : c < L
                  · obtain ⟨br, rfl, e1⟩ := row_cell (St.row H7.out.right) rfl (show c < xs.length by rw [HXL2.out]; exact hlc)
                    rw [HXE.out, rnL_get r k.toNat (by have := HXL.out; omega), show ((r + c : Nat) : Int) = (r : Int) + c by omega] at e1
                    have hb1 := HXL.out
                    go_wp2_with fail
                    go_round
                    case rel => exact ⟨c + 1, by omega, by go_num, by first | rfl | trivial⟩
                    case measure => first | (simp [intOf]; done) | (simp [intOf]; omega)
                  · obtain rfl : c = L := by omega
                    go_wp2_with fail
                    with_reducible refine (pool_first _).mono ?_
                    rintro e w9 ⟨rfl, hb1⟩
                    have h8 := H7.out.later hb1
                    have C3 := h8.look (lookL (lookL fun S h => pool_free h))
                    rw [HF.out] at C3
                    have C3 := Lib.hid C3
                    have HBl := Lib.hid h8.below
                    clear hb1 h8
                    go_wp2_with fail
                    with_reducible refine C3.out.mono ?_
                    rintro e w10 ⟨rfl, rfl⟩
                    clear C3
                    go_wp2_with fail
                    go_ret
                    exact ⟨rfl, HBl.out⟩
              · have hB : tkB n f k = false := decide_eq_false hkc
                rw [hB]
                have hxn := tkL_nil hkc
                rw [hxn] at h7 hc3 ⊢
                rw [show ([] : List Int).length = 0 from rfl] at *
                have H7 := Lib.hid h7.below
                clear h7 hTc HL5 hB hxn
                generalize cnt n f = ct at *
                by_cases hk1 : 1 ≤ k
                · have hgt : decide (k ≤ (ct : Int)) = false := by simp; omega
                  clear hkc
                  go_wp2_with fail
                  with_reducible refine (pool_first _).mono ?_
                  rintro e w9 ⟨rfl, hb1⟩
                  go_wp2_with fail
                  go_ret
                  exact ⟨rfl, H7.out.trans (hb1.mono H7.out.size)⟩
                · have hgt : decide (1 ≤ k) = false := by simpa using hk1
                  clear hkc
                  go_wp2_with fail
                  with_reducible refine (pool_first _).mono ?_
                  rintro e w9 ⟨rfl, hb1⟩
                  go_wp2_with fail
                  go_ret
                  exact ⟨rfl, H7.out.trans (hb1.mono H7.out.size)⟩
theorem poolRuns_all (n k : Int) (a2 : Option Addr) (len2 cap2 : Nat) (z2 : List Int) (W : World) (w2 : IsRow .i64 W a2 len2 cap2 z2) :
    Calls Try.prog 5 #[.int .i64 n, .int .i64 k, .slice a2 len2 cap2] W fun e w' => e = .returned (.bool true) ∧ Below W.heap.size W w' := by
  by_cases hm : n < 0 ∨ 1024 < n
  · exact poolRuns_no n k a2 len2 cap2 W hm
  by_cases hm2 : 200 < n ∨ 200 < (len2 : Int)
  · exact poolRuns_out n k a2 len2 cap2 W (by omega) (by omega) hm2
  obtain ⟨m, rfl⟩ : ∃ m : Nat, n = (m : Int) := ⟨n.toNat, by omega⟩
  exact poolRuns_walk m k a2 len2 cap2 z2 W w2 (by omega) (by omega)
end Go.Proofs.Ytblallfidjkikaa
