import Derived.Test.YtcdmlimhkmbiiaaPile
import Derived.LoopTactic
namespace Go.Proofs.Ytcdmlimhkmbiiaa
open Go.RowKit

set_option maxHeartbeats 400000 in
theorem pile_first (W : World) :
    Calls Try.prog 16 #[] W fun e w' => e = .returned (.bool true) ∧ Below W.heap.size W w' := by
  go_enter Try.func16, Try.ntmps16
  go_wp2_with (go_at_call 17; refine (pile_new 1 _ (by omega) (by omega)).mono ?_; rintro e w1 ⟨b, rfl, hP, hB⟩)
  have h1 := St.begin (Below.refl _ _) hP hB
  clear hP hB
  go_wp2_with fail
  refine (h1.call fun S h => pile_push 3 h (by simp)).mono ?_
  rintro e w2 ⟨rfl, h2⟩
  clear h1
  go_wp2_with fail
  refine (h2.call fun S h => pile_push 4 h (by simp)).mono ?_
  rintro e w3 ⟨rfl, h3⟩
  clear h2
  go_wp2_with fail
  refine (h3.look fun S h => pile_lost h).mono ?_
  rintro e w4 ⟨rfl, rfl⟩
  go_wp2_with fail
  refine (h3.look fun S h => pile_len h).mono ?_
  rintro e w4 ⟨rfl, rfl⟩
  go_wp2_with fail
  go_ret
  exact ⟨rfl, h3.below⟩

set_option maxHeartbeats 800000 in
theorem pileOdd_walk (a1 : Option Addr) (len1 cap1 : Nat) (z1 : List Int) (W : World) (w1 : IsRow .i64 W a1 len1 cap1 z1) (hlen : len1 ≤ 256) :
    Calls Try.prog 3 #[.slice a1 len1 cap1] W fun e w' => e = .returned (.bool true) ∧ Below W.heap.size W w' := by
  obtain ⟨hl1, hl2⟩ := w1.small
  go_enter Try.func3, Try.ntmps3
  go_wp2_with fail
  refine (pile_first _).mono ?_
  rintro e wa ⟨rfl, hb0⟩
  go_wp2_with fail
  refine (pile_new 256 _ (by omega) (by omega)).mono ?_
  rintro e wb ⟨b, rfl, hP, hB⟩
  have h1 := St.begin hb0 hP hB
  clear hP hB
  go_wp2_with fail

  go_loopw [5] (fun i w => ∃ k : Nat, k ≤ len1 ∧ i = .int .i64 k ∧ St W (Pile b (z1.take k) 256 false) w) (fun i _ => len1 - (intOf i).toNat)
  case atStart => exact ⟨0, Nat.zero_le _, rfl, h1⟩
  case round =>
    clear h1
    obtain ⟨k, hk, rfl, hs⟩ := hrel
    by_cases hlt : k < len1
    · obtain ⟨ab, off, x, rfl, hab, hx, hc0⟩ := w1.at_ hlt
      have hc := (hs.below.cell (p := ⟨ab, off + k, none⟩) hab).trans hc0
      clear hc0
      go_wp2_with fail
      with_reducible refine (hs.call fun S h => pile_push x h (by simp; omega)).mono ?_
      rintro e w2 ⟨rfl, h2⟩
      have hne : (((z1.take k).length : Int) == 256) = false := by simp; omega
      have hl : (z1.take (k + 1)).length = k + 1 := by simp; omega
      rw [hne] at h2
      simp only [Bool.false_eq_true, if_false, Bool.or_false] at h2
      rw [← hx.out] at h2
      rw [hne]
      clear hs hne
      go_wp2_with fail
      with_reducible refine (h2.look fun S h => pile_len h).mono ?_
      rintro e w3 ⟨rfl, rfl⟩
      rw [hl]
      clear hl
      go_wp2_with fail
      go_round
      case rel => exact ⟨k + 1, by omega, by go_num, h2⟩
      case measure => simp [intOf]; omega
    · obtain rfl : k = len1 := by omega
      go_wp2_with fail
      go_loopw [6] (fun i w => ∃ q : Nat, q ≤ k ∧ i = .int .i64 ((q : Int) - 1) ∧ St W (Pile b (z1.take q) 256 false) w) (fun i _ => (intOf i + 1).toNat)
      case atStart => exact ⟨k, Nat.le_refl _, rfl, hs⟩
      case round =>
        clear hs
        obtain ⟨q, hq, rfl, hs⟩ := hrel
        cases q with
        | zero =>
          go_wp2_with fail
          with_reducible refine (pile_first _).mono ?_
          rintro e w3 ⟨rfl, hb3⟩
          have h3 := hs.later hb3
          clear hs hb3
          go_wp2_with fail
          with_reducible refine (h3.look fun S h => pile_lost h).mono ?_
          rintro e w4 ⟨rfl, rfl⟩
          go_wp2_with fail
          go_ret
          exact ⟨rfl, h3.below⟩
        | succ q =>
          obtain ⟨ab, off, x, rfl, hab, hx, hc0⟩ := w1.at_ (show q < k by omega)
          have hc := (hs.below.cell (p := ⟨ab, off + q, none⟩) hab).trans hc0
          clear hc0
          go_wp2_with fail
          rw [hx.out] at hs
          with_reducible refine (hs.call fun S h => pile_pop h).mono ?_
          rintro e w2 ⟨rfl, h2⟩
          have hc2 := (h2.below.cell (p := ⟨ab, off + q, none⟩) hab).trans ((hs.below.cell (p := ⟨ab, off + q, none⟩) hab).symm.trans hc)
          clear hs hc
          have hl : (z1.take q).length = q := by simp; omega
          go_wp2_with fail
          with_reducible refine (h2.look fun S h => pile_len h).mono ?_
          rintro e w3 ⟨rfl, rfl⟩
          rw [hl]
          clear hl
          go_wp2_with fail
          go_round
          case rel => exact ⟨q, by omega, by go_num, h2⟩
          case measure => simp [intOf]

set_option maxHeartbeats 800000 in
theorem pileOdd_long (a1 : Option Addr) (len1 cap1 : Nat) (W : World) (hlen : 256 < len1) :
    Calls Try.prog 3 #[.slice a1 len1 cap1] W fun e w' => e = .returned (.bool true) ∧ Below W.heap.size W w' := by
  go_enter Try.func3, Try.ntmps3
  go_wp2_with fail
  with_reducible refine (pile_first _).mono ?_
  rintro e wa ⟨rfl, hb0⟩
  go_wp2_with fail
  with_reducible refine (pile_new 256 _ (by omega) (by omega)).mono ?_
  rintro e wb ⟨b, rfl, hP, hB⟩
  have h1 := St.begin hb0 hP hB
  clear hP hB
  go_wp2_with fail
  with_reducible refine (pile_first _).mono ?_
  rintro e wa ⟨rfl, hb1⟩
  go_wp2_with fail
  go_ret
  exact ⟨rfl, (h1.later hb1).below⟩

set_option maxHeartbeats 800000 in
theorem pileLast_no (m : Int) (a1 : Option Addr) (len1 cap1 : Nat) (W : World) (hm : m < 1 ∨ 256 < m) :
    Calls Try.prog 5 #[.int .i64 m, .slice a1 len1 cap1] W fun e w' => e = .returned (.bool true) ∧ Below W.heap.size W w' := by
  go_enter Try.func5, Try.ntmps5
  go_wp2_with fail
  with_reducible refine (pile_first _).mono ?_
  rintro e wa ⟨rfl, hb0⟩
  go_wp2_with fail
  with_reducible refine (pile_new_no m _ hm).mono ?_
  rintro e wb ⟨rfl, rfl⟩
  clear hm
  go_wp2_with fail
  with_reducible refine (pile_first _).mono ?_
  rintro e wa ⟨rfl, hb1⟩
  go_wp2_with fail
  go_ret
  exact ⟨rfl, hb0.trans (hb1.mono hb0.size)⟩

set_option maxHeartbeats 800000 in
theorem pileLast_long (m : Int) (a1 : Option Addr) (len1 cap1 : Nat) (W : World) (hm : 1 ≤ m) (hm2 : m ≤ 256) (hlen : 200 < len1) :
    Calls Try.prog 5 #[.int .i64 m, .slice a1 len1 cap1] W fun e w' => e = .returned (.bool true) ∧ Below W.heap.size W w' := by
  go_enter Try.func5, Try.ntmps5
  go_wp2_with fail
  with_reducible refine (pile_first _).mono ?_
  rintro e wa ⟨rfl, hb0⟩
  go_wp2_with fail
  with_reducible refine (pile_new m _ hm hm2).mono ?_
  rintro e wb ⟨b, rfl, hP, hB⟩
  have h1 := St.begin hb0 hP hB
  clear hP hB
  go_wp2_with fail
  with_reducible refine (pile_first _).mono ?_
  rintro e wa ⟨rfl, hb1⟩
  go_wp2_with fail
  go_ret
  exact ⟨rfl, (h1.later hb1).below⟩

set_option maxHeartbeats 1600000 in
theorem pileLast_walk (m : Nat) (a1 : Option Addr) (len1 cap1 : Nat) (z1 : List Int) (W : World) (w1 : IsRow .i64 W a1 len1 cap1 z1) (hm : (1 : Int) ≤ m) (hm2 : (m : Int) ≤ 256) (hlen : len1 ≤ 200) :
    Calls Try.prog 5 #[.int .i64 m, .slice a1 len1 cap1] W fun e w' => e = .returned (.bool true) ∧ Below W.heap.size W w' := by
  obtain ⟨hl1, hl2⟩ := w1.small
  go_enter Try.func5, Try.ntmps5
  go_wp2_with fail
  with_reducible refine (pile_first _).mono ?_
  rintro e wa ⟨rfl, hb0⟩
  go_wp2_with fail
  with_reducible refine (pile_new m _ hm hm2).mono ?_
  rintro e wb ⟨b, rfl, hP, hB⟩
  have h1 := St.begin hb0 hP hB
  clear hP hB
  go_wp2_with fail
  go_loopw [7] (fun i w => ∃ k : Nat, k ≤ len1 ∧ i = .int .i64 k ∧ St W (Pile b (z1.take (min k m)) m (decide (m < k))) w) (fun i _ => len1 - (intOf i).toNat)
  case atStart => exact ⟨0, Nat.zero_le _, rfl, by simpa using h1⟩
  case round =>
    clear h1
    obtain ⟨k, hk, rfl, hs⟩ := hrel
    by_cases hlt : k < len1
    · obtain ⟨ab, off, x, rfl, hab, hx, hc0⟩ := w1.at_ hlt
      have hc := (hs.below.cell (p := ⟨ab, off + k, none⟩) hab).trans hc0
      clear hc0
      by_cases hkm : k < m
      · have e1 : min k m = k := by omega
        have e2 : decide (m < k) = false := by simp; omega
        rw [e1, e2] at hs
        clear e1 e2
        go_wp2_with fail
        with_reducible refine (hs.call fun S h => pile_push_lt x h (by simp; omega) (by omega)).mono ?_
        rintro e w2 ⟨rfl, h2⟩
        rw [← hx.out] at h2
        clear hs
        go_wp2_with fail
        with_reducible refine (h2.look fun S h => pile_lost h).mono ?_
        rintro e w3 ⟨rfl, rfl⟩
        go_wp2_with fail
        go_round
        case rel =>
          have e1 : min (k + 1) m = k + 1 := by omega
          have e2 : decide (m < k + 1) = false := by simp; omega
          exact ⟨k + 1, by omega, by go_num, by rw [e1, e2]; exact h2⟩
        case measure => simp [intOf]; omega
      · have e1 : min k m = m := by omega
        have hzl : (z1.take m).length = m := by simp; omega
        rw [e1] at hs
        clear e1
        have hk1 : decide (k < m) = false := by simp; omega
        have hk2 : decide (m ≤ k) = true := by simp; omega
        go_wp2_with fail
        with_reducible refine (hs.call fun S h => pile_push_eq x h (by rw [hzl]) (by omega)).mono ?_
        rintro e w2 ⟨rfl, h2⟩
        clear hs hzl
        go_wp2_with fail
        with_reducible refine (h2.look fun S h => pile_lost h).mono ?_
        rintro e w3 ⟨rfl, rfl⟩
        go_wp2_with fail
        go_round
        case rel =>
          have e0 : min (k + 1) m = m := by omega
          have e2 : decide (m < k + 1) = true := by simp; omega
          exact ⟨k + 1, by omega, by go_num, by rw [e0, e2]; exact h2⟩
        case measure => simp [intOf]; omega
    · obtain rfl : k = len1 := by omega
      by_cases hmk : m < k
      all_goals
        have hdd : decide (m < k) = true ∨ decide (m < k) = false := by cases decide (m < k) <;> simp
        first | (have hd : decide (m < k) = true := by simpa using hmk) | (have hd : decide (m < k) = false := by simp; omega)
        rw [hd] at hs
        clear hdd
        go_wp2_with fail
        go_loopw [9] (fun i w => ∃ q : Nat, q ≤ k ∧ q ≤ m ∧ i = .int .i64 ((q : Int) - 1) ∧ St W (Pile b (z1.take q) m _) w) (fun i _ => (intOf i + 1).toNat)
        case atStart => first | exact ⟨m, by omega, by omega, rfl, by rw [show min k m = m by omega] at hs; exact hs⟩ | exact ⟨k, by omega, by omega, rfl, by rw [show min k m = k by omega] at hs; exact hs⟩
        case round =>
          clear hs
          obtain ⟨q, hqk, hqm, rfl, hs⟩ := hrel
          cases q with
          | zero =>
            go_wp2_with fail
            with_reducible refine (hs.look fun S h => pile_pop_none h).mono ?_
            rintro e w3 ⟨rfl, rfl⟩
            go_wp2_with fail
            with_reducible refine (hs.look fun S h => pile_lost h).mono ?_
            rintro e w3 ⟨rfl, rfl⟩
            go_wp2_with fail
            with_reducible refine (hs.call fun S h => pile_found h).mono ?_
            rintro e w3 ⟨rfl, h3⟩
            clear hs
            go_wp2_with fail
            with_reducible refine (pile_first _).mono ?_
            rintro e w4 ⟨rfl, hb4⟩
            have h4 := h3.later hb4
            clear h3 hb4
            go_wp2_with fail
            with_reducible refine (h4.look fun S h => pile_lost h).mono ?_
            rintro e w5 ⟨rfl, rfl⟩
            go_wp2_with fail
            with_reducible refine (h4.look fun S h => pile_len h).mono ?_
            rintro e w5 ⟨rfl, rfl⟩
            go_wp2_with fail
            go_ret
            exact ⟨rfl, h4.below⟩
          | succ q =>
            obtain ⟨ab, off, x, rfl, hab, hx, hc0⟩ := w1.at_ (show q < k by omega)
            go_wp2_with fail
            rw [hx.out] at hs
            with_reducible refine (hs.call fun S h => pile_pop h).mono ?_
            rintro e w2 ⟨rfl, h2⟩
            have hc := (h2.below.cell (p := ⟨ab, off + q, none⟩) hab).trans hc0
            clear hs hc0
            go_wp2_with fail
            go_round
            case rel => exact ⟨q, by omega, by omega, by go_num, h2⟩
            case measure => simp [intOf]
end Go.Proofs.Ytcdmlimhkmbiiaa
