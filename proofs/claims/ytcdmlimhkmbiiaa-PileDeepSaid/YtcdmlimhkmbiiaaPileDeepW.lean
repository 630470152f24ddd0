import Derived.Test.YtcdmlimhkmbiiaaPileLaws
namespace Go.Proofs.Ytcdmlimhkmbiiaa
open Go.RowKit

set_option maxHeartbeats 800000 in
theorem pileDeep_no (m : Int) (a1 : Option Addr) (len1 cap1 : Nat) (W : World) (hm : m < 1 ∨ 256 < m) :
    Calls Try.prog 6 #[.int .i64 m, .slice a1 len1 cap1] W fun e w' => e = .returned (.bool true) ∧ Below W.heap.size W w' := by
  rcases hm with hm | hm
  · go_enter Try.func6, Try.ntmps6
    go_wp2_with fail
    with_reducible refine (pile_first _).mono ?_
    rintro e wa ⟨rfl, hb0⟩
    go_wp2_with fail
    with_reducible refine (pile_new_no m _ (.inl hm)).mono ?_
    rintro e wb ⟨rfl, rfl⟩
    go_wp2_with fail
    with_reducible refine (pile_first _).mono ?_
    rintro e wa ⟨rfl, hb1⟩
    go_wp2_with fail
    go_ret
    exact ⟨rfl, hb0.trans (hb1.mono hb0.size)⟩
  · have hm' : ¬ m < 1 := by omega
    go_enter Try.func6, Try.ntmps6
    go_wp2_with fail
    with_reducible refine (pile_first _).mono ?_
    rintro e wa ⟨rfl, hb0⟩
    go_wp2_with fail
    with_reducible refine (pile_new_no m _ (.inr hm)).mono ?_
    rintro e wb ⟨rfl, rfl⟩
    go_wp2_with fail
    with_reducible refine (pile_first _).mono ?_
    rintro e wa ⟨rfl, hb1⟩
    go_wp2_with fail
    go_ret
    exact ⟨rfl, hb0.trans (hb1.mono hb0.size)⟩

set_option maxHeartbeats 800000 in
theorem pileDeep_long (m : Int) (a1 : Option Addr) (len1 cap1 : Nat) (W : World) (hm : 1 ≤ m) (hm2 : m ≤ 256) (hlen : 200 < len1) :
    Calls Try.prog 6 #[.int .i64 m, .slice a1 len1 cap1] W fun e w' => e = .returned (.bool true) ∧ Below W.heap.size W w' := by
  go_enter Try.func6, Try.ntmps6
  go_wp2_with fail
  with_reducible refine (pile_first _).mono ?_
  rintro e wa ⟨rfl, hb0⟩
  go_wp2_with fail
  with_reducible refine (pile_new m _ hm hm2).mono ?_
  rintro e wb ⟨b, rfl, hP, hB⟩
  have h1 := St.begin hb0 hP hB
  clear hP hB
  go_wp2_with fail
  with_reducible refine (pile_first _).mono ?_
  rintro e wa ⟨rfl, hb1⟩
  go_wp2_with fail
  go_ret
  exact ⟨rfl, (h1.later hb1).below⟩

/-- The numbers 0, 1, .. below k. -/
def upTo (k : Nat) : List Int := (List.range k).map Int.ofNat
theorem upTo_succ (k : Nat) : upTo (k + 1) = upTo k ++ [(k : Int)] := by simp [upTo, List.range_succ]
theorem upTo_len (k : Nat) : (upTo k).length = k := by simp [upTo]

set_option maxHeartbeats 1600000 in
theorem pileDeep_walk (m : Nat) (a1 : Option Addr) (len1 cap1 : Nat) (z1 : List Int) (W : World) (w1 : IsRow .i64 W a1 len1 cap1 z1) (hm : (1 : Int) ≤ m) (hm2 : (m : Int) ≤ 256) (hlen : len1 ≤ 200) :
    Calls Try.prog 6 #[.int .i64 m, .slice a1 len1 cap1] W fun e w' => e = .returned (.bool true) ∧ Below W.heap.size W w' := by
  obtain ⟨hl1, hl2⟩ := w1.small
  go_enter Try.func6, Try.ntmps6
  go_wp2_with fail
  with_reducible refine (pile_first _).mono ?_
  rintro e wa ⟨rfl, hb0⟩
  go_wp2_with fail
  with_reducible refine (pile_new m _ hm hm2).mono ?_
  rintro e wb ⟨b, rfl, hP, hB⟩
  have h1 := St.begin hb0 hP hB
  clear hP hB
  go_wp2_with fail
  go_loopw [7] (fun i w => ∃ k : Nat, k ≤ len1 ∧ i = .int .i64 k ∧ St W (Pile b [] m false) w) (fun i _ => len1 - (intOf i).toNat)
  case atStart => exact ⟨0, Nat.zero_le _, rfl, by simpa using h1⟩
  case round =>
    clear h1
    obtain ⟨k, hk, rfl, hs⟩ := hrel
    by_cases hlt : k < len1
    · obtain ⟨ab, off, x, rfl, hab, hx, hc0⟩ := w1.at_ hlt
      have hc := (hs.below.cell (p := ⟨ab, off + k, none⟩) hab).trans hc0
      go_wp2_with fail
      with_reducible refine (hs.call fun S h => pile_push_lt x h (by simp; omega) (by omega)).mono ?_
      rintro e w2 ⟨rfl, h2⟩
      clear hs
      go_wp2_with fail
      with_reducible refine (h2.call fun S h => pile_pop (xs := []) h).mono ?_
      rintro e w3 ⟨rfl, h3⟩
      clear h2 hc
      have hc := (h3.below.cell (p := ⟨ab, off + k, none⟩) hab).trans hc0
      go_wp2_with fail
      with_reducible refine (h3.look fun S h => pile_lost h).mono ?_
      rintro e w4 ⟨rfl, rfl⟩
      go_wp2_with fail
      with_reducible refine (h3.look fun S h => pile_len h).mono ?_
      rintro e w4 ⟨rfl, rfl⟩
      go_wp2_with fail
      go_round
      case rel => exact ⟨k + 1, by omega, by go_num, h3⟩
      case measure => simp [intOf]; omega
    · obtain rfl : k = len1 := by omega
      go_wp2_with fail
      go_loopw [10] (fun i w => ∃ q : Nat, q ≤ m ∧ i = .int .i64 q ∧ St W (Pile b (upTo q) m false) w) (fun i _ => m - (intOf i).toNat)
      case atStart => exact ⟨0, Nat.zero_le _, rfl, hs⟩
      case round =>
        clear hs
        obtain ⟨q, hq, rfl, hs⟩ := hrel
        by_cases hlt : q < m
        · have hql := upTo_len q
          go_wp2_with fail
          with_reducible refine (hs.call fun S h => pile_push_lt q h (by rw [hql]; omega) (by omega)).mono ?_
          rintro e w2 ⟨rfl, h2⟩
          rw [← upTo_succ] at h2
          clear hs hql
          go_wp2_with fail
          with_reducible refine (h2.look fun S h => pile_lost h).mono ?_
          rintro e w3 ⟨rfl, rfl⟩
          go_wp2_with fail
          go_round
          case rel => exact ⟨q + 1, by omega, by go_num, h2⟩
          case measure => simp [intOf]; omega
        · obtain rfl : q = m := by omega
          obtain ⟨r, rfl⟩ : ∃ r, q = r + 1 := ⟨q - 1, by omega⟩
          clear hlt
          go_wp2_with fail
          with_reducible refine (hs.call fun S h => pile_push_eq 7 h (by rw [upTo_len]) hm2).mono ?_
          rintro e w2 ⟨rfl, h2⟩
          clear hs
          go_wp2_with fail
          with_reducible refine (h2.look fun S h => pile_lost h).mono ?_
          rintro e w3 ⟨rfl, rfl⟩
          go_wp2_with fail
          with_reducible refine (h2.call fun S h => pile_found h).mono ?_
          rintro e w3 ⟨rfl, h3⟩
          clear h2
          go_wp2_with fail
          with_reducible refine (h3.look fun S h => pile_lost h).mono ?_
          rintro e w4 ⟨rfl, rfl⟩
          go_wp2_with fail
          rw [upTo_succ] at h3
          with_reducible refine (h3.call fun S h => pile_pop h).mono ?_
          rintro e w4 ⟨rfl, h4⟩
          clear h3
          go_wp2_with fail
          with_reducible refine (pile_first _).mono ?_
          rintro e w5 ⟨rfl, hb5⟩
          have h5 := h4.later hb5
          clear h4 hb5
          have hrl : (upTo r).length = r := upTo_len r
          go_wp2_with fail
          with_reducible refine (h5.call fun S h => pile_push_lt 8 h (by rw [hrl]; omega) hm2).mono ?_
          rintro e w6 ⟨rfl, h6⟩
          clear h5
          go_wp2_with fail
          with_reducible refine (h6.look fun S h => pile_lost h).mono ?_
          rintro e w7 ⟨rfl, rfl⟩
          go_wp2_with fail
          go_ret
          exact ⟨rfl, h6.below⟩
end Go.Proofs.Ytcdmlimhkmbiiaa
