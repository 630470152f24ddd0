/- The walk of CoilKept. -/
import Derived.Test.YtedkdbholfnjkaaCoil2
namespace Go.Proofs.Ytedkdbholfnjkaa
open Go.RowKit

set_option maxHeartbeats 800000 in
theorem coilKept_no (s n : Int) (a2 : Option Addr) (len2 cap2 : Nat) (W : World) (hm : s < 0 ∨ 2048 < s) :
    Calls Try.prog 6 #[.int .i64 s, .int .i64 n, .slice a2 len2 cap2] W fun e w' => e = .returned (.bool true) ∧ Below W.heap.size W w' := by
  go_enter Try.func6, Try.ntmps6
  go_wp2_with fail
  with_reducible refine (coil_first _).mono ?_
  rintro e wa ⟨rfl, hb0⟩
  go_wp2_with fail
  with_reducible refine (coil_new_no s _ hm).mono ?_
  rintro e wb ⟨rfl, rfl⟩
  clear hm
  go_wp2_with fail
  with_reducible refine (coil_first _).mono ?_
  rintro e wa ⟨rfl, hb1⟩
  go_wp2_with fail
  go_ret
  exact ⟨rfl, hb0.trans (hb1.mono hb0.size)⟩

set_option maxRecDepth 100000 in
set_option maxHeartbeats 1600000 in
theorem coilKept_out (s n : Int) (a2 : Option Addr) (len2 cap2 : Nat) (W : World) (h0 : 0 ≤ s) (h1 : s ≤ 2048) (hm : 2000 < s ∨ n < 1 ∨ s < n ∨ 100 < (len2 : Int)) :
    Calls Try.prog 6 #[.int .i64 s, .int .i64 n, .slice a2 len2 cap2] W fun e w' => e = .returned (.bool true) ∧ Below W.heap.size W w' := by
  go_enter Try.func6, Try.ntmps6
  go_wp2_with fail
  with_reducible refine (coil_first _).mono ?_
  rintro e wa ⟨rfl, hb0⟩
  go_wp2_with fail
  with_reducible refine (coil_new s _ h0 h1).mono ?_
  rintro e wb ⟨b, rfl, hs⟩
  have hs := hs.onward hb0
  go_wp2_with fail
  all_goals
    with_reducible refine (coil_first _).mono ?_
    rintro e wa ⟨rfl, hb1⟩
    go_wp2_with fail
    go_ret
    exact ⟨rfl, (hs.later hb1).below⟩

set_option maxRecDepth 100000 in
set_option maxHeartbeats 3200000 in
theorem coilKept_walk (s n : Int) (a2 : Option Addr) (len2 cap2 : Nat) (z2 : List Int) (W : World) (w2 : IsRow .i64 W a2 len2 cap2 z2) (h0 : 0 ≤ s) (h1 : s ≤ 2000) (hn : 1 ≤ n) (hns : n ≤ s) (hl : (len2 : Int) ≤ 100) :
    Calls Try.prog 6 #[.int .i64 s, .int .i64 n, .slice a2 len2 cap2] W fun e w' => e = .returned (.bool true) ∧ Below W.heap.size W w' := by
  have g0 : Good s cNew := good_new (by omega) (by omega)
  have g1 : Good s ⟨false, n, 0, 0⟩ := by simp [Good, Cs.here]; omega
  have gg : ∀ f, 0 ≤ f → f ≤ s - n → Good s ⟨true, n, f, n⟩ := fun f _ _ => by simp [Good, Cs.here]; omega
  have r0 : n ≤ cNew.room s := by simp [Cs.room, cNew, Cs.here]; omega
  have ge : ∀ f, 0 ≤ f → f ≤ s - n → Good s ⟨true, n, f + n, 0⟩ := fun f _ _ => by simp [Good, Cs.here]; omega
  have R0 := Lib.hid r0
  have GG := Lib.hid gg
  have GE := Lib.hid ge
  clear r0 gg ge
  go_enter Try.func6, Try.ntmps6
  go_wp2_with fail
  with_reducible refine (coil_first _).mono ?_
  rintro e wa ⟨rfl, hb0⟩
  go_wp2_with fail
  with_reducible refine (coil_new s _ (by omega) (by omega)).mono ?_
  rintro e wb ⟨b, rfl, hs⟩
  have hs := hs.onward hb0
  go_wp2_with fail
  with_reducible refine (hs.call fun S h => coil_take n g0 hn R0.out h).mono ?_
  rintro e w3 ⟨rfl, h3⟩
  have h4 : St W (Coil b s ⟨false, n, 0, 0⟩) w3 := by
    refine h3.conv fun S w h => ?_
    rw [show cNew.lay n = ⟨false, n, 0, 0⟩ by simp [Cs.lay, cNew]] at h
    exact h
  clear hs h3 hb0
  go_wp2_with fail
  with_reducible refine (h4.call fun S h => coil_turn g1 rfl h).mono ?_
  rintro e w5 ⟨rfl, h5⟩
  clear h4 g1 g0 R0
  go_wp2_with fail
  go_loopw [9, 10] (fun v k w => ∃ (q : Nat) (f : Int), q ≤ len2 ∧ k = .int .i64 q ∧ v = .int .i64 f ∧ 0 ≤ f ∧ f ≤ s - n ∧ St W (Coil b s ⟨true, n, f, n⟩) w) (fun _ k _ => len2 - (intOf k).toNat)
  case atStart => exact ⟨0, 0, Nat.zero_le _, rfl, rfl, by omega, by omega, h5⟩
  case round =>
    clear h5
    obtain ⟨q, f, hq, rfl, rfl, hf0, hf1, hs⟩ := hrel
    have hG := GG.out f hf0 hf1
    by_cases hlt : q < len2
    · obtain ⟨ab, off, x, rfl, hab, hx, hc0⟩ := w2.at_ hlt
      clear hx
      have hcl := (hs.below.cell (p := ⟨ab, off + q, none⟩) hab).trans hc0
      have hroom : Cs.room ⟨true, n, f, n⟩ s = s - f - n := rfl
      by_cases hx : 1 ≤ x ∧ x ≤ s - f - n
      · obtain ⟨hx1, hx2⟩ := hx
        go_wp2_with fail
        with_reducible refine (hs.call fun S h => coil_take x hG hx1 (by rw [hroom]; exact hx2) h).mono ?_
        rintro e w3 ⟨rfl, h3⟩
        rw [show Cs.here ⟨true, n, f, n⟩ = f from rfl]
        clear hs hcl
        have hcl := (h3.below.cell (p := ⟨ab, off + q, none⟩) hab).trans hc0
        go_wp2_with fail
        go_round
        case rel => exact ⟨q + 1, f + x, by omega, by go_num, rfl, by omega, by omega, h3⟩
        case measure => simp [intOf]; omega
      · go_wp2_with fail
        with_reducible refine (hs.call fun S h => coil_take_no x hG (by rw [hroom]; omega) h).mono ?_
        rintro e w3 ⟨rfl, h3⟩
        clear hs hcl
        have hcl := (h3.below.cell (p := ⟨ab, off + q, none⟩) hab).trans hc0
        by_cases hx1 : 1 ≤ x
        · have hx2 : s - n - f < x := by omega
          clear hx hroom
          go_wp2_with fail
          go_round
          case rel => exact ⟨q + 1, f, by omega, by go_num, rfl, by omega, by omega, h3⟩
          case measure => simp [intOf]; omega
        · clear hx hroom
          go_wp2_with fail
          go_round
          case rel => exact ⟨q + 1, f, by omega, by go_num, rfl, by omega, by omega, h3⟩
          case measure => simp [intOf]; omega
    · obtain rfl : q = len2 := by omega
      go_wp2_with fail
      with_reducible refine (hs.call fun S h => coil_copy n hG hn (Int.le_refl _) h).mono ?_
      rintro e w3 ⟨rfl, h3⟩
      rw [show Cs.here ⟨true, n, f, n⟩ = f from rfl]
      have h4 : St W (Coil b s ⟨true, n, f + n, 0⟩) w3 := by
        refine h3.conv fun S w h => ?_
        rw [show (Cs.skip ⟨true, n, f, n⟩ n).lay n = ⟨true, n, f + n, 0⟩ by simp [Cs.skip, Cs.lay]] at h
        exact h
      clear hs h3
      have hG := GE.out f hf0 hf1
      go_wp2_with fail
      with_reducible refine (h4.look fun S h => coil_copy_no 1 (.inr (by show (0 : Int) < 1; omega)) h).mono ?_
      rintro e w5 ⟨rfl, rfl⟩
      go_wp2_with fail
      with_reducible refine (coil_first _).mono ?_
      rintro e w6 ⟨rfl, hb1⟩
      have h7 := h4.later hb1
      clear h4 hb1
      go_wp2_with fail
      with_reducible refine (h7.look fun S h => coil_left h).mono ?_
      rintro e w5 ⟨rfl, rfl⟩
      go_wp2_with fail
      with_reducible refine (h7.look fun S h => coil_current h).mono ?_
      rintro e w5 ⟨rfl, rfl⟩
      rw [show cN true = 1 from rfl]
      go_wp2_with fail
      with_reducible refine (h7.look fun S h => coil_used1 h).mono ?_
      rintro e w5 ⟨rfl, rfl⟩
      go_wp2_with fail
      with_reducible refine (h7.call fun S h => coil_done rfl h).mono ?_
      rintro e w5 ⟨rfl, h8⟩
      clear h7
      go_wp2_with fail
      go_ret
      exact ⟨rfl, h8.below⟩

theorem coilKept_all (s n : Int) (a2 : Option Addr) (len2 cap2 : Nat) (z2 : List Int) (W : World) (w2 : IsRow .i64 W a2 len2 cap2 z2) :
    Calls Try.prog 6 #[.int .i64 s, .int .i64 n, .slice a2 len2 cap2] W fun e w' => e = .returned (.bool true) ∧ Below W.heap.size W w' := by
  by_cases hm : s < 0 ∨ 2048 < s
  · exact coilKept_no s n a2 len2 cap2 W hm
  by_cases hm2 : 2000 < s ∨ n < 1 ∨ s < n ∨ 100 < (len2 : Int)
  · exact coilKept_out s n a2 len2 cap2 W (by omega) (by omega) hm2
  exact coilKept_walk s n a2 len2 cap2 z2 W w2 (by omega) (by omega) (by omega) (by omega) (by omega)
end Go.Proofs.Ytedkdbholfnjkaa
