/- The walk of CoilTurns. -/
import Derived.Test.YtedkdbholfnjkaaCoil2
import Derived.Test.YtedkdbholfnjkaaArgs
namespace Go.Proofs.Ytedkdbholfnjkaa
open Go.RowKit

set_option maxHeartbeats 800000 in
theorem coilTurns_no (s n : Int) (a2 : Option Addr) (len2 cap2 : Nat) (W : World) (hm : s < 0 ∨ 2048 < s) :
    Calls Try.prog 5 #[.int .i64 s, .int .i64 n, .slice a2 len2 cap2] W fun e w' => e = .returned (.bool true) ∧ Below W.heap.size W w' := by
  go_enter Try.func5, Try.ntmps5
  go_wp2_with fail
  with_reducible refine (coil_first _).mono ?_
  rintro e wa ⟨rfl, hb0⟩
  go_wp2_with fail
  with_reducible refine (coil_new_no s _ hm).mono ?_
  rintro e wb ⟨rfl, rfl⟩
  clear hm
  go_wp2_with fail
  with_reducible refine (coil_first _).mono ?_
  rintro e wa ⟨rfl, hb1⟩
  go_wp2_with fail
  go_ret
  exact ⟨rfl, hb0.trans (hb1.mono hb0.size)⟩

set_option maxRecDepth 100000 in
set_option maxHeartbeats 1600000 in
theorem coilTurns_out (s n : Int) (a2 : Option Addr) (len2 cap2 : Nat) (W : World) (h0 : 0 ≤ s) (h1 : s ≤ 2048) (hm : n < 1 ∨ s < n ∨ 40 < (len2 : Int)) :
    Calls Try.prog 5 #[.int .i64 s, .int .i64 n, .slice a2 len2 cap2] W fun e w' => e = .returned (.bool true) ∧ Below W.heap.size W w' := by
  go_enter Try.func5, Try.ntmps5
  go_wp2_with fail
  with_reducible refine (coil_first _).mono ?_
  rintro e wa ⟨rfl, hb0⟩
  go_wp2_with fail
  with_reducible refine (coil_new s _ h0 h1).mono ?_
  rintro e wb ⟨b, rfl, hs⟩
  have hs := hs.onward hb0
  go_wp2_with fail
  all_goals
    with_reducible refine (coil_first _).mono ?_
    rintro e wa ⟨rfl, hb1⟩
    go_wp2_with fail
    go_ret
    exact ⟨rfl, (hs.later hb1).below⟩

def tS (cur : Bool) (u k : Int) : Cs := if cur then ⟨cur, 0, u, k⟩ else ⟨cur, u, 0, k⟩
def tD (cur : Bool) (u k : Int) : Cs := if cur then ⟨cur, u, 0, k⟩ else ⟨cur, 0, u, k⟩
section
variable {b : Nat} {s u k : Int} {c : Cs} {cur : Bool} {W w : World}
theorem tS_good (h0 : 0 ≤ s) (h1 : s ≤ 2048) (h2 : 0 ≤ u) (h3 : u ≤ s) : Good s (tS cur u 0) := by cases cur <;> simp [tS, Good, Cs.here] <;> omega
theorem tS_turn : (tS cur u 0).turn = tD (!cur) u u := by cases cur <;> rfl
theorem tD_good (h0 : 0 ≤ s) (h1 : s ≤ 2048) (h2 : 0 ≤ u) (h3 : u ≤ s) : Good s (tD cur u u) := by cases cur <;> simp [tD, Good, Cs.here] <;> omega
theorem tD_skip : (tD cur u u).skip u = tD cur u 0 := by cases cur <;> simp [tD, Cs.skip]
theorem tD_done : (tD cur u 0).done = tS cur 0 0 := by cases cur <;> rfl
theorem tD_lay : ((tD cur u u).skip u).lay u = ⟨cur, u, u, 0⟩ := by cases cur <;> simp [tD, Cs.skip, Cs.lay]
theorem lay_done : Cs.done ⟨cur, u, u, 0⟩ = tS cur u 0 := by cases cur <;> rfl
theorem tS_used (h : St W (Coil b s (tS cur u 0)) w) : Calls Try.prog 21 #[.pointer (some ⟨b, 0, none⟩), .int .i64 (cN cur)] w fun e w' => e = .returned (.int .i64 u) ∧ w = w' := by
  cases cur
  · exact h.look fun S h => coil_used0 h
  · exact h.look fun S h => coil_used1 h
theorem tS_used' (h : St W (Coil b s (tS cur u 0)) w) : Calls Try.prog 21 #[.pointer (some ⟨b, 0, none⟩), .int .i64 (cN (!cur))] w fun e w' => e = .returned (.int .i64 0) ∧ w = w' := by
  cases cur
  · exact h.look fun S h => coil_used1 h
  · exact h.look fun S h => coil_used0 h
theorem tS_there : (tS cur u 0).there = 0 := by cases cur <;> rfl
theorem tS_here : (tS cur u k).here = u := by cases cur <;> rfl
theorem tD_here : (tD cur u k).here = 0 := by cases cur <;> rfl
theorem tS_cur : (tS cur u k).cur = cur := by cases cur <;> rfl
theorem tD_cur : (tD cur u k).cur = cur := by cases cur <;> rfl
theorem tS_k : (tS cur u k).k = k := by cases cur <;> rfl
theorem tD_k : (tD cur u k).k = k := by cases cur <;> rfl
theorem tD_there : (tD cur u k).there = u := by cases cur <;> rfl
theorem cN_not : cN (!cur) = 1 - cN cur := by cases cur <;> rfl
end

set_option maxRecDepth 100000 in
set_option maxHeartbeats 6400000 in
theorem coilTurns_walk (s n : Int) (a2 : Option Addr) (len2 cap2 : Nat) (z2 : List Bool) (W : World) (w2 : IsBools W a2 len2 z2) (h0 : 0 ≤ s) (h1 : s ≤ 2048) (hn : 1 ≤ n) (hns : n ≤ s) (hl : (len2 : Int) ≤ 40) :
    Calls Try.prog 5 #[.int .i64 s, .int .i64 n, .slice a2 len2 cap2] W fun e w' => e = .returned (.bool true) ∧ Below W.heap.size W w' := by
  have g0 : Good s cNew := good_new (by omega) (by omega)
  have R0 := Lib.hid (show n ≤ cNew.room s by simp [Cs.room, cNew, Cs.here]; omega)
  go_enter Try.func5, Try.ntmps5
  go_wp2_with fail
  with_reducible refine (coil_first _).mono ?_
  rintro e wa ⟨rfl, hb0⟩
  go_wp2_with fail
  with_reducible refine (coil_new s _ (by omega) (by omega)).mono ?_
  rintro e wb ⟨b, rfl, hs⟩
  have hs := hs.onward hb0
  go_wp2_with fail
  with_reducible refine (hs.call fun S h => coil_take n g0 hn R0.out h).mono ?_
  rintro e w3 ⟨rfl, h3⟩
  have h4 : St W (Coil b s (tS false n 0)) w3 := by
    refine h3.conv fun S w h => ?_
    rw [show cNew.lay n = tS false n 0 by simp [Cs.lay, cNew, tS]] at h
    exact h
  clear hs h3 hb0 g0 R0
  go_wp2_with fail
  go_loopw [9, 12] (fun v k w => ∃ (q : Nat) (u : Int) (cur : Bool), q ≤ len2 ∧ k = .int .i64 q ∧ v = .int .i64 u ∧ 0 ≤ u ∧ u ≤ s ∧ St W (Coil b s (tS cur u 0)) w) (fun _ k _ => len2 - (intOf k).toNat)
  case atStart => exact ⟨0, n, false, Nat.zero_le _, rfl, rfl, by omega, by omega, h4⟩
  case round =>
    clear h4
    obtain ⟨q, u, cur, hq, rfl, rfl, hu0, hu1, hs⟩ := hrel
    by_cases hlt : q < len2
    · have hG : Good s (tS cur u 0) := tS_good h0 h1 hu0 hu1
      have hG2 : Good s (tD (!cur) u u) := tD_good h0 h1 hu0 hu1
      have C0 : 0 ≤ cN cur := by cases cur <;> decide
      have C1 : cN cur ≤ 1 := by cases cur <;> decide
      go_wp2_with fail
      with_reducible refine (hs.look fun S h => coil_current h).mono ?_
      rintro e w5 ⟨rfl, rfl⟩
      rw [tS_cur]
      go_wp2_with fail
      with_reducible refine (hs.call fun S h => coil_turn hG tS_there h).mono ?_
      rintro e w3 ⟨rfl, h3⟩
      rw [tS_turn] at h3
      clear hs hG
      go_wp2_with fail
      with_reducible refine (h3.look fun S h => coil_current h).mono ?_
      rintro e w5 ⟨rfl, rfl⟩
      rw [tD_cur, cN_not]
      go_wp2_with fail
      with_reducible refine (h3.look fun S h => coil_left h).mono ?_
      rintro e w5 ⟨rfl, rfl⟩
      rw [tD_k]
      go_wp2_with fail
      by_cases hz : u = 0
      · subst hz
        with_reducible refine (h3.call fun S h => coil_turn hG2 tD_there h).mono ?_
        rintro e w5 ⟨rfl, h5⟩
        rw [show (tD (!cur) 0 0).turn = tS cur 0 0 by cases cur <;> rfl] at h5
        clear h3 hG2
        go_wp2_with fail
        with_reducible refine (coil_first _).mono ?_
        rintro e w6 ⟨rfl, hb1⟩
        have h7 := h5.later hb1
        clear h5 hb1
        go_wp2_with fail
        with_reducible refine (h7.call fun S h => coil_done tS_k h).mono ?_
        rintro e w5 ⟨rfl, h8⟩
        clear h7
        go_wp2_with fail
        go_ret
        exact ⟨rfl, h8.below⟩
      · have hup : 0 < u := by omega
        clear hz
        with_reducible refine (h3.call fun S h => coil_turn_no hG2 (by rw [tD_there]; exact hup) h).mono ?_
        rintro e w5 ⟨rfl, h5⟩
        clear h3
        go_wp2_with fail
        with_reducible refine (h5.look fun S h => coil_done_no (by rw [tD_k]; exact hup) h).mono ?_
        rintro e w6 ⟨rfl, rfl⟩
        obtain ⟨ab, off, rfl, hab, hc0⟩ := w2.2.2 q hlt
        have hcl := (h5.below.cell (p := ⟨ab, off + q, none⟩) hab).trans hc0
        clear hc0
        generalize z2.getD q false = sk at hcl
        cases sk
        · go_wp2_with fail
          with_reducible refine (h5.call fun S h => coil_copy u hG2 (by omega) (by rw [tD_k]; omega) h).mono ?_
          rintro e w6 ⟨rfl, h6⟩
          rw [tD_lay] at h6
          rw [tD_here]
          clear h5 hcl
          go_wp2_with fail
          with_reducible refine (h6.call fun S h => coil_done rfl h).mono ?_
          rintro e w7 ⟨rfl, h7⟩
          rw [lay_done] at h7
          clear h6
          go_wp2_with fail
          have hU := tS_used' h7
          rw [Bool.not_not] at hU
          with_reducible refine hU.mono ?_
          rintro e w8 ⟨rfl, rfl⟩
          clear hU
          go_wp2_with fail
          rw [← cN_not]
          with_reducible refine (tS_used h7).mono ?_
          rintro e w8 ⟨rfl, rfl⟩
          go_wp2_with fail
          with_reducible refine (h7.call fun S h => coil_room (tS_good h0 h1 hu0 hu1) h).mono ?_
          rintro e w8 ⟨rfl, h8⟩
          rw [show (tS (!cur) u 0).room s = s - u by unfold Cs.room; rw [tS_here, tS_k]; omega]
          clear h7
          go_wp2_with fail
          go_round
          case rel => exact ⟨q + 1, u, _, by omega, by go_num, rfl, by omega, by omega, h8⟩
          case measure => simp [intOf]; omega
        · go_wp2_with fail
          with_reducible refine (h5.call fun S h => coil_skip u hG2 (by omega) (by rw [tD_k]; omega) h).mono ?_
          rintro e w6 ⟨rfl, h6⟩
          rw [tD_skip] at h6
          clear h5 hcl
          go_wp2_with fail
          with_reducible refine (h6.call fun S h => coil_done tD_k h).mono ?_
          rintro e w7 ⟨rfl, h7⟩
          rw [tD_done] at h7
          clear h6
          go_wp2_with fail
          have hU := tS_used' h7
          rw [Bool.not_not] at hU
          with_reducible refine hU.mono ?_
          rintro e w8 ⟨rfl, rfl⟩
          clear hU
          go_wp2_with fail
          rw [← cN_not]
          with_reducible refine (tS_used h7).mono ?_
          rintro e w8 ⟨rfl, rfl⟩
          go_wp2_with fail
          with_reducible refine (h7.call fun S h => coil_room (tS_good h0 h1 (by omega) (by omega)) h).mono ?_
          rintro e w8 ⟨rfl, h8⟩
          rw [show (tS (!cur) 0 0).room s = s - 0 by unfold Cs.room; rw [tS_here, tS_k]; omega]
          clear h7
          go_wp2_with fail
          go_round
          case rel => exact ⟨q + 1, 0, _, by omega, by go_num, rfl, by omega, by omega, h8⟩
          case measure => simp [intOf]; omega
    · obtain rfl : q = len2 := by omega
      go_wp2_with fail
      with_reducible refine (coil_first _).mono ?_
      rintro e w6 ⟨rfl, hb1⟩
      go_wp2_with fail
      go_ret
      exact ⟨rfl, (hs.later hb1).below⟩

theorem coilTurns_all (s n : Int) (a2 : Option Addr) (len2 cap2 : Nat) (z2 : List Bool) (W : World) (w2 : IsBools W a2 len2 z2) :
    Calls Try.prog 5 #[.int .i64 s, .int .i64 n, .slice a2 len2 cap2] W fun e w' => e = .returned (.bool true) ∧ Below W.heap.size W w' := by
  by_cases hm : s < 0 ∨ 2048 < s
  · exact coilTurns_no s n a2 len2 cap2 W hm
  by_cases hm2 : n < 1 ∨ s < n ∨ 40 < (len2 : Int)
  · exact coilTurns_out s n a2 len2 cap2 W (by omega) (by omega) hm2
  exact coilTurns_walk s n a2 len2 cap2 z2 W w2 (by omega) (by omega) (by omega) (by omega) (by omega)
end Go.Proofs.Ytedkdbholfnjkaa
