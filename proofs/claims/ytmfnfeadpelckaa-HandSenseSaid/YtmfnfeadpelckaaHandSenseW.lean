/- The walk of HandSense. -/
import Derived.Test.YtmfnfeadpelckaaHand3
namespace Go.Proofs.Ytmfnfeadpelckaa
open Go.RowKit
section
variable {bh g n : Nat} {st ct : Int} {sn : Bool} {own : Nat → Int} {S : Nat → Prop} {w w' : World}
theorem hand_join0 (hn0 : 0 < n) (hn : n ≤ 16) (ho : own 0 = -1) (h0 : 0 ≤ ct) (h1 : ct ≤ 1000000) (h : (Hnd bh g n st sn own ct).at_ S w) :
    Calls Try.prog 9 #[.pointer (some ⟨bh, 0, none⟩), .int .i64 0] w fun e w' => e = .returned (.tuple #[.int .i64 st, .bool sn, .bool true]) ∧ Goes (Hnd bh g n st sn (setI own 0 st) (ct + 1)) S w w' := hand_join 0 hn0 hn ho h0 h1 h
theorem hand_join_no0 (hn0 : 0 < n) (hn : n ≤ 16) (ho : own 0 ≠ -1) (h0 : 0 ≤ ct) (h1 : ct ≤ 1000000) (h : (Hnd bh g n st sn own ct).at_ S w) :
    Calls Try.prog 9 #[.pointer (some ⟨bh, 0, none⟩), .int .i64 0] w fun e w' => e = .returned (.tuple #[.int .i64 0, .bool false, .bool false]) ∧ Goes (Hnd bh g n st sn own (ct + 1)) S w w' := hand_join_no 0 hn0 hn ho h0 h1 h
theorem hand_leave0 (hn0 : 0 < n) (hn : n ≤ 16) (ho : own 0 ≠ -1) (h0 : 0 ≤ ct) (h1 : ct ≤ 1000000) (h : (Hnd bh g n st sn own ct).at_ S w) :
    Calls Try.prog 15 #[.pointer (some ⟨bh, 0, none⟩), .int .i64 0] w fun e w' => e = .returned (.bool true) ∧ Goes (Hnd bh g n st sn (setI own 0 (-1)) (ct + 1)) S w w' := hand_leave 0 hn0 hn ho h0 h1 h
theorem setI_same {m : Nat → Int} {j : Nat} {x : Int} : setI m j x j = x := by simp [setI]
end

set_option maxRecDepth 100000 in
set_option maxHeartbeats 1600000 in
theorem handSense_out (a0 a1 : Option Addr) (len0 cap0 len1 cap1 : Nat) (W : World) (hm : 200 < (len0 : Int) ∨ (len1 : Int) < len0) :
    Calls Try.prog 4 #[.slice a0 len0 cap0, .slice a1 len1 cap1] W fun e w' => e = .returned (.bool true) ∧ Below W.heap.size W w' := by
  go_enter Try.func4, Try.ntmps4
  go_wp2_with fail
  with_reducible refine (hand_first _).mono ?_
  rintro e wa ⟨rfl, hb0⟩
  go_wp2_with fail
  with_reducible refine (hand_newI 1 _ (by omega) (by omega)).mono ?_
  rintro e wb ⟨bh, g, rfl, hs⟩
  have hs := hs.onward hb0
  go_wp2_with fail
  all_goals
    with_reducible refine (hand_first _).mono ?_
    rintro e wa ⟨rfl, hb1⟩
    go_wp2_with fail
    go_ret
    exact ⟨rfl, (hs.later hb1).below⟩

set_option maxRecDepth 100000 in
set_option maxHeartbeats 3200000 in
theorem handSense_walk (a0 a1 : Option Addr) (len0 cap0 len1 cap1 : Nat) (z0 : List Int) (z1 : List Bool) (W : World) (w0 : IsRow .i64 W a0 len0 cap0 z0) (w1 : IsBools W a1 len1 z1)
    (h200 : (len0 : Int) ≤ 200) (hll : len0 ≤ len1) :
    Calls Try.prog 4 #[.slice a0 len0 cap0, .slice a1 len1 cap1] W fun e w' => e = .returned (.bool true) ∧ Below W.heap.size W w' := by
  have hl1 := w1.1
  have hdl : decide (len1 < len0) = false := by simp; omega
  go_enter Try.func4, Try.ntmps4
  go_wp2_with fail
  with_reducible refine (hand_first _).mono ?_
  rintro e wa ⟨rfl, hb0⟩
  go_wp2_with fail
  with_reducible refine (hand_newI 1 _ (by omega) (by omega)).mono ?_
  rintro e wb ⟨bh, g, rfl, hs⟩
  have hs := hs.onward hb0
  clear hb0
  rw [show Int.toNat 1 = 1 from rfl] at hs
  go_wp2_with fail
  clear hdl
  go_loopw [7, 8, 9] (fun u v k w => ∃ (q : Nat) (st : Int) (sn : Bool), q ≤ len0 ∧ k = .int .i64 q ∧ u = .int .i64 st ∧ v = .bool sn ∧ 0 ≤ st ∧ st ≤ 4 ∧ St W (Hnd bh g 1 st sn gone (2 * (q : Int))) w) (fun _ _ k _ => len0 - (intOf k).toNat)
  case atStart => exact ⟨0, 0, false, Nat.zero_le _, rfl, rfl, rfl, by omega, by omega, hs⟩
  case round =>
    clear hs
    obtain ⟨q, st, sn, hq, rfl, rfl, rfl, hs0, hs4, hs⟩ := hrel
    by_cases hlt : q < len0
    · obtain ⟨ab, off, x, rfl, hab, hx, hc0⟩ := w0.at_ hlt
      clear hx
      obtain ⟨ab1, off1, rfl, hab1, hc1⟩ := w1.2.2 q (by omega)
      generalize z1.getD q false = fl at hc1
      have hql : q < len1 := by omega
      have cells : ∀ {A : Thing} {w' : World}, St W A w' → w'.cell? ⟨ab, off + q, none⟩ = some (.int .i64 x) ∧ w'.cell? ⟨ab1, off1 + q, none⟩ = some (.bool fl) := fun h => ⟨(h.below.cell (p := ⟨ab, off + q, none⟩) hab).trans hc0, (h.below.cell (p := ⟨ab1, off1 + q, none⟩) hab1).trans hc1⟩
      have hcl := cells hs
      obtain ⟨e0, e1⟩ := hcl
      have CC := Lib.hid fun A w' (h : St W A w') => cells h
      clear cells hc0 hc1
      by_cases hx0 : 0 ≤ x
      · by_cases hx4 : x ≤ 4
        · have C1 : Hid (Calls Try.prog 11 #[.pointer (some ⟨bh, 0, none⟩), .int .i64 x, .bool fl] wr.drew fun e w' => e = .returned (.bool true) ∧ St W (Hnd bh g 1 x (sn != fl) gone (2 * (q : Int) + 1)) w' ∧ w'.cell? ⟨ab, off + q, none⟩ = some (.int .i64 x) ∧ w'.cell? ⟨ab1, off1 + q, none⟩ = some (.bool fl)) :=
            ((hs.drewN 1).call fun S h => hand_post x fl hx0 hx4 (by omega) (by omega) h).mono fun e w' ⟨he, h⟩ => ⟨he, h, CC.out _ _ h⟩
          obtain ⟨sf, hsf⟩ : ∃ sf, sf = (sn != fl) := ⟨_, rfl⟩
          rw [← hsf] at C1
          clear hs CC
          cases sn <;> cases fl <;> simp at hsf <;> subst hsf
          · go_wp2_with fail
            go_region_held3 (fun w' => w'.cell? ⟨ab, off + q, none⟩ = some (.int .i64 x) ∧ w'.cell? ⟨ab1, off1 + q, none⟩ = some (.bool false)) (first | exact ⟨e0, e1⟩ | exact x7) (first | (go_at_call 11; refine C1.out.mono ?_; rintro e w7 ⟨rfl, h7, x7⟩))
            all_goals
              clear C1 e0 e1
              obtain ⟨e0, e1⟩ := x7
              go_wp2_with fail
              with_reducible refine (h7.call fun S h => hand_look (by omega) (by omega) h).mono ?_
              rintro e w8 ⟨rfl, h8⟩
              clear h7 e0 e1
              go_wp2_with fail
              go_round
              case rel => exact ⟨q + 1, x, _, by omega, by go_num, rfl, rfl, by omega, by omega, h8.conv fun S w h => by rw [show 2 * ((q + 1 : Nat) : Int) = 2 * q + 1 + 1 by omega]; exact h⟩
              case measure => simp [intOf]; omega
          · go_wp2_with fail
            go_region_held3 (fun w' => w'.cell? ⟨ab, off + q, none⟩ = some (.int .i64 x) ∧ w'.cell? ⟨ab1, off1 + q, none⟩ = some (.bool true)) (first | exact ⟨e0, e1⟩ | exact x7) (first | (go_at_call 11; refine C1.out.mono ?_; rintro e w7 ⟨rfl, h7, x7⟩))
            all_goals
              clear C1 e0 e1
              obtain ⟨e0, e1⟩ := x7
              go_wp2_with fail
              with_reducible refine (h7.call fun S h => hand_look (by omega) (by omega) h).mono ?_
              rintro e w8 ⟨rfl, h8⟩
              clear h7 e0 e1
              go_wp2_with fail
              go_round
              case rel => exact ⟨q + 1, x, _, by omega, by go_num, rfl, rfl, by omega, by omega, h8.conv fun S w h => by rw [show 2 * ((q + 1 : Nat) : Int) = 2 * q + 1 + 1 by omega]; exact h⟩
              case measure => simp [intOf]; omega
          · go_wp2_with fail
            go_region_held3 (fun w' => w'.cell? ⟨ab, off + q, none⟩ = some (.int .i64 x) ∧ w'.cell? ⟨ab1, off1 + q, none⟩ = some (.bool false)) (first | exact ⟨e0, e1⟩ | exact x7) (first | (go_at_call 11; refine C1.out.mono ?_; rintro e w7 ⟨rfl, h7, x7⟩))
            all_goals
              clear C1 e0 e1
              obtain ⟨e0, e1⟩ := x7
              go_wp2_with fail
              with_reducible refine (h7.call fun S h => hand_look (by omega) (by omega) h).mono ?_
              rintro e w8 ⟨rfl, h8⟩
              clear h7 e0 e1
              go_wp2_with fail
              go_round
              case rel => exact ⟨q + 1, x, _, by omega, by go_num, rfl, rfl, by omega, by omega, h8.conv fun S w h => by rw [show 2 * ((q + 1 : Nat) : Int) = 2 * q + 1 + 1 by omega]; exact h⟩
              case measure => simp [intOf]; omega
          · go_wp2_with fail
            go_region_held3 (fun w' => w'.cell? ⟨ab, off + q, none⟩ = some (.int .i64 x) ∧ w'.cell? ⟨ab1, off1 + q, none⟩ = some (.bool true)) (first | exact ⟨e0, e1⟩ | exact x7) (first | (go_at_call 11; refine C1.out.mono ?_; rintro e w7 ⟨rfl, h7, x7⟩))
            all_goals
              clear C1 e0 e1
              obtain ⟨e0, e1⟩ := x7
              go_wp2_with fail
              with_reducible refine (h7.call fun S h => hand_look (by omega) (by omega) h).mono ?_
              rintro e w8 ⟨rfl, h8⟩
              clear h7 e0 e1
              go_wp2_with fail
              go_round
              case rel => exact ⟨q + 1, x, _, by omega, by go_num, rfl, rfl, by omega, by omega, h8.conv fun S w h => by rw [show 2 * ((q + 1 : Nat) : Int) = 2 * q + 1 + 1 by omega]; exact h⟩
              case measure => simp [intOf]; omega
        · have C1 : Hid (Calls Try.prog 11 #[.pointer (some ⟨bh, 0, none⟩), .int .i64 x, .bool fl] wr.drew fun e w' => e = .returned (.bool false) ∧ St W (Hnd bh g 1 st sn gone (2 * (q : Int) + 1)) w' ∧ w'.cell? ⟨ab, off + q, none⟩ = some (.int .i64 x) ∧ w'.cell? ⟨ab1, off1 + q, none⟩ = some (.bool fl)) :=
            ((hs.drewN 1).call fun S h => hand_post_no x fl (by omega) (by omega) (by omega) h).mono fun e w' ⟨he, h⟩ => ⟨he, h, CC.out _ _ h⟩
          have hx5 : decide (x ≤ 4) = false := by simpa using hx4
          clear hs
          go_wp2_with fail
          go_region_held3 (fun w' => w'.cell? ⟨ab, off + q, none⟩ = some (.int .i64 x) ∧ w'.cell? ⟨ab1, off1 + q, none⟩ = some (.bool fl)) (first | exact ⟨e0, e1⟩ | exact x7) (first | (go_at_call 11; refine C1.out.mono ?_; rintro e w7 ⟨rfl, h7, x7⟩))
          all_goals
            clear C1 e0 e1 x7
            go_wp2_with fail
            with_reducible refine (h7.call fun S h => hand_look (by omega) (by omega) h).mono ?_
            rintro e w8 ⟨rfl, h8⟩
            clear h7
            go_wp2_with fail
            go_round
            case rel => exact ⟨q + 1, st, _, by omega, by go_num, rfl, rfl, by omega, by omega, h8.conv fun S w h => by rw [show 2 * ((q + 1 : Nat) : Int) = 2 * q + 1 + 1 by omega]; exact h⟩
            case measure => simp [intOf]; omega
      · have C1 : Hid (Calls Try.prog 11 #[.pointer (some ⟨bh, 0, none⟩), .int .i64 x, .bool fl] wr.drew fun e w' => e = .returned (.bool false) ∧ St W (Hnd bh g 1 st sn gone (2 * (q : Int) + 1)) w' ∧ w'.cell? ⟨ab, off + q, none⟩ = some (.int .i64 x) ∧ w'.cell? ⟨ab1, off1 + q, none⟩ = some (.bool fl)) :=
          ((hs.drewN 1).call fun S h => hand_post_no x fl (by omega) (by omega) (by omega) h).mono fun e w' ⟨he, h⟩ => ⟨he, h, CC.out _ _ h⟩
        have hx5 : decide (0 ≤ x) = false := by simpa using hx0
        clear hs
        go_wp2_with fail
        go_region_held3 (fun w' => w'.cell? ⟨ab, off + q, none⟩ = some (.int .i64 x) ∧ w'.cell? ⟨ab1, off1 + q, none⟩ = some (.bool fl)) (first | exact ⟨e0, e1⟩ | exact x7) (first | (go_at_call 11; refine C1.out.mono ?_; rintro e w7 ⟨rfl, h7, x7⟩))
        all_goals
          clear C1 e0 e1 x7
          go_wp2_with fail
          with_reducible refine (h7.call fun S h => hand_look (by omega) (by omega) h).mono ?_
          rintro e w8 ⟨rfl, h8⟩
          clear h7
          go_wp2_with fail
          go_round
          case rel => exact ⟨q + 1, st, _, by omega, by go_num, rfl, rfl, by omega, by omega, h8.conv fun S w h => by rw [show 2 * ((q + 1 : Nat) : Int) = 2 * q + 1 + 1 by omega]; exact h⟩
          case measure => simp [intOf]; omega
    · obtain rfl : q = len0 := by omega
      go_wp2_with fail
      with_reducible refine (hs.call fun S h => hand_join0 (by omega) (by omega) rfl (by omega) (by omega) h).mono ?_
      rintro e w3 ⟨rfl, h3⟩
      clear hs
      go_wp2_with fail
      with_reducible refine (h3.call fun S h => hand_join_no0 (by omega) (by omega) (by rw [setI_same]; omega) (by omega) (by omega) h).mono ?_
      rintro e w4 ⟨rfl, h4⟩
      clear h3
      go_wp2_with fail
      with_reducible refine (hand_first _).mono ?_
      rintro e w5 ⟨rfl, hb⟩
      have h5 := h4.later hb
      clear h4 hb
      go_wp2_with fail
      with_reducible refine (h5.look fun S h => hand_status 0 (by omega) h).mono ?_
      rintro e w6 ⟨rfl, rfl⟩
      rw [show hSt 1 (setI gone 0 st) 0 = st from rfl]
      go_wp2_with fail
      with_reducible refine (h5.call fun S h => hand_leave0 (by omega) (by omega) (by rw [setI_same]; omega) (by omega) (by omega) h).mono ?_
      rintro e w6 ⟨rfl, h6⟩
      clear h5
      go_wp2_with fail
      with_reducible refine (h6.call fun S h => hand_leave_no 0 (by omega) rfl (by omega) (by omega) h).mono ?_
      rintro e w7 ⟨rfl, h7⟩
      clear h6
      go_wp2_with fail
      with_reducible refine (h7.look fun S h => hand_counted h).mono ?_
      rintro e w8 ⟨rfl, rfl⟩
      go_wp2_with fail
      go_ret
      exact ⟨by show Ending.returned (.bool _) = Ending.returned (.bool true); congr 2; simp; omega, h7.below⟩

theorem handSense_all (a0 a1 : Option Addr) (len0 cap0 len1 cap1 : Nat) (z0 : List Int) (z1 : List Bool) (W : World) (w0 : IsRow .i64 W a0 len0 cap0 z0) (w1 : IsBools W a1 len1 z1) :
    Calls Try.prog 4 #[.slice a0 len0 cap0, .slice a1 len1 cap1] W fun e w' => e = .returned (.bool true) ∧ Below W.heap.size W w' := by
  by_cases hm : 200 < (len0 : Int) ∨ (len1 : Int) < len0
  · exact handSense_out a0 a1 len0 cap0 len1 cap1 W hm
  exact handSense_walk a0 a1 len0 cap0 len1 cap1 z0 z1 W w0 w1 (by omega) (by omega)
end Go.Proofs.Ytmfnfeadpelckaa
