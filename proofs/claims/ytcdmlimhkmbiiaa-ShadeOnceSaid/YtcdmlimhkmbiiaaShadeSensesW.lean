/- The walk of ShadeSenses. -/
import Derived.Test.YtcdmlimhkmbiiaaShadeLaws
namespace Go.Proofs.Ytcdmlimhkmbiiaa
open Go.RowKit

def upto : Nat → List Int
  | 0 => []
  | k + 1 => upto k ++ [(k : Int)]
theorem upto_len : ∀ k, (upto k).length = k
  | 0 => rfl
  | k + 1 => by simp [upto, upto_len k]
/-- All heads, the first r of sense s. -/
def fR (r : Nat) (s : Bool) : Nat → One := fun k => ⟨2, true, if k < r then s else !s⟩
def fQ (q : Nat) : Nat → One := fun k => if k < q then ⟨2, true, false⟩ else blank k
section
variable {n r q : Nat} {s : Bool}
theorem fR_white (h : r < n) : sWhite n (fR r s) r s = true := by unfold sWhite; rw [tHead_in h, tBlack_in h]; cases s <;> simp [fR]
theorem fR_black0 (h : r < n) : (tHead n (fR r s) r && tBlack n (fR r s) r s) = false := by rw [tHead_in h, tBlack_in h]; cases s <;> simp [fR]
theorem fR_black1 (h : r < n) : (tHead n (fR (r + 1) s) r && tBlack n (fR (r + 1) s) r s) = true := by rw [tHead_in h, tBlack_in h]; simp [fR]
theorem fR_black2 (h : r < n) : (tHead n (fR (r + 1) s) r && tBlack n (fR (r + 1) s) r (!s)) = false := by rw [tHead_in h, tBlack_in h]; cases s <;> simp [fR]
theorem fR_white1 (h : r < n) : sWhite n (fR (r + 1) s) r s = false := by unfold sWhite; rw [tHead_in h, tBlack_in h]; simp [fR]
theorem fR_mark (h : r < n) : tMark n (fR r s) r s = fR (r + 1) s := by
  have e : tMarks n (fR r s) r s = true := by unfold tMarks; rw [tState_in h, tBlack_in h]; cases s <;> simp [fR]
  unfold tMark; rw [e]; simp only [if_true, Int.toNat_natCast]
  funext k
  by_cases e : k = r
  · subst e; rw [upd_same]; simp [fR]
  · rw [upd_other _ _ e]
    have : (k < r + 1) ↔ (k < r) := by omega
    simp [fR, this]
theorem fQ_step (h : q < n) : tSet n (fQ q) (q : Int) 2 true false = fQ (q + 1) := by
  rw [tSet_yes h (by omega) (by omega)]
  funext k
  by_cases e : k = q
  · subst e; rw [upd_same]; simp [fQ]
  · rw [upd_other _ _ e]
    have : (k < q + 1) ↔ (k < q) := by omega
    simp [fQ, this]
end
theorem shade_congr {W w : World} {bs bt bp n : Nat} {f f' : Nat → One} {xs : List Int} {m : Int} {lost : Bool} {ct : Int} (h : ∀ k, k < n → f k = f' k) (hs : St W (Shade bs bt bp n f xs m lost ct) w) : St W (Shade bs bt bp n f' xs m lost ct) w :=
  hs.conv fun _ _ ⟨S, T, h1, ⟨S2, T2, g1, g2⟩, h3⟩ => ⟨S, T, h1, ⟨S2, T2, tab_congr h g1, g2⟩, h3⟩

set_option maxHeartbeats 800000 in
theorem shadeSenses_no (n fl : Int) (W : World) (hm : n < 0 ∨ 1024 < n) :
    Calls Try.prog 12 #[.int .i64 n, .int .i64 fl] W fun e w' => e = .returned (.bool true) ∧ Below W.heap.size W w' := by
  go_enter Try.func12, Try.ntmps12
  go_wp2_with fail
  with_reducible refine (shade_first _).mono ?_
  rintro e wa ⟨rfl, hb0⟩
  go_wp2_with fail
  with_reducible refine (shade_no_table n _ _ hm).mono ?_
  rintro e wb ⟨rfl, rfl⟩
  clear hm
  go_wp2_with fail
  with_reducible refine (shade_first _).mono ?_
  rintro e wa ⟨rfl, hb1⟩
  go_wp2_with fail
  go_ret
  exact ⟨rfl, hb0.trans (hb1.mono hb0.size)⟩

set_option maxHeartbeats 1600000 in
theorem shadeSenses_out (n fl : Int) (W : World) (h0 : 0 ≤ n) (h1 : n ≤ 1024) (hm : 100 < n ∨ fl < 0 ∨ 20 < fl) :
    Calls Try.prog 12 #[.int .i64 n, .int .i64 fl] W fun e w' => e = .returned (.bool true) ∧ Below W.heap.size W w' := by
  go_enter Try.func12, Try.ntmps12
  go_wp2_with fail
  with_reducible refine (shade_first _).mono ?_
  rintro e wa ⟨rfl, hb0⟩
  go_wp2_with fail
  with_reducible refine (shade_newI n 200 _ h0 h1 (by omega) (by omega)).mono ?_
  rintro e wb ⟨bs, bt, bp, rfl, hs⟩
  have hs := hs.onward hb0
  go_wp2_with fail
  all_goals
    with_reducible refine (shade_first _).mono ?_
    rintro e wa ⟨rfl, hb1⟩
    go_wp2_with fail
    go_ret
    exact ⟨rfl, (hs.later hb1).below⟩

set_option maxRecDepth 100000 in
set_option maxHeartbeats 3200000 in
theorem shadeSenses_walk (n fl : Nat) (W : World) (h1 : (n : Int) ≤ 100) (h2 : (fl : Int) ≤ 20) :
    Calls Try.prog 12 #[.int .i64 n, .int .i64 fl] W fun e w' => e = .returned (.bool true) ∧ Below W.heap.size W w' := by
  go_enter Try.func12, Try.ntmps12
  go_wp2_with fail
  with_reducible refine (shade_first _).mono ?_
  rintro e wa ⟨rfl, hb0⟩
  go_wp2_with fail
  with_reducible refine (shade_new n 200 _ (by omega) (by omega) (by omega)).mono ?_
  rintro e wb ⟨bs, bt, bp, rfl, hs⟩
  have hs := hs.onward hb0
  have c0 := hs.shade0
  go_wp2_with fail
  with_reducible refine (shade_tabcall hs).mono ?_
  rintro e w2 ⟨rfl, h2⟩
  clear hs hb0 c0
  go_wp2_with fail
  go_loopw [7] (fun k w => ∃ q : Nat, q ≤ n ∧ k = .int .i64 q ∧ St W (Shade bs bt bp n (fQ q) [] 200 false 0) w) (fun k _ => n - (intOf k).toNat)
  case atStart => exact ⟨0, Nat.zero_le _, rfl, shade_congr (fun k _ => by simp [fQ]) h2⟩
  case round =>
    clear h2
    obtain ⟨q, hq, rfl, hs⟩ := hrel
    by_cases hlt : q < n
    · have c0 := hs.shade0
      go_wp2_with fail
      with_reducible refine (shade_tabcall hs).mono ?_
      rintro e w2 ⟨rfl, h5⟩
      clear hs c0
      go_wp2_with fail
      with_reducible refine (shade_set q 2 true false h5).mono ?_
      rintro e w3 ⟨rfl, h6⟩
      rw [fQ_step hlt] at h6
      clear h5
      go_wp2_with fail
      go_round
      case rel => exact ⟨q + 1, by omega, by go_num, h6⟩
      case measure => simp [intOf]; omega
    · obtain rfl : q = n := by omega
      go_wp2_with fail
      go_loopw [8, 9] (fun v k w => ∃ (c : Nat) (s : Bool) (ct : Int), c ≤ fl ∧ k = .int .i64 c ∧ v = .bool s ∧ 0 ≤ ct ∧ ct ≤ 700 * c ∧ St W (Shade bs bt bp q (fR 0 (!s)) [] 200 false ct) w) (fun _ k _ => fl - (intOf k).toNat)
      case atStart => exact ⟨0, false, 0, Nat.zero_le _, rfl, rfl, by omega, by omega, shade_congr (fun k hk => by simp [fQ, fR, hk]) hs⟩
      case round =>
        clear hs
        obtain ⟨c, s, ct, hc, rfl, rfl, hct0, hct1, hs⟩ := hrel
        by_cases hlt : c < fl
        · go_wp2_with fail
          generalize (!s) = s at hs ⊢
          go_loopw [10] (fun k w => ∃ (r : Nat) (ct : Int), r ≤ q ∧ k = .int .i64 r ∧ 0 ≤ ct ∧ ct ≤ 700 * c + 5 * r ∧ St W (Shade bs bt bp q (fR r s) (upto r) 200 false ct) w) (fun k _ => q - (intOf k).toNat)
          case atStart => exact ⟨0, ct, Nat.zero_le _, rfl, by omega, by omega, hs⟩
          case round =>
            clear hs hct0 hct1
            obtain ⟨r, ct, hr, rfl, hct0, hct1, hs⟩ := hrel
            by_cases hltr : r < q
            · go_wp2_with fail
              with_reducible refine (hs.call fun S h => shade_black r s h (by omega) (by omega)).mono ?_
              rintro e w1 ⟨rfl, h3⟩
              rw [fR_black0 hltr]
              clear hs
              go_wp2_with fail
              with_reducible refine (h3.call fun S h => shade_grey_lt r s h (by omega) (by omega) (fR_white hltr) (by rw [upto_len]; omega) (by omega)).mono ?_
              rintro e w2 ⟨rfl, h4⟩
              rw [fR_mark hltr] at h4
              clear h3
              go_wp2_with fail
              with_reducible refine (h4.call fun S h => shade_grey_no r s h (by omega) (by omega) (fR_white1 hltr)).mono ?_
              rintro e w3 ⟨rfl, h5⟩
              clear h4
              go_wp2_with fail
              with_reducible refine (h5.call fun S h => shade_black r s h (by omega) (by omega)).mono ?_
              rintro e w4 ⟨rfl, h6⟩
              rw [fR_black1 hltr]
              clear h5
              go_wp2_with fail
              with_reducible refine (h6.call fun S h => shade_black r (!s) h (by omega) (by omega)).mono ?_
              rintro e w5 ⟨rfl, h7⟩
              rw [fR_black2 hltr]
              clear h6
              go_wp2_with fail
              go_round
              case rel => exact ⟨r + 1, _, by omega, by go_num, by omega, by omega, h7⟩
              case measure => simp [intOf]; omega
            · obtain rfl : r = q := by omega
              go_wp2_with fail
              go_loopw [11] (fun k w => ∃ (d : Nat) (ct : Int), d ≤ r ∧ k = .int .i64 ((d : Int) - 1) ∧ 0 ≤ ct ∧ ct ≤ 700 * c + 5 * r + (r - d) ∧ St W (Shade bs bt bp r (fR r s) (upto d) 200 false ct) w) (fun k _ => (intOf k + 1).toNat)
              case atStart => exact ⟨r, ct, Nat.le_refl _, rfl, by omega, by omega, hs⟩
              case round =>
                clear hs hct0 hct1
                obtain ⟨d, ct, hd, rfl, hct0, hct1, hs⟩ := hrel
                cases d with
                | zero =>
                  rw [show (((0 : Nat) : Int) - 1) = -1 from rfl]
                  go_wp2_with fail
                  go_round
                  case rel => exact ⟨c + 1, s, ct, by omega, by go_num, rfl, by omega, by omega, shade_congr (fun k hk => by simp [fR, hk]) hs⟩
                  case measure => simp [intOf]; omega
                | succ d =>
                  rw [show (((d + 1 : Nat) : Int) - 1) = (d : Int) by omega]
                  go_wp2_with fail
                  with_reducible refine (hs.call fun S h => shade_next (xs := upto d) (i := d) h (by omega) (by omega)).mono ?_
                  rintro e w1 ⟨rfl, h3⟩
                  clear hs
                  go_wp2_with fail
                  go_round
                  case rel => exact ⟨d, _, by omega, by go_num, by omega, by omega, h3⟩
                  case measure => simp [intOf]
        · obtain rfl : c = fl := by omega
          go_wp2_with fail
          with_reducible refine (hs.call fun S h => shade_next_none h (by omega) (by omega)).mono ?_
          rintro e w1 ⟨rfl, h3⟩
          clear hs
          go_wp2_with fail
          with_reducible refine (shade_first _).mono ?_
          rintro e w2 ⟨rfl, hb1⟩
          have h4 := h3.later hb1
          clear h3 hb1
          go_wp2_with fail
          with_reducible refine (h4.call fun S h => shade_lost h (by omega) (by omega)).mono ?_
          rintro e w3 ⟨rfl, h5⟩
          clear h4
          go_wp2_with fail
          go_ret
          exact ⟨rfl, h5.below⟩

theorem shadeSenses_all (n fl : Int) (W : World) :
    Calls Try.prog 12 #[.int .i64 n, .int .i64 fl] W fun e w' => e = .returned (.bool true) ∧ Below W.heap.size W w' := by
  by_cases hm : n < 0 ∨ 1024 < n
  · exact shadeSenses_no n fl W hm
  by_cases hm2 : 100 < n ∨ fl < 0 ∨ 20 < fl
  · exact shadeSenses_out n fl W (by omega) (by omega) hm2
  obtain ⟨k, rfl⟩ : ∃ k : Nat, n = (k : Int) := ⟨n.toNat, by omega⟩
  obtain ⟨j, rfl⟩ : ∃ j : Nat, fl = (j : Int) := ⟨fl.toNat, by omega⟩
  exact shadeSenses_walk k j W (by omega) (by omega)
end Go.Proofs.Ytcdmlimhkmbiiaa
