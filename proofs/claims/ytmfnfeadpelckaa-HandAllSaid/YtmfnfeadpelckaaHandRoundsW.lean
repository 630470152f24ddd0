/- The walk of HandRounds. -/
import Derived.Test.YtmfnfeadpelckaaHand3
namespace Go.Proofs.Ytmfnfeadpelckaa
open Go.RowKit

set_option maxHeartbeats 800000 in
theorem handRounds_no (n r : Int) (a2 : Option Addr) (len2 cap2 : Nat) (W : World) (hm : n < 1 ∨ 16 < n) :
    Calls Try.prog 3 #[.int .i64 n, .int .i64 r, .slice a2 len2 cap2] W fun e w' => e = .returned (.bool true) ∧ Below W.heap.size W w' := by
  go_enter Try.func3, Try.ntmps3
  go_wp2_with fail
  with_reducible refine (hand_first _).mono ?_
  rintro e wa ⟨rfl, hb0⟩
  go_wp2_with fail
  with_reducible refine (hand_new_no n _ hm).mono ?_
  rintro e wb ⟨rfl, rfl⟩
  clear hm
  go_wp2_with fail
  with_reducible refine (hand_first _).mono ?_
  rintro e wa ⟨rfl, hb1⟩
  go_wp2_with fail
  go_ret
  exact ⟨rfl, hb0.trans (hb1.mono hb0.size)⟩

set_option maxRecDepth 100000 in
set_option maxHeartbeats 1600000 in
theorem handRounds_out (n r : Int) (a2 : Option Addr) (len2 cap2 : Nat) (W : World) (h0 : 1 ≤ n) (h1 : n ≤ 16) (hm : r < 0 ∨ 20 < r ∨ 100 < (len2 : Int)) :
    Calls Try.prog 3 #[.int .i64 n, .int .i64 r, .slice a2 len2 cap2] W fun e w' => e = .returned (.bool true) ∧ Below W.heap.size W w' := by
  go_enter Try.func3, Try.ntmps3
  go_wp2_with fail
  with_reducible refine (hand_first _).mono ?_
  rintro e wa ⟨rfl, hb0⟩
  go_wp2_with fail
  with_reducible refine (hand_newI n _ h0 h1).mono ?_
  rintro e wb ⟨bh, g, rfl, hs⟩
  have hs := hs.onward hb0
  go_wp2_with fail
  all_goals
    with_reducible refine (hand_first _).mono ?_
    rintro e wa ⟨rfl, hb1⟩
    go_wp2_with fail
    go_ret
    exact ⟨rfl, (hs.later hb1).below⟩

/-- The first q joined at status s. -/
def jn (q : Nat) (s : Int) : Nat → Int := fun j => if j < q then s else -1
/-- Those of m have answered s, the others p. -/
def an (m : Nat → Bool) (s p : Int) : Nat → Int := fun j => if m j then s else p
theorem jn_step (q : Nat) (s : Int) : setI (jn q s) q s = jn (q + 1) s := by
  funext k
  by_cases e : k = q
  · subst e; simp [setI, jn]
  · have : (k < q + 1) ↔ (k < q) := by omega
    simp [setI, jn, e, this]
theorem an_step (m : Nat → Bool) (s p : Int) (j : Nat) : setI (an m s p) j s = an (setB m j true) s p := by
  funext k
  by_cases e : k = j
  · subst e; simp [setI, an, setB]
  · simp [setI, an, setB, e]
theorem an_poll {n j : Nat} (m : Nat → Bool) {s p : Int} (hj : j < n) (_hs : 0 ≤ s) (hp : 0 ≤ p) (hne : s ≠ p) : (hSt n (an m s p) j == -1 || hSt n (an m s p) j == s) = m j := by
  rw [hSt_in hj]; unfold an
  cases m j
  · have h1 : (p == -1) = false := by simp; omega
    have h2 : (p == s) = false := by simp; omega
    simp [h1, h2]
  · simp
theorem false16 {W w : World} {A : Thing} (h : St W A w) : St W (Sep A (Bools w.heap.size 16 32 fun _ => false)) (w.alloc (.cells #[.bool false, .bool false, .bool false, .bool false, .bool false, .bool false, .bool false, .bool false, .bool false, .bool false, .bool false, .bool false, .bool false, .bool false, .bool false, .bool false] 32)) := by
  refine h.more ⟨fun k => k = w.heap.size, ⟨_, Blk.new w _ 32, by rfl, fun j hj => ?_, rfl, fun _ h => h⟩, fun k hk => by omega⟩ ((Below.refl _ _).alloc (Nat.le_refl _) _)
  have : j = 0 ∨ j = 1 ∨ j = 2 ∨ j = 3 ∨ j = 4 ∨ j = 5 ∨ j = 6 ∨ j = 7 ∨ j = 8 ∨ j = 9 ∨ j = 10 ∨ j = 11 ∨ j = 12 ∨ j = 13 ∨ j = 14 ∨ j = 15 := by omega
  rcases this with rfl | rfl | rfl | rfl | rfl | rfl | rfl | rfl | rfl | rfl | rfl | rfl | rfl | rfl | rfl | rfl <;> rfl

set_option maxRecDepth 100000 in
set_option maxHeartbeats 6400000 in
theorem handRounds_walk (n rr : Nat) (a2 : Option Addr) (len2 cap2 : Nat) (z2 : List Int) (W : World) (w2 : IsRow .i64 W a2 len2 cap2 z2) (h1 : 1 ≤ (n : Int)) (h2 : (n : Int) ≤ 16) (h3 : (rr : Int) ≤ 20) (h4 : (len2 : Int) ≤ 100) :
    Calls Try.prog 3 #[.int .i64 n, .int .i64 rr, .slice a2 len2 cap2] W fun e w' => e = .returned (.bool true) ∧ Below W.heap.size W w' := by
  go_enter Try.func3, Try.ntmps3
  go_wp2_with fail
  with_reducible refine (hand_first _).mono ?_
  rintro e wa ⟨rfl, hb0⟩
  go_wp2_with fail
  with_reducible refine (hand_new n _ (by omega) (by omega)).mono ?_
  rintro e wb ⟨bh, g, rfl, hs⟩
  have hs := hs.onward hb0
  clear hb0
  go_wp2_with fail
  go_loopw [9] (fun k w => ∃ q : Nat, q ≤ n ∧ k = .int .i64 q ∧ St W (Hnd bh g n 0 false (jn q 0) (2 * q : Int)) w) (fun k _ => n - (intOf k).toNat)
  case atStart => exact ⟨0, Nat.zero_le _, rfl, hnd_congr (fun k _ => by simp [jn, gone]) hs⟩
  case round =>
    clear hs
    obtain ⟨q, hq, rfl, hs⟩ := hrel
    by_cases hlt : q < n
    · go_wp2_with fail
      with_reducible refine (hs.call fun S h => hand_join q hlt (by omega) (by simp [jn]) (by omega) (by omega) h).mono ?_
      rintro e w3 ⟨rfl, h3⟩
      rw [jn_step] at h3
      clear hs
      go_wp2_with fail
      with_reducible refine (h3.call fun S h => hand_poll q (by omega) (by omega) (by omega) h).mono ?_
      rintro e w4 ⟨rfl, h4⟩
      rw [show (hSt n (jn (q + 1) 0) q == -1 || hSt n (jn (q + 1) 0) q == 0) = true by rw [hSt_in hlt]; simp [jn]]
      clear h3
      go_wp2_with fail
      go_round
      case rel => exact ⟨q + 1, by omega, by go_num, h4.conv fun S w h => by rw [show 2 * ((q + 1 : Nat) : Int) = 2 * q + 1 + 1 by omega]; exact h⟩
      case measure => simp [intOf]; omega
    · obtain rfl : q = n := by omega
      go_wp2_with fail
      go_loopw [13] (fun k w => ∃ (r : Nat) (sn : Bool) (ct : Int), r ≤ rr ∧ k = .int .i64 ((r : Int) + 1) ∧ 0 ≤ ct ∧ ct ≤ 40 + 3000 * r ∧ St W (Hnd bh g q ((r : Int) % 5) sn (fun _ => (r : Int) % 5) ct) w) (fun k _ => rr + 1 - (intOf k).toNat)
      case atStart => exact ⟨0, false, _, Nat.zero_le _, rfl, by omega, by omega, hnd_congr (fun k hk => by simp [jn, hk]) hs⟩
      case round =>
        clear hs
        obtain ⟨r, sn, ct, hr, rfl, hct0, hct1, hs⟩ := hrel
        by_cases hltr : r < rr
        · go_wp2_with fail
          obtain ⟨s, hse⟩ : ∃ s, s = ((r : Int) + 1) % 5 := ⟨_, rfl⟩
          obtain ⟨p, hpe⟩ : ∃ p, p = (r : Int) % 5 := ⟨_, rfl⟩
          have hs0 : 0 ≤ s := by omega
          have hs4 : s ≤ 4 := by omega
          have hp0 : 0 ≤ p := by omega
          have hne : s ≠ p := by omega
          rw [← hse]
          rw [← hpe] at hs
          with_reducible refine (hs.call fun S h => hand_post s (s == 1) hs0 hs4 hct0 (by omega) h).mono ?_
          rintro e w3 ⟨rfl, h3⟩
          have HSE := Lib.hid hse
          have HPE := Lib.hid hpe
          clear hs hse hpe
          go_wp2_with fail
          have h6 := false16 (h3.conv fun S w h => (show (Hnd bh g q s (sn != (s == 1)) (an (fun _ => false) s p) (ct + 1)).at_ S w from h))
          generalize hQ : w3.heap.size = Q at h6 ⊢
          generalize hW2 : w3.alloc _ = W2 at h6 ⊢
          clear h3 hQ hW2
          go_loopw [16] (fun k w => ∃ (c : Nat) (m : Nat → Bool) (ct' : Int), c ≤ len2 ∧ k = .int .i64 c ∧ 0 ≤ ct' ∧ ct' ≤ 41 + 3000 * r + 17 * c ∧ St W (Sep (Hnd bh g q s (sn != (s == 1)) (an m s p) ct') (Bools Q 16 32 m)) w) (fun k _ => len2 - (intOf k).toNat)
          case atStart => exact ⟨0, _, _, Nat.zero_le _, rfl, by omega, by omega, h6⟩
          case round =>
            clear h6 hct0 hct1
            obtain ⟨c, m, ct, hc, rfl, hct0, hct1, hs⟩ := hrel
            by_cases hlt : c < len2
            · obtain ⟨ab, off, x, rfl, hab, hx, hc0⟩ := w2.at_ hlt
              clear hx
              have hcl := (hs.below.cell (p := ⟨ab, off + c, none⟩) hab).trans hc0
              by_cases hin : tIn q x
              · obtain ⟨j, rfl⟩ : ∃ j : Nat, x = (j : Int) := ⟨x.toNat, by have := hin.1; omega⟩
                have hj : j < q := by have := hin.2; omega
                clear hin
                have ho : an m s p j ≠ -1 := by unfold an; split <;> omega
                go_wp2_with fail
                with_reducible refine (hs.call (sepL fun S h => hand_answer j s hj (by omega) ho hs0 hs4 hct0 (by omega) h)).mono ?_
                rintro e w4 ⟨rfl, h5⟩
                rw [an_step] at h5
                have hfj := h5.right.boolFree j
                have hmj := h5.right.boolCell (show j < 16 by omega)
                have h6 := h5.goes (w' := w4.setCell ⟨Q, j, none⟩ (.bool true)) (goesR fun S h => bools_set h j true)
                clear hs hcl h5 ho
                go_wp2_with fail
                clear hfj hmj
                generalize w4.setCell ⟨Q, j, none⟩ (.bool true) = W4 at h6 ⊢
                generalize setB m j true = M at h6
                go_loopw [18] (fun k w => ∃ (d : Nat) (ct' : Int), d ≤ q ∧ k = .int .i64 d ∧ 0 ≤ ct' ∧ ct' ≤ ct + 1 + d ∧ St W (Sep (Hnd bh g q s (sn != (s == 1)) (an M s p) ct') (Bools Q 16 32 M)) w) (fun k _ => q - (intOf k).toNat)
                case atStart => exact ⟨0, _, Nat.zero_le _, rfl, by omega, by omega, h6⟩
                case round =>
                  clear h6
                  obtain ⟨d, ct', hd, rfl, hk0, hk1, hs⟩ := hrel
                  by_cases hld : d < q
                  · have hd16 : d < 16 := by omega
                    have hdI : (d : Int) < 16 := by omega
                    have hmd := hs.right.boolCell hd16
                    have C1 : Hid (Calls Try.prog 10 #[.pointer (some ⟨bh, 0, none⟩), .int .i64 (d : Int)] wr.drew fun e w' => e = .returned (.bool (M d)) ∧ St W (Sep (Hnd bh g q s (sn != (s == 1)) (an M s p) (ct' + 1)) (Bools Q 16 32 M)) w' ∧ w'.cell? ⟨Q, d, none⟩ = some (.bool (M d))) := by
                      have := (hs.drewN 1).call (sepL fun S h => hand_poll d (by omega) hk0 (by omega) h)
                      rw [an_poll M hld hs0 hp0 hne] at this
                      exact this.mono fun e w' ⟨he, h⟩ => ⟨he, h, h.right.boolCell (show d < 16 by omega)⟩
                    clear hs
                    generalize hv : M d = v at C1 hmd
                    clear hv
                    go_wp2_with fail
                    go_region_held3 (fun w' => w'.cell? ⟨Q, d, none⟩ = some (.bool v)) (first | exact hmd | exact x7) (first | (go_at_call 10; refine C1.out.mono ?_; rintro e w7 ⟨rfl, h7, x7⟩))
                    all_goals
                      clear C1 hmd x7
                      go_wp2_with fail
                      go_round
                      case rel => exact ⟨d + 1, _, by omega, by go_num, by omega, by omega, h7⟩
                      case measure => simp [intOf]; omega
                  · obtain rfl : d = q := by omega
                    go_wp2_with fail
                    go_round
                    case rel => exact ⟨c + 1, _, _, by omega, by go_num, by omega, by omega, hs⟩
                    case measure => simp [intOf]; omega
              · have hno := hSt_out (own := an m s p) hin
                unfold tIn at hin
                by_cases hx0 : 0 ≤ x
                · have d1 : decide (x < (q : Int)) = false := by simp; omega
                  clear hin
                  go_wp2_with fail
                  with_reducible refine (hs.call (sepL fun S h => hand_answer_no x s (by omega) (.inl hno) hct0 (by omega) h)).mono ?_
                  rintro e w4 ⟨rfl, h6⟩
                  clear hs hcl hno
                  go_wp2_with fail
                  generalize m = M at h6
                  go_loopw [18] (fun k w => ∃ (d : Nat) (ct' : Int), d ≤ q ∧ k = .int .i64 d ∧ 0 ≤ ct' ∧ ct' ≤ ct + 1 + d ∧ St W (Sep (Hnd bh g q s (sn != (s == 1)) (an M s p) ct') (Bools Q 16 32 M)) w) (fun k _ => q - (intOf k).toNat)
                  case atStart => exact ⟨0, _, Nat.zero_le _, rfl, by omega, by omega, h6⟩
                  case round =>
                    clear h6
                    obtain ⟨d, ct', hd, rfl, hk0, hk1, hs⟩ := hrel
                    by_cases hld : d < q
                    · have hd16 : d < 16 := by omega
                      have hdI : (d : Int) < 16 := by omega
                      have hmd := hs.right.boolCell hd16
                      have C1 : Hid (Calls Try.prog 10 #[.pointer (some ⟨bh, 0, none⟩), .int .i64 (d : Int)] wr.drew fun e w' => e = .returned (.bool (M d)) ∧ St W (Sep (Hnd bh g q s (sn != (s == 1)) (an M s p) (ct' + 1)) (Bools Q 16 32 M)) w' ∧ w'.cell? ⟨Q, d, none⟩ = some (.bool (M d))) := by
                        have := (hs.drewN 1).call (sepL fun S h => hand_poll d (by omega) hk0 (by omega) h)
                        rw [an_poll M hld hs0 hp0 hne] at this
                        exact this.mono fun e w' ⟨he, h⟩ => ⟨he, h, h.right.boolCell (show d < 16 by omega)⟩
                      clear hs
                      generalize hv : M d = v at C1 hmd
                      clear hv
                      go_wp2_with fail
                      go_region_held3 (fun w' => w'.cell? ⟨Q, d, none⟩ = some (.bool v)) (first | exact hmd | exact x7) (first | (go_at_call 10; refine C1.out.mono ?_; rintro e w7 ⟨rfl, h7, x7⟩))
                      all_goals
                        clear C1 hmd x7
                        go_wp2_with fail
                        go_round
                        case rel => exact ⟨d + 1, _, by omega, by go_num, by omega, by omega, h7⟩
                        case measure => simp [intOf]; omega
                    · obtain rfl : d = q := by omega
                      go_wp2_with fail
                      go_round
                      case rel => exact ⟨c + 1, _, _, by omega, by go_num, by omega, by omega, hs⟩
                      case measure => simp [intOf]; omega
                · have d1 : decide (0 ≤ x) = false := by simpa using hx0
                  clear hin
                  go_wp2_with fail
                  with_reducible refine (hs.call (sepL fun S h => hand_answer_no x s (by omega) (.inl hno) hct0 (by omega) h)).mono ?_
                  rintro e w4 ⟨rfl, h6⟩
                  clear hs hcl hno
                  go_wp2_with fail
                  generalize m = M at h6
                  go_loopw [18] (fun k w => ∃ (d : Nat) (ct' : Int), d ≤ q ∧ k = .int .i64 d ∧ 0 ≤ ct' ∧ ct' ≤ ct + 1 + d ∧ St W (Sep (Hnd bh g q s (sn != (s == 1)) (an M s p) ct') (Bools Q 16 32 M)) w) (fun k _ => q - (intOf k).toNat)
                  case atStart => exact ⟨0, _, Nat.zero_le _, rfl, by omega, by omega, h6⟩
                  case round =>
                    clear h6
                    obtain ⟨d, ct', hd, rfl, hk0, hk1, hs⟩ := hrel
                    by_cases hld : d < q
                    · have hd16 : d < 16 := by omega
                      have hdI : (d : Int) < 16 := by omega
                      have hmd := hs.right.boolCell hd16
                      have C1 : Hid (Calls Try.prog 10 #[.pointer (some ⟨bh, 0, none⟩), .int .i64 (d : Int)] wr.drew fun e w' => e = .returned (.bool (M d)) ∧ St W (Sep (Hnd bh g q s (sn != (s == 1)) (an M s p) (ct' + 1)) (Bools Q 16 32 M)) w' ∧ w'.cell? ⟨Q, d, none⟩ = some (.bool (M d))) := by
                        have := (hs.drewN 1).call (sepL fun S h => hand_poll d (by omega) hk0 (by omega) h)
                        rw [an_poll M hld hs0 hp0 hne] at this
                        exact this.mono fun e w' ⟨he, h⟩ => ⟨he, h, h.right.boolCell (show d < 16 by omega)⟩
                      clear hs
                      generalize hv : M d = v at C1 hmd
                      clear hv
                      go_wp2_with fail
                      go_region_held3 (fun w' => w'.cell? ⟨Q, d, none⟩ = some (.bool v)) (first | exact hmd | exact x7) (first | (go_at_call 10; refine C1.out.mono ?_; rintro e w7 ⟨rfl, h7, x7⟩))
                      all_goals
                        clear C1 hmd x7
                        go_wp2_with fail
                        go_round
                        case rel => exact ⟨d + 1, _, by omega, by go_num, by omega, by omega, h7⟩
                        case measure => simp [intOf]; omega
                    · obtain rfl : d = q := by omega
                      go_wp2_with fail
                      go_round
                      case rel => exact ⟨c + 1, _, _, by omega, by go_num, by omega, by omega, hs⟩
                      case measure => simp [intOf]; omega
            · obtain rfl : c = len2 := by omega
              go_wp2_with fail
              go_loopw [19] (fun k w => ∃ (d : Nat) (m : Nat → Bool) (ct' : Int), d ≤ q ∧ k = .int .i64 d ∧ (∀ i, i < d → m i = true) ∧ 0 ≤ ct' ∧ ct' ≤ ct + 2 * d ∧ St W (Hnd bh g q s (sn != (s == 1)) (an m s p) ct') w) (fun k _ => q - (intOf k).toNat)
              case atStart => exact ⟨0, m, _, Nat.zero_le _, rfl, fun i hi => absurd hi (by omega), by omega, by omega, hs.left⟩
              case round =>
                clear hs
                obtain ⟨d, m, ct', hd, rfl, hall, hk0, hk1, hs⟩ := hrel
                by_cases hld : d < q
                · have ho : an m s p d ≠ -1 := by unfold an; split <;> omega
                  have hall' := Lib.hid (show ∀ i, i < d + 1 → setB m d true i = true from fun i hi => by unfold setB; split; rfl; exact hall i (by omega))
                  clear hall
                  go_wp2_with fail
                  with_reducible refine (hs.call fun S h => hand_answer d s hld (by omega) ho hs0 hs4 hk0 (by omega) h).mono ?_
                  rintro e w4 ⟨rfl, h5⟩
                  rw [an_step] at h5
                  clear hs ho
                  go_wp2_with fail
                  with_reducible refine (h5.call fun S h => hand_poll d (by omega) (by omega) (by omega) h).mono ?_
                  rintro e w5 ⟨rfl, h6⟩
                  rw [an_poll _ hld hs0 hp0 hne, show setB m d true d = true by simp [setB]]
                  clear h5
                  go_wp2_with fail
                  with_reducible refine (h6.look fun S h => hand_status d (by omega) h).mono ?_
                  rintro e w6 ⟨rfl, rfl⟩
                  rw [hSt_in hld, show an (setB m d true) s p d = s by simp [an, setB]]
                  go_wp2_with fail
                  go_round
                  case rel => exact ⟨d + 1, _, _, by omega, by go_num, hall'.out, by omega, by omega, h6⟩
                  case measure => simp [intOf]; omega
                · obtain rfl : d = q := by omega
                  go_wp2_with fail
                  go_round
                  case rel =>
                    refine ⟨r + 1, sn != (s == 1), ct', by omega, by go_num, by omega, by omega, ?_⟩
                    have e1 : (((r + 1 : Nat) : Int) % 5) = s := by rw [HSE.out]; omega
                    rw [e1]
                    exact hnd_congr (fun k hk => by simp [an, hall k hk]) hs
                  case measure => simp [intOf]; omega
        · obtain rfl : r = rr := by omega
          go_wp2_with fail
          with_reducible refine (hand_first _).mono ?_
          rintro e w6 ⟨rfl, hb1⟩
          go_wp2_with fail
          go_ret
          exact ⟨rfl, (hs.later hb1).below⟩
theorem handRounds_all (n r : Int) (a2 : Option Addr) (len2 cap2 : Nat) (z2 : List Int) (W : World) (w2 : IsRow .i64 W a2 len2 cap2 z2) :
    Calls Try.prog 3 #[.int .i64 n, .int .i64 r, .slice a2 len2 cap2] W fun e w' => e = .returned (.bool true) ∧ Below W.heap.size W w' := by
  by_cases hm : n < 1 ∨ 16 < n
  · exact handRounds_no n r a2 len2 cap2 W hm
  by_cases hm2 : r < 0 ∨ 20 < r ∨ 100 < (len2 : Int)
  · exact handRounds_out n r a2 len2 cap2 W (by omega) (by omega) hm2
  obtain ⟨k, rfl⟩ : ∃ k : Nat, n = (k : Int) := ⟨n.toNat, by omega⟩
  obtain ⟨j, rfl⟩ : ∃ j : Nat, r = (j : Int) := ⟨r.toNat, by omega⟩
  exact handRounds_walk k j a2 len2 cap2 z2 W w2 (by omega) (by omega) (by omega) (by omega)
end Go.Proofs.Ytmfnfeadpelckaa
