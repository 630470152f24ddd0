/- The walk of TintSets. -/
import Derived.Test.YtcdmlimhkmbiiaaTintLaws
import Derived.LoopTactic
namespace Go.Proofs.Ytcdmlimhkmbiiaa
open Go.RowKit

set_option maxHeartbeats 800000 in
theorem tintSets_no (n i st : Int) (hd sn : Bool) (W : World) (hm : n < 0 ∨ 1024 < n) :
    Calls Try.prog 8 #[.int .i64 n, .int .i64 i, .int .i64 st, .bool hd, .bool sn] W fun e w' => e = .returned (.bool true) ∧ Below W.heap.size W w' := by
  go_enter Try.func8, Try.ntmps8
  go_wp2_with fail
  with_reducible refine (tint_first _).mono ?_
  rintro e wa ⟨rfl, hb0⟩
  go_wp2_with fail
  with_reducible refine (tint_new_no n _ hm).mono ?_
  rintro e wb ⟨rfl, rfl⟩
  clear hm
  go_wp2_with fail
  with_reducible refine (tint_first _).mono ?_
  rintro e wa ⟨rfl, hb1⟩
  go_wp2_with fail
  go_ret
  exact ⟨rfl, hb0.trans (hb1.mono hb0.size)⟩

set_option maxHeartbeats 1600000 in
theorem tintSets_out (n i st : Int) (hd sn : Bool) (W : World) (h0 : 0 ≤ n) (h1 : n ≤ 1024) (hm : n < 1 ∨ 100 < n ∨ i < 0 ∨ n ≤ i ∨ st < 0 ∨ 2 < st) :
    Calls Try.prog 8 #[.int .i64 n, .int .i64 i, .int .i64 st, .bool hd, .bool sn] W fun e w' => e = .returned (.bool true) ∧ Below W.heap.size W w' := by
  go_enter Try.func8, Try.ntmps8
  go_wp2_with fail
  with_reducible refine (tint_first _).mono ?_
  rintro e wa ⟨rfl, hb0⟩
  go_wp2_with fail
  with_reducible refine (tint_newI n _ h0 h1).mono ?_
  rintro e wb ⟨b, rfl, hP, hB⟩
  have hs := St.begin hb0 hP hB
  clear hP hB
  go_wp2_with fail
  all_goals
    with_reducible refine (tint_first _).mono ?_
    rintro e wa ⟨rfl, hb1⟩
    go_wp2_with fail
    go_ret
    exact ⟨rfl, (hs.later hb1).below⟩

theorem tSet_no {n : Nat} {f : Nat → One} {i st : Int} {hd sn : Bool} (h : tSets n i st = false) : tSet n f i st hd sn = f := by unfold tSet; rw [h]; rfl
theorem tState_out {n : Nat} {f : Nat → One} {i : Int} (h : ¬ tIn n i) : tState n f i = 0 := by unfold tState; rw [if_neg h]
theorem tHead_out {n : Nat} {f : Nat → One} {i : Int} (h : ¬ tIn n i) : tHead n f i = false := by unfold tHead; rw [if_neg h]
theorem tBlack_out {n : Nat} {f : Nat → One} {i : Int} {s : Bool} (h : ¬ tIn n i) : tBlack n f i s = false := by unfold tBlack; rw [if_neg h]
theorem tState_in {n : Nat} {f : Nat → One} {k : Nat} (h : k < n) : tState n f (k : Int) = (f k).st := by unfold tState; rw [if_pos ⟨by omega, by omega⟩]; rfl
theorem tHead_in {n : Nat} {f : Nat → One} {k : Nat} (h : k < n) : tHead n f (k : Int) = (f k).hd := by unfold tHead; rw [if_pos ⟨by omega, by omega⟩]; rfl
theorem tBlack_in {n : Nat} {f : Nat → One} {k : Nat} {s : Bool} (h : k < n) : tBlack n f (k : Int) s = ((f k).st == 2 && ((f k).sn == s)) := by unfold tBlack; rw [if_pos ⟨by omega, by omega⟩]; rfl
theorem tSets_yes {n k : Nat} {st : Int} (h : k < n) (h1 : 0 ≤ st) (h2 : st ≤ 2) : tSets n (k : Int) st = true := by
  unfold tSets; exact decide_eq_true ⟨⟨by omega, by omega⟩, h1, h2⟩
theorem tSets_st {n : Nat} {i st : Int} (h : st < 0 ∨ 2 < st) : tSets n i st = false := by
  unfold tSets; exact decide_eq_false (fun h' => by omega)
theorem tSets_out {n : Nat} {i st : Int} (h : ¬ tIn n i) : tSets n i st = false := by
  unfold tSets; exact decide_eq_false (fun h' => h h'.1)
theorem not_in_n (n : Nat) : ¬ tIn n (n : Int) := fun h => by have := h.2; omega
theorem not_in_neg (n : Nat) : ¬ tIn n (-1) := fun h => by have := h.1; omega
theorem tSet_yes {n k : Nat} {f : Nat → One} {st : Int} {hd sn : Bool} (h : k < n) (h1 : 0 ≤ st) (h2 : st ≤ 2) : tSet n f (k : Int) st hd sn = upd f k ⟨st.toNat, hd && st == 2, sn⟩ := by
  unfold tSet; rw [tSets_yes h h1 h2, if_pos rfl]
  have : (st.toNat == 2) = (st == 2) := by rw [Bool.eq_iff_iff]; simp; omega
  rw [this]; rfl

set_option maxRecDepth 100000 in
set_option maxHeartbeats 3200000 in
theorem tintSets_walk (n i : Nat) (st : Int) (hd sn : Bool) (W : World) (h1 : (1 : Int) ≤ n) (h2 : (n : Int) ≤ 100) (hi : i < n) (h3 : 0 ≤ st) (h4 : st ≤ 2) :
    Calls Try.prog 8 #[.int .i64 n, .int .i64 i, .int .i64 st, .bool hd, .bool sn] W fun e w' => e = .returned (.bool true) ∧ Below W.heap.size W w' := by
  obtain ⟨f1, hf1⟩ : ∃ f1, f1 = upd blank i ⟨st.toNat, hd && st == 2, sn⟩ := ⟨_, rfl⟩
  have F0 : Hid (tSet n blank i st hd sn = f1) := by show _ = _; rw [tSet_yes hi h3 h4, hf1]
  have F1 : Hid ((tState n f1 (i : Int) : Int) = st) := by show _ = _; rw [tState_in hi, hf1, upd_same]; simp; omega
  have F2 : Hid (tHead n f1 (i : Int) = (hd && st == 2)) := by show _ = _; rw [tHead_in hi, hf1, upd_same]
  have F3 : Hid (tBlack n f1 (i : Int) sn = (st == 2)) := by
    show _ = _; rw [tBlack_in hi, hf1, upd_same]
    rw [Bool.eq_iff_iff]; simp; omega
  have F4 : ∀ k, k ≠ i → Hid (f1 k = blank k) := fun k hk => by show _ = _; rw [hf1, upd_other _ _ hk]
  clear hf1
  go_enter Try.func8, Try.ntmps8
  go_wp2_with fail
  with_reducible refine (tint_first _).mono ?_
  rintro e wa ⟨rfl, hb0⟩
  go_wp2_with fail
  with_reducible refine (tint_new n _ (by omega)).mono ?_
  rintro e wb ⟨b, rfl, hP, hB⟩
  have hs := St.begin hb0 hP hB
  clear hP hB
  go_wp2_with fail
  with_reducible refine (hs.call fun S h => tint_set i st hd sn h).mono ?_
  rintro e w2 ⟨rfl, h5⟩
  rw [F0.out] at h5
  rw [tSets_yes hi h3 h4]
  clear hs F0
  go_wp2_with fail
  with_reducible refine (h5.call fun S h => tint_set i 3 hd sn h).mono ?_
  rintro e w3 ⟨rfl, h6⟩
  rw [tSet_no (tSets_st (.inr (by omega)))] at h6
  rw [tSets_st (.inr (by omega))]
  clear h5
  go_wp2_with fail
  with_reducible refine (h6.call fun S h => tint_set i (-1) hd sn h).mono ?_
  rintro e w4 ⟨rfl, h7⟩
  rw [tSet_no (tSets_st (.inl (by omega)))] at h7
  rw [tSets_st (.inl (by omega))]
  clear h6
  go_wp2_with fail
  with_reducible refine (h7.call fun S h => tint_set n st hd sn h).mono ?_
  rintro e w5 ⟨rfl, h8⟩
  rw [tSet_no (tSets_out (not_in_n n))] at h8
  rw [tSets_out (not_in_n n)]
  clear h7
  go_wp2_with fail
  with_reducible refine (h8.call fun S h => tint_set (-1) st hd sn h).mono ?_
  rintro e w6 ⟨rfl, h9⟩
  rw [tSet_no (tSets_out (not_in_neg n))] at h9
  rw [tSets_out (not_in_neg n)]
  clear h8
  go_wp2_with fail
  go_loopw [13] (fun k w => ∃ q : Nat, q ≤ n ∧ k = .int .i64 q ∧ St W (Tab b n f1) w) (fun k _ => n - (intOf k).toNat)
  case atStart => exact ⟨0, Nat.zero_le _, rfl, h9⟩
  case round =>
    clear h9
    obtain ⟨q, hq, rfl, hs⟩ := hrel
    by_cases hlt : q < n
    · by_cases hqi : q = i
      · subst hqi
        clear F4
        cases hd
        all_goals by_cases h22 : (st == 2) = true
        all_goals
          first | (have d2 : (st == 2) = true := h22) | (have d2 : (st == 2) = false := by simpa using h22)
          rw [d2] at F2 F3
          clear h22
          go_wp2_with fail
          with_reducible refine (hs.look fun S h => tint_state q h).mono ?_
          rintro e w7 ⟨rfl, rfl⟩
          rw [F1.out]
          go_wp2_with fail
          with_reducible refine (hs.look fun S h => tint_head q h).mono ?_
          rintro e w7 ⟨rfl, rfl⟩
          rw [F2.out]
          go_wp2_with fail
          with_reducible refine (hs.look fun S h => tint_black q sn h).mono ?_
          rintro e w7 ⟨rfl, rfl⟩
          rw [F3.out]
          go_wp2_with fail
          go_round
          case rel => exact ⟨q + 1, by omega, by go_num, hs⟩
          case measure => simp [intOf]; omega
      · have d3 : (q == i) = false := by simpa using hqi
        have G1 : Hid ((tState n f1 (q : Int) : Int) = 0) := by show _ = _; rw [tState_in hlt, (F4 q hqi).out]; rfl
        have G2 : Hid (tHead n f1 (q : Int) = false) := by show _ = _; rw [tHead_in hlt, (F4 q hqi).out]; rfl
        have G3 : Hid (tBlack n f1 (q : Int) sn = false) := by show _ = _; rw [tBlack_in hlt, (F4 q hqi).out]; rfl
        clear F1 F2 F3 F4
        go_wp2_with fail
        with_reducible refine (hs.look fun S h => tint_state q h).mono ?_
        rintro e w7 ⟨rfl, rfl⟩
        rw [G1.out]
        go_wp2_with fail
        with_reducible refine (hs.look fun S h => tint_head q h).mono ?_
        rintro e w7 ⟨rfl, rfl⟩
        rw [G2.out]
        go_wp2_with fail
        with_reducible refine (hs.look fun S h => tint_black q sn h).mono ?_
        rintro e w7 ⟨rfl, rfl⟩
        rw [G3.out]
        go_wp2_with fail
        go_round
        case rel => exact ⟨q + 1, by omega, by go_num, hs⟩
        case measure => simp [intOf]; omega
    · obtain rfl : q = n := by omega
      clear F1 F2 F3 F4
      go_wp2_with fail
      with_reducible refine (tint_first _).mono ?_
      rintro e w7 ⟨rfl, hb7⟩
      have h10 := hs.later hb7
      clear hs hb7
      go_wp2_with fail
      with_reducible refine (h10.look fun S h => tint_state q h).mono ?_
      rintro e w8 ⟨rfl, rfl⟩
      rw [tState_out (not_in_n q)]
      go_wp2_with fail
      with_reducible refine (h10.look fun S h => tint_head (-1) h).mono ?_
      rintro e w8 ⟨rfl, rfl⟩
      rw [tHead_out (not_in_neg q)]
      go_wp2_with fail
      with_reducible refine (h10.look fun S h => tint_black q sn h).mono ?_
      rintro e w8 ⟨rfl, rfl⟩
      rw [tBlack_out (not_in_n q)]
      go_wp2_with fail
      go_ret
      exact ⟨rfl, h10.below⟩
end Go.Proofs.Ytcdmlimhkmbiiaa
