/- The laws of chapter 7 that have no second table and no loop. -/
import Derived.Test.YtcdmlimhkmbiiaaTint4
import Derived.LoopTactic
namespace Go.Proofs.Ytcdmlimhkmbiiaa
open Go.RowKit

set_option maxHeartbeats 800000 in
theorem tint_first (W : World) :
    Calls Try.prog 28 #[] W fun e w' => e = .returned (.bool true) ∧ Below W.heap.size W w' := by
  go_enter Try.func28, Try.ntmps28
  go_wp2_with fail
  with_reducible refine (tint_newI 2 _ (by omega) (by omega)).mono ?_
  rintro e w1 ⟨b, rfl, hP, hB⟩
  have h1 := St.begin (Below.refl _ _) hP hB
  clear hP hB
  go_wp2_with fail
  with_reducible refine (tint_counts_st h1).mono ?_
  rintro e w2 ⟨rfl, h2⟩
  rw [show cnt blank 0 (Int.toNat 2) = 2 from rfl, show cnt blank 1 (Int.toNat 2) = 0 from rfl, show cnt blank 2 (Int.toNat 2) = 0 from rfl]
  clear h1
  go_wp2_with fail
  with_reducible refine (h2.look fun S h => tint_len h).mono ?_
  rintro e w3 ⟨rfl, rfl⟩
  go_wp2_with fail
  with_reducible refine (h2.call fun S h => tint_set 0 2 false false h).mono ?_
  rintro e w3 ⟨rfl, h3⟩
  rw [show tSets (Int.toNat 2) 0 2 = true from rfl]
  clear h2
  go_wp2_with fail
  with_reducible refine (h3.call fun S h => tint_mark 0 true h).mono ?_
  rintro e w4 ⟨rfl, h4⟩
  rw [show tMarks (Int.toNat 2) (tSet (Int.toNat 2) blank 0 2 false false) 0 true = true from rfl]
  clear h3
  go_wp2_with fail
  with_reducible refine (h4.look fun S h => tint_black 0 true h).mono ?_
  rintro e w5 ⟨rfl, rfl⟩
  rw [show tBlack (Int.toNat 2) (tMark (Int.toNat 2) (tSet (Int.toNat 2) blank 0 2 false false) 0 true) 0 true = true from rfl]
  go_wp2_with fail
  go_ret
  exact ⟨rfl, h4.below⟩

set_option maxHeartbeats 800000 in
theorem tintBorn_no (n i st : Int) (sn : Bool) (W : World) (hm : n < 0 ∨ 1024 < n) :
    Calls Try.prog 11 #[.int .i64 n, .int .i64 i, .int .i64 st, .bool sn] W fun e w' => e = .returned (.bool true) ∧ Below W.heap.size W w' := by
  go_enter Try.func11, Try.ntmps11
  go_wp2_with fail
  with_reducible refine (tint_first _).mono ?_
  rintro e wa ⟨rfl, hb0⟩
  go_wp2_with fail
  with_reducible refine (tint_new_no n _ hm).mono ?_
  rintro e wb ⟨rfl, rfl⟩
  clear hm
  go_wp2_with fail
  with_reducible refine (tint_first _).mono ?_
  rintro e wa ⟨rfl, hb1⟩
  go_wp2_with fail
  go_ret
  exact ⟨rfl, hb0.trans (hb1.mono hb0.size)⟩

set_option maxHeartbeats 1600000 in
theorem tintBorn_out (n i st : Int) (sn : Bool) (W : World) (h0 : 0 ≤ n) (h1 : n ≤ 1024) (hm : 100 < n ∨ st < 0 ∨ 2 < st) :
    Calls Try.prog 11 #[.int .i64 n, .int .i64 i, .int .i64 st, .bool sn] W fun e w' => e = .returned (.bool true) ∧ Below W.heap.size W w' := by
  go_enter Try.func11, Try.ntmps11
  go_wp2_with fail
  with_reducible refine (tint_first _).mono ?_
  rintro e wa ⟨rfl, hb0⟩
  go_wp2_with fail
  with_reducible refine (tint_newI n _ h0 h1).mono ?_
  rintro e wb ⟨b, rfl, hP, hB⟩
  have hs := St.begin hb0 hP hB
  clear hP hB
  by_cases c1 : 100 < n
  case neg => by_cases c2 : st < 0
              case neg =>
                have c3 : 2 < st := by omega
                clear hm
                go_wp2_with fail
                with_reducible refine (tint_first _).mono ?_
                rintro e wa ⟨rfl, hb1⟩
                go_wp2_with fail
                go_ret
                exact ⟨rfl, (hs.later hb1).below⟩
              clear hm
              go_wp2_with fail
              with_reducible refine (tint_first _).mono ?_
              rintro e wa ⟨rfl, hb1⟩
              go_wp2_with fail
              go_ret
              exact ⟨rfl, (hs.later hb1).below⟩
  clear hm
  go_wp2_with fail
  with_reducible refine (tint_first _).mono ?_
  rintro e wa ⟨rfl, hb1⟩
  go_wp2_with fail
  go_ret
  exact ⟨rfl, (hs.later hb1).below⟩

theorem tIn_dec (n : Nat) (i : Int) : decide (tIn n i) = (decide (0 ≤ i) && decide (i < (n : Int))) := by rw [Bool.eq_iff_iff, decide_eq_true_iff]; simp [tIn]

/-- What the steps of the law answer. -/
theorem born_facts (n : Nat) (i st : Int) (sn : Bool) (h0 : 0 ≤ st) (h1 : st ≤ 2) : tSets n i st = decide (tIn n i) ∧ tBears n (tSet n blank i st false sn) i = (decide (tIn n i) && st == 2) ∧
    tBears n (tBorn n (tSet n blank i st false sn) i) i = false ∧
    tHead n (tBorn n (tBorn n (tSet n blank i st false sn) i) i) i = (decide (tIn n i) && st == 2) ∧
    tBlack n (tBorn n (tBorn n (tSet n blank i st false sn) i) i) i sn = (decide (tIn n i) && st == 2) ∧
    tBlack n (tBorn n (tBorn n (tSet n blank i st false sn) i) i) i (!sn) = false := by
  by_cases hi : tIn n i
  · have e0 : tSets n i st = true := by simp [tSets, hi, h0, h1]
    have e1 : tSet n blank i st false sn = upd blank i.toNat ⟨st.toNat, false, sn⟩ := by simp [tSet, e0]
    rw [e0, e1]
    by_cases h2 : st = 2
    · subst h2
      have e2 : tBears n (upd blank i.toNat ⟨Int.toNat 2, false, sn⟩) i = true := by simp [tBears, tState, tHead, hi, upd]
      have e3 : tBorn n (upd blank i.toNat ⟨Int.toNat 2, false, sn⟩) i = upd (upd blank i.toNat ⟨Int.toNat 2, false, sn⟩) i.toNat ⟨2, true, sn⟩ := by unfold tBorn; rw [if_pos e2]; simp [upd]
      have e4 : tBears n (upd (upd blank i.toNat ⟨Int.toNat 2, false, sn⟩) i.toNat ⟨2, true, sn⟩) i = false := by simp [tBears, tState, tHead, hi, upd]
      rw [e2, e3, e4]
      have e5 : tBorn n (upd (upd blank i.toNat ⟨Int.toNat 2, false, sn⟩) i.toNat ⟨2, true, sn⟩) i = upd (upd blank i.toNat ⟨Int.toNat 2, false, sn⟩) i.toNat ⟨2, true, sn⟩ := by unfold tBorn; rw [if_neg (by rw [e4]; simp)]
      rw [e5]
      simp [tHead, tBlack, hi, upd]
    · have e2 : tBears n (upd blank i.toNat ⟨st.toNat, false, sn⟩) i = false := by simp [tBears, tState, tHead, hi, upd]; omega
      have e3 : tBorn n (upd blank i.toNat ⟨st.toNat, false, sn⟩) i = upd blank i.toNat ⟨st.toNat, false, sn⟩ := by simp [tBorn, e2]
      rw [e3, e2, e3]
      have e4 : (st == 2) = false := by simpa using h2
      have e5 : (st.toNat == 2) = false := by simp; omega
      simp [tHead, tBlack, hi, upd, e4, e5]
  · have e0 : tSets n i st = false := by simp [tSets, hi]
    have e2 : ∀ f, tBears n f i = false := fun f => by simp [tBears, tState, hi]
    have e3 : ∀ f, tBorn n f i = f := fun f => by simp [tBorn, e2]
    simp [e0, e2, tHead, tBlack, hi]

set_option maxHeartbeats 1600000 in
theorem tintBorn_walk (n : Nat) (i st : Int) (sn : Bool) (W : World) (h1 : (n : Int) ≤ 100) (h2 : 0 ≤ st) (h3 : st ≤ 2) :
    Calls Try.prog 11 #[.int .i64 n, .int .i64 i, .int .i64 st, .bool sn] W fun e w' => e = .returned (.bool true) ∧ Below W.heap.size W w' := by
  obtain ⟨f1, f2, f3, f4, f5, f6⟩ := born_facts n i st sn h2 h3
  have F1 := Lib.hid f1
  have F2 := Lib.hid f2
  have F3 := Lib.hid f3
  have F4 := Lib.hid f4
  have F5 := Lib.hid f5
  have F6 := Lib.hid f6
  clear f1 f2 f3 f4 f5 f6
  obtain ⟨q, hq⟩ : ∃ q, q = decide (tIn n i) := ⟨_, rfl⟩
  rw [← hq] at F1 F2 F4 F5
  obtain ⟨u, hu⟩ : ∃ u, u = (st == 2) := ⟨_, rfl⟩
  rw [← hu] at F2 F4 F5
  have HQ := Lib.hid hq
  have HU := Lib.hid hu
  clear hq hu
  go_enter Try.func11, Try.ntmps11
  go_wp2_with fail
  with_reducible refine (tint_first _).mono ?_
  rintro e wa ⟨rfl, hb0⟩
  go_wp2_with fail
  with_reducible refine (tint_new n _ (by omega)).mono ?_
  rintro e wb ⟨b, rfl, hP, hB⟩
  have hs := St.begin hb0 hP hB
  clear hP hB
  by_cases ci : 0 ≤ i
  all_goals by_cases cn : i < (n : Int)
  all_goals by_cases cs : st = 2
  all_goals
    first | (have d0 : decide (0 ≤ i) = true := by simpa using ci) | (have d0 : decide (0 ≤ i) = false := by simpa using ci)
    first | (have d1 : decide (i < (n : Int)) = true := by simpa using cn) | (have d1 : decide (i < (n : Int)) = false := by simpa using cn)
    first | (have d2 : (st == 2) = true := by simpa using cs) | (have d2 : (st == 2) = false := by simpa using cs)
    rw [HU.out] at F2 F4 F5
    rw [HQ.out] at F1 F2 F4 F5
    rw [tIn_dec] at F1 F2 F4 F5
    simp only [d0, d1, d2, Bool.and_true, Bool.and_false] at F1 F2 F4 F5
    clear ci cn cs HU HQ
    go_wp2_with fail
    with_reducible refine (hs.call fun S h => tint_set i st false sn h).mono ?_
    rintro e w2 ⟨rfl, h4⟩
    rw [F1.out]
    clear hs F1
    go_wp2_with fail
    with_reducible refine (h4.call fun S h => tint_born i h).mono ?_
    rintro e w3 ⟨rfl, h5⟩
    rw [F2.out]
    clear h4 F2
    go_wp2_with fail
    with_reducible refine (h5.call fun S h => tint_born i h).mono ?_
    rintro e w4 ⟨rfl, h6⟩
    rw [F3.out]
    clear h5 F3
    go_wp2_with fail
    with_reducible refine (tint_first _).mono ?_
    rintro e w5 ⟨rfl, hb5⟩
    have h7 := h6.later hb5
    clear h6 hb5
    go_wp2_with fail
    with_reducible refine (h7.look fun S h => tint_head i h).mono ?_
    rintro e w6 ⟨rfl, rfl⟩
    rw [F4.out]
    go_wp2_with fail
    with_reducible refine (h7.look fun S h => tint_black i sn h).mono ?_
    rintro e w6 ⟨rfl, rfl⟩
    rw [F5.out]
    go_wp2_with fail
    with_reducible refine (h7.look fun S h => tint_black i (!sn) h).mono ?_
    rintro e w6 ⟨rfl, rfl⟩
    rw [F6.out]
    go_wp2_with fail
    go_ret
    exact ⟨rfl, h7.below⟩
end Go.Proofs.Ytcdmlimhkmbiiaa
