/- The walk of TintSums. -/
import Derived.Test.YtcdmlimhkmbiiaaTintFlipsW
import Derived.Test.YtcdmlimhkmbiiaaArgs
import Derived.Deep.DeepCutAuto
import Derived.Deep.CutBlock
import Derived.IntWalk
namespace Go.Proofs.Ytcdmlimhkmbiiaa
open Go.RowKit

def headsUsed (n : Nat) (f : Nat → One) : Prop := ∀ k, k < n → (f k).hd = true → (f k).st = 2
theorem headsUsed.set {n : Nat} {f : Nat → One} (h : headsUsed n f) (i st : Int) (hd sn : Bool) : headsUsed n (tSet n f i st hd sn) := by
  intro k hk hh
  unfold tSet at hh ⊢
  split at hh
  · rename_i hs
    rw [if_pos hs]
    unfold upd at hh ⊢
    split at hh
    · rename_i e; rw [if_pos e]; simp at hh ⊢; exact hh.2
    · rename_i e; rw [if_neg e]; exact h k hk hh
  · rename_i hs; rw [if_neg hs]; exact h k hk hh
theorem headsUsed.born {n : Nat} {f : Nat → One} (h : headsUsed n f) (i : Int) : headsUsed n (tBorn n f i) := by
  intro k hk hh
  unfold tBorn at hh ⊢
  split at hh
  · rename_i hs
    rw [if_pos hs]
    unfold upd at hh ⊢
    split at hh
    · rename_i e
      rw [if_pos e]
      simp only [tBears, Bool.and_eq_true, beq_iff_eq] at hs
      have hi := tIn_of_state hs.1
      have := hs.1
      unfold tState at this
      rw [if_pos hi] at this
      exact this
    · rename_i e; rw [if_neg e]; exact h k hk hh
  · rename_i hs; rw [if_neg hs]; exact h k hk hh
theorem headsUsed.mark {n : Nat} {f : Nat → One} (h : headsUsed n f) (i : Int) (s : Bool) : headsUsed n (tMark n f i s) := by
  intro k hk hh
  unfold tMark at hh ⊢
  split at hh
  · rename_i hs
    rw [if_pos hs]
    unfold upd at hh ⊢
    split at hh
    · rename_i e; rw [if_pos e]; simp only at hh ⊢; rw [← e] at hh ⊢; exact h k hk hh
    · rename_i e; rw [if_neg e]; exact h k hk hh
  · rename_i hs; rw [if_neg hs]; exact h k hk hh
theorem cnt_all {f : Nat → One} : ∀ n, (∀ k, k < n → (f k).st ≤ 2) → cnt f 0 n + cnt f 1 n + cnt f 2 n = n
  | 0, _ => rfl
  | n + 1, h => by
    have := cnt_all n (fun k hk => h k (by omega))
    have h2 := h n (by omega)
    simp only [cnt]
    match hst : (f n).st, h2 with
    | 0, _ => simp; omega
    | 1, _ => simp; omega
    | 2, _ => simp; omega
theorem St.tabSum {W w : World} {b n : Nat} {f : Nat → One} (h : St W (Tab b n f) w) : cnt f 0 n + cnt f 1 n + cnt f 2 n = n := by
  obtain ⟨⟨S, ⟨g, cs, _, _, _, _, _, _, h7, _⟩, _⟩, _⟩ := h
  exact cnt_all n h7
/-- What a fragment is told to be: used and of a colour, or not used. -/
theorem told_all {n : Nat} {f : Nat → One} (h : headsUsed n f) (i : Int) :
    (∃ p : Bool, tState n f i = 2 ∧ tBlack n f i true = p ∧ tBlack n f i false = !p) ∨ (((tState n f i : Int) == 2) = false ∧ tBlack n f i true = false ∧ tBlack n f i false = false ∧ tHead n f i = false) := by
  by_cases hs : tState n f i = 2
  · have hi := tIn_of_state hs
    refine .inl ⟨(f i.toNat).sn, hs, ?_, ?_⟩ <;> (unfold tState at hs; rw [if_pos hi] at hs; unfold tBlack; rw [if_pos hi, hs]; cases (f i.toNat).sn <;> rfl)
  · refine .inr ⟨by simp; omega, ?_⟩
    by_cases hi : tIn n i
    · unfold tState at hs
      rw [if_pos hi] at hs
      have e : ((f i.toNat).st == 2) = false := by simpa using hs
      refine ⟨by unfold tBlack; rw [if_pos hi, e]; rfl, by unfold tBlack; rw [if_pos hi, e]; rfl, ?_⟩
      unfold tHead
      rw [if_pos hi]
      cases hh : (f i.toNat).hd with
      | false => rfl
      | true => exact absurd (h _ (by have := hi.1; have := hi.2; omega) hh) hs
    · exact ⟨tBlack_out hi, tBlack_out hi, tHead_out hi⟩
/-- Of a mark. -/
theorem mark_all {n : Nat} {f : Nat → One} (i : Int) (s : Bool) : tMarks n f i s = (((tState n f i : Int) == 2) && !tBlack n f i s) ∧ tMarks n (tMark n f i s) i s = false ∧ tBlack n (tMark n (tMark n f i s) i s) i s = ((tState n f i : Int) == 2) := by
  have e0 : ((tState n f i : Int) == 2) = (tState n f i == 2) := by rw [Bool.eq_iff_iff]; simp; omega
  rw [e0]
  refine ⟨rfl, ?_⟩
  by_cases hi : tIn n i
  · by_cases hu : (f i.toNat).st = 2
    · have hst : tState n f i = 2 := by unfold tState; rw [if_pos hi]; exact hu
      have hbl : tBlack n f i s = ((f i.toNat).sn == s) := by unfold tBlack; rw [if_pos hi, hu]; rfl
      cases hm : ((f i.toNat).sn == s) with
      | true =>
        have m1 : tMarks n f i s = false := by unfold tMarks; rw [hbl, hm, hst]; rfl
        have m2 : tMark n f i s = f := by unfold tMark; rw [m1]; rfl
        rw [m2, m1, m2, hbl, hm, hst]
        exact ⟨rfl, rfl⟩
      | false =>
        have m1 : tMarks n f i s = true := by unfold tMarks; rw [hbl, hm, hst]; rfl
        have m2 : tMark n f i s = upd f i.toNat ⟨(f i.toNat).st, (f i.toNat).hd, s⟩ := by unfold tMark; rw [m1]; rfl
        have b2 : tBlack n (tMark n f i s) i s = true := by unfold tBlack; rw [if_pos hi, m2, upd_same, hu]; cases s <;> rfl
        have m3 : tMarks n (tMark n f i s) i s = false := by unfold tMarks; rw [b2]; cases (tState n (tMark n f i s) i == 2) <;> rfl
        have m4 : tMark n (tMark n f i s) i s = tMark n f i s := by rw [tMark, m3]; rfl
        rw [m3, m4, b2, hst]
        exact ⟨rfl, rfl⟩
    · have hst : (tState n f i == 2) = false := by unfold tState; rw [if_pos hi]; simpa using hu
      have m1 : tMarks n f i s = false := by unfold tMarks; rw [hst]; rfl
      have m2 : tMark n f i s = f := by unfold tMark; rw [m1]; rfl
      have b2 : tBlack n f i s = false := by
        have e : ((f i.toNat).st == 2) = false := by simpa using hu
        unfold tBlack; rw [if_pos hi, e]; rfl
      rw [m2, m1, m2, b2, hst]
      exact ⟨rfl, rfl⟩
  · have hst : (tState n f i == 2) = false := by rw [tState_out hi]; rfl
    have m1 : tMarks n f i s = false := by unfold tMarks; rw [hst]; rfl
    have m2 : tMark n f i s = f := by unfold tMark; rw [m1]; rfl
    rw [m2, m1, m2, tBlack_out hi, hst]
    exact ⟨rfl, rfl⟩

set_option maxRecDepth 100000 in
set_option maxHeartbeats 1600000 in
theorem tintSums_no (n : Int) (a1 : Option Addr) (len1 cap1 : Nat) (W : World) (hm : n < 0 ∨ 1024 < n) :
    Calls Try.prog 10 #[.int .i64 n, .slice a1 len1 cap1] W fun e w' => e = .returned (.bool true) ∧ Below W.heap.size W w' := by
  have hm2 : (decide (0 ≤ n) = true ∧ decide (n ≤ 1024) = false) ∨ decide (0 ≤ n) = false := by simp; omega
  go_enter Try.func10, Try.ntmps10
  go_wp2_with fail
  with_reducible refine (tint_first _).mono ?_
  rintro e wa ⟨rfl, hb0⟩
  go_wp2_with fail
  with_reducible refine (tint_new_no n _ hm).mono ?_
  rintro e wb ⟨rfl, rfl⟩
  clear hm
  go_wp2_with fail
  with_reducible refine (tint_first _).mono ?_
  rintro e wa ⟨rfl, hb1⟩
  rcases hm2 with ⟨ha, hb⟩ | ha
  all_goals
    go_wp2_with fail
    go_ret
    exact ⟨rfl, hb0.trans (hb1.mono hb0.size)⟩

set_option maxHeartbeats 1600000 in
theorem tintSums_out (n : Nat) (a1 : Option Addr) (len1 cap1 : Nat) (W : World) (h1 : (n : Int) ≤ 1024) (hm : (300 : Int) < len1) :
    Calls Try.prog 10 #[.int .i64 n, .slice a1 len1 cap1] W fun e w' => e = .returned (.bool true) ∧ Below W.heap.size W w' := by
  go_enter Try.func10, Try.ntmps10
  go_wp2_with fail
  with_reducible refine (tint_first _).mono ?_
  rintro e wa ⟨rfl, hb0⟩
  go_wp2_with fail
  with_reducible refine (tint_new n _ (by omega)).mono ?_
  rintro e wb ⟨b, rfl, hP, hB⟩
  have hs := St.begin hb0 hP hB
  clear hP hB
  go_wp2_with fail
  with_reducible refine (tint_first _).mono ?_
  rintro e wa ⟨rfl, hb1⟩
  go_wp2_with fail
  go_ret
  exact ⟨rfl, (hs.later hb1).below⟩

/-- The relation at the switch's end. -/
def SumsAt (W : World) (b n bo : Nat) (cs : Array Value) (w : World) : Prop := ∃ f, headsUsed n f ∧ St W (Sep (Tab b n f) (Var bo cs 56)) w

set_option maxRecDepth 100000 in
set_option maxHeartbeats 6400000 in
theorem tintSums_walk (n : Nat) (a1 : Option Addr) (len1 cap1 : Nat) (W : World) (w1 : IsStructs [false, false, false, true, true] W a1 len1) (h2 : (n : Int) ≤ 1024) (h3 : (len1 : Int) ≤ 300) :
    Calls Try.prog 10 #[.int .i64 n, .slice a1 len1 cap1] W fun e w' => e = .returned (.bool true) ∧ Below W.heap.size W w' := by
  go_enter Try.func10, Try.ntmps10
  go_wp2_with fail
  with_reducible refine (tint_first _).mono ?_
  rintro e wa ⟨rfl, hb0⟩
  go_wp2_with fail
  with_reducible refine (tint_new n _ (by omega)).mono ?_
  rintro e wb ⟨b, rfl, hP, hB⟩
  have hs := St.begin hb0 hP hB
  clear hP hB
  go_wp2_with fail
  go_loopw [7] (fun k w => ∃ (q : Nat) (f : Nat → One), q ≤ len1 ∧ k = .int .i64 q ∧ headsUsed n f ∧ St W (Tab b n f) w) (fun k _ => len1 - (intOf k).toNat)
  case atStart => exact ⟨0, _, Nat.zero_le _, rfl, fun k _ h => by simp [blank] at h, hs⟩
  case round =>
    clear hs
    obtain ⟨q, f, hq, rfl, hu, hs⟩ := hrel
    by_cases hlt : q < len1
    · obtain ⟨ab, off, kd, i, st, hd, sn, rfl, hab, c0, c1, c2, c3, c4⟩ := w1.five hlt
      have g0 := (hs.below.cell (p := ⟨ab, off + q * 5, none⟩) hab).trans c0
      have g1 := (hs.below.cell (p := ⟨ab, off + q * 5 + 1, none⟩) hab).trans c1
      have g2 := (hs.below.cell (p := ⟨ab, off + q * 5 + 2, none⟩) hab).trans c2
      have g3 := (hs.below.cell (p := ⟨ab, off + q * 5 + 3, none⟩) hab).trans c3
      have g4 := (hs.below.cell (p := ⟨ab, off + q * 5 + 4, none⟩) hab).trans c4
      go_upto_block 2 with fail
      clear g0 g1 g2 g3 g4 c0 c1 c2 c3 c4
      have h6 := hs.var #[.int .i64 kd, .int .i64 i, .int .i64 st, .bool hd, .bool sn] 56
      generalize hV : wr.alloc (.cells #[.int .i64 kd, .int .i64 i, .int .i64 st, .bool hd, .bool sn] 56) = w6 at h6 ⊢
      generalize hBo : wr.heap.size = bo at h6 ⊢
      clear hs hV hBo
      go_cut [] (fun w => SumsAt W b n bo #[.int .i64 kd, .int .i64 i, .int .i64 st, .bool hd, .bool sn] w)
      case first =>
        have v1 : w6.cell? ⟨bo, 1, none⟩ = some (.int .i64 i) := by rw [h6.right.blk.cell]; rfl
        have v2 : w6.cell? ⟨bo, 2, none⟩ = some (.int .i64 st) := by rw [h6.right.blk.cell]; rfl
        have v3 : w6.cell? ⟨bo, 3, none⟩ = some (.bool hd) := by rw [h6.right.blk.cell]; rfl
        have v4 : w6.cell? ⟨bo, 4, none⟩ = some (.bool sn) := by rw [h6.right.blk.cell]; rfl
        by_cases k0 : kd = 0
        · subst k0
          go_wp2_with fail
          with_reducible refine (h6.call (sepL fun S h => tint_set i st hd sn h)).mono ?_
          rintro e w7 ⟨rfl, h7⟩
          go_wp2_with fail
          go_meet
          exact ⟨_, hu.set i st hd sn, h7⟩
        have d0 : (kd == 0) = false := by simpa using k0
        by_cases k1 : kd = 1
        · subst k1
          clear k0 d0
          go_wp2_with fail
          with_reducible refine (h6.call (sepL fun S h => tint_born i h)).mono ?_
          rintro e w7 ⟨rfl, h7⟩
          go_wp2_with fail
          go_meet
          exact ⟨_, hu.born i, h7⟩
        have d1 : (kd == 1) = false := by simpa using k1
        by_cases k2 : kd = 2
        · subst k2
          clear k0 d0 k1 d1
          obtain ⟨m1, m2, m3⟩ := mark_all (n := n) (f := f) i sn
          have M1 := Lib.hid m1
          have M2 := Lib.hid m2
          have M3 := Lib.hid m3
          clear m1 m2 m3
          generalize hU : ((tState n f i : Int) == 2) = u at M1 M3
          generalize hP : tBlack n f i sn = p at M1
          have HU := Lib.hid hU
          have HP := Lib.hid hP
          clear hU hP
          go_wp2_with fail
          with_reducible refine (h6.look (lookL fun S h => tint_black i sn h)).mono ?_
          rintro e w7 ⟨rfl, rfl⟩
          rw [HP.out]
          go_wp2_with fail
          with_reducible refine (h6.look (lookL fun S h => tint_state i h)).mono ?_
          rintro e w7 ⟨rfl, rfl⟩
          have hU2 := HU.out
          go_wp2_with fail
          have h6' := h6
          with_reducible refine (h6.call (sepL fun S h => tint_mark i sn h)).mono ?_
          rintro e w7 ⟨rfl, h7⟩
          rw [M1.out]
          clear h6 h6' hU2 v1 v2 v3 v4
          have v1 : w7.cell? ⟨bo, 1, none⟩ = some (.int .i64 i) := by rw [h7.right.blk.cell]; rfl
          have v4 : w7.cell? ⟨bo, 4, none⟩ = some (.bool sn) := by rw [h7.right.blk.cell]; rfl
          cases u
          all_goals
            go_wp2_with fail
            with_reducible refine (h7.call (sepL fun S h => tint_mark i sn h)).mono ?_
            rintro e w8 ⟨rfl, h8⟩
            rw [M2.out]
            clear h7 v1 v4
            have v1 : w8.cell? ⟨bo, 1, none⟩ = some (.int .i64 i) := by rw [h8.right.blk.cell]; rfl
            have v4 : w8.cell? ⟨bo, 4, none⟩ = some (.bool sn) := by rw [h8.right.blk.cell]; rfl
            go_wp2_with fail
            with_reducible refine (h8.look (lookL fun S h => tint_black i sn h)).mono ?_
            rintro e w9 ⟨rfl, rfl⟩
            rw [M3.out]
            go_wp2_with fail
            go_meet
            exact ⟨_, (hu.mark i sn).mark i sn, h8⟩
        have d2 : (kd == 2) = false := by simpa using k2
        clear k0 k1 k2
        go_wp2_with fail
        go_meet
        exact ⟨_, hu, h6⟩
      case rest =>
        obtain ⟨f', hu', h7⟩ := hcut
        clear hu h6 f
        have v1 : wc.cell? ⟨bo, 1, none⟩ = some (.int .i64 i) := by rw [h7.right.blk.cell]; rfl
        have hsum := h7.left.tabSum
        have t0 := cnt_bd f' 0 n
        have t1 := cnt_bd f' 1 n
        have t2 := cnt_bd f' 2 n
        generalize hA : cnt f' 0 n = A at hsum t0
        generalize hB : cnt f' 1 n = B at hsum t1
        generalize hC : cnt f' 2 n = C at hsum t2
        have HS : Hid (A + B + C = n) := hsum
        have H0 := Lib.hid hA
        have H1 := Lib.hid hB
        have H2 := Lib.hid hC
        have E0 : Hid (IntKind.i64.wrap (A + B) = A + B) := IntWalk.i64_in _ (by omega)
        have E1 : Hid (IntKind.i64.wrap (A + B + C) = n) := by show _ = _; rw [IntWalk.i64_in _ (by omega)]; exact hsum
        clear hsum hA hB hC
        go_wp2_with fail
        have hcc : Calls Try.prog 40 #[.pointer (some ⟨b, 0, none⟩)] wc fun e w' => e = .returned (.tuple #[.int .i64 A, .int .i64 B, .int .i64 C]) ∧ St W (Sep (Tab b n f') (Var bo #[.int .i64 kd, .int .i64 i, .int .i64 st, .bool hd, .bool sn] 56)) w' := by
          rw [← H0.out, ← H1.out, ← H2.out]
          exact h7.call (sepL fun S h => (tint_counts h).mono fun _ _ ⟨he, hb⟩ => ⟨he, Goes.later h hb⟩)
        with_reducible refine hcc.mono ?_
        rintro e w8 ⟨rfl, h8⟩
        clear h7 hcc v1 H0 H1 H2
        have v1 : w8.cell? ⟨bo, 1, none⟩ = some (.int .i64 i) := by rw [h8.right.blk.cell]; rfl
        rcases told_all hu' i with ⟨p, o1, o2, o3⟩ | ⟨o1, o2, o3, o4⟩
        · have O1 := Lib.hid o1
          have C1 : Hid (∀ k, Calls Try.prog 31 #[.pointer (some ⟨b, 0, none⟩), .int .i64 i, .bool true] (w8.drewN k) fun e w'' => e = .returned (.bool p) ∧ ∃ m, w'' = w8.drewN m) := fun k => by
            refine look_quiet ?_
            have := (h8.drewN k).look (lookL fun S h => tint_black i true h)
            rw [o2] at this
            exact this
          have C2 : Hid (∀ k, Calls Try.prog 31 #[.pointer (some ⟨b, 0, none⟩), .int .i64 i, .bool false] (w8.drewN k) fun e w'' => e = .returned (.bool (!p)) ∧ ∃ m, w'' = w8.drewN m) := fun k => by
            refine look_quiet ?_
            have := (h8.drewN k).look (lookL fun S h => tint_black i false h)
            rw [o3] at this
            exact this
          have C3 : Hid (∀ k, Calls Try.prog 32 #[.pointer (some ⟨b, 0, none⟩), .int .i64 i] (w8.drewN k) fun e w'' => e = .returned (.bool (tHead n f' i)) ∧ ∃ m, w'' = w8.drewN m) := fun k => look_quiet ((h8.drewN k).look (lookL fun S h => tint_head i h))
          clear o1 o2 o3
          cases p
          all_goals
            simp only [Bool.not_true, Bool.not_false] at C2
            cases hH : tHead n f' i
            all_goals
              rw [hH] at C3
              clear hH
              go_wp2_with fail
              with_reducible refine (h8.look (lookL fun S h => tint_state i h)).mono ?_
              rintro e w9 ⟨rfl, rfl⟩
              rw [O1.out]
              go_wp2_with fail
              have e0 := E0.out
              have e1 := E1.out
              go_quiet (first | (go_at_call_of 31 (Value.bool true); exact C1.out _) | (go_at_call_of 31 (Value.bool false); exact C2.out _) | (go_at_call 32; exact C3.out _))
              have h9 := h8.left.drewN nq
              clear h8 C1 C2 C3 v1 e0 e1 E0 E1 HS
              go_wp2_with fail
              go_round
              case rel => exact ⟨q + 1, f', by omega, by go_num, hu', h9⟩
              case measure => simp [intOf]; omega
        · have O1 := Lib.hid o1
          have C1 : Hid (∀ k, Calls Try.prog 31 #[.pointer (some ⟨b, 0, none⟩), .int .i64 i, .bool true] (w8.drewN k) fun e w'' => e = .returned (.bool false) ∧ ∃ m, w'' = w8.drewN m) := fun k => by
            refine look_quiet ?_
            have := (h8.drewN k).look (lookL fun S h => tint_black i true h)
            rw [o2] at this
            exact this
          have C2 : Hid (∀ k, Calls Try.prog 31 #[.pointer (some ⟨b, 0, none⟩), .int .i64 i, .bool false] (w8.drewN k) fun e w'' => e = .returned (.bool false) ∧ ∃ m, w'' = w8.drewN m) := fun k => by
            refine look_quiet ?_
            have := (h8.drewN k).look (lookL fun S h => tint_black i false h)
            rw [o3] at this
            exact this
          have C3 : Hid (∀ k, Calls Try.prog 32 #[.pointer (some ⟨b, 0, none⟩), .int .i64 i] (w8.drewN k) fun e w'' => e = .returned (.bool false) ∧ ∃ m, w'' = w8.drewN m) := fun k => by
            refine look_quiet ?_
            have := (h8.drewN k).look (lookL fun S h => tint_head i h)
            rw [o4] at this
            exact this
          clear o1 o2 o3 o4
          go_wp2_with fail
          with_reducible refine (h8.look (lookL fun S h => tint_state i h)).mono ?_
          rintro e w9 ⟨rfl, rfl⟩
          have o1 := O1.out
          go_wp2_with fail
          have e0 := E0.out
          have e1 := E1.out
          go_quiet (first | (go_at_call_of 31 (Value.bool true); exact C1.out _) | (go_at_call_of 31 (Value.bool false); exact C2.out _) | (go_at_call 32; exact C3.out _))
          have h9 := h8.left.drewN nq
          clear h8 C1 C2 C3 v1 e0 e1 E0 E1 HS
          go_wp2_with fail
          go_round
          case rel => exact ⟨q + 1, f', by omega, by go_num, hu', h9⟩
          case measure => simp [intOf]; omega
    · obtain rfl : q = len1 := by omega
      go_wp2_with fail
      with_reducible refine (tint_first _).mono ?_
      rintro e w7 ⟨rfl, hb7⟩
      go_wp2_with fail
      go_ret
      exact ⟨rfl, (hs.later hb7).below⟩
end Go.Proofs.Ytcdmlimhkmbiiaa
