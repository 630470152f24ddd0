/- The contracts of the reference's table. -/
import Derived.Test.YtcdmlimhkmbiiaaRTab
import Derived.Test.YtcdmlimhkmbiiaaTintLaws
import Derived.Deep.RegionHeld3
import Derived.Deep.RegionWith
namespace Go.Proofs.Ytcdmlimhkmbiiaa
open Go.RowKit

section
variable {bt a p q n : Nat} {ca cp cq : Array Value} {f : Nat → One} {w : World}

set_option maxHeartbeats 400000 in
theorem rtab_state_in (k : Nat) (h : Blk w bt #[.slice (some ⟨a, 0, none⟩) n n, .slice (some ⟨p, 0, none⟩) n n, .slice (some ⟨q, 0, none⟩) n n] 84) (hg : Blk w a ca 3) (h3 : rows3 n f ca cp cq) (hk : k < n) :
    Calls Try.prog 42 #[.pointer (some ⟨bt, 0, none⟩), .int .i64 (k : Int)] w fun e w' => e = .returned (.int .i64 ((f k).st : Int)) ∧ w = w' := by
  have h2 : w.cell? ⟨bt, 0, none⟩ = some (.slice (some ⟨a, 0, none⟩) n n) := by rw [h.cell]; rfl
  have h4 : w.cell? ⟨a, k, none⟩ = some (.int .i64 ((f k).st : Int)) := by rw [hg.cell]; exact (h3.2.2.2 k hk).1
  clear h hg h3
  go_enter Try.func42, Try.ntmps42
  go_wp2
  go_ret
  exact ⟨rfl, rfl⟩
set_option maxHeartbeats 400000 in
theorem rtab_state_out (i : Int) (h : Blk w bt #[.slice (some ⟨a, 0, none⟩) n n, .slice (some ⟨p, 0, none⟩) n n, .slice (some ⟨q, 0, none⟩) n n] 84) (hi : ¬ tIn n i) :
    Calls Try.prog 42 #[.pointer (some ⟨bt, 0, none⟩), .int .i64 i] w fun e w' => e = .returned (.int .i64 0) ∧ w = w' := by
  have h2 : w.cell? ⟨bt, 0, none⟩ = some (.slice (some ⟨a, 0, none⟩) n n) := by rw [h.cell]; rfl
  clear h
  unfold tIn at hi
  by_cases h0 : i < 0
  · clear hi
    go_enter Try.func42, Try.ntmps42
    go_wp2
    go_ret
    exact ⟨rfl, rfl⟩
  · have h1 : (n : Int) ≤ i := by omega
    have hd : decide (i < (n : Int)) = false := by simp; omega
    clear hi
    go_enter Try.func42, Try.ntmps42
    go_wp2
    go_ret
    exact ⟨rfl, rfl⟩
set_option maxHeartbeats 400000 in
theorem rtab_head_in (k : Nat) (h : Blk w bt #[.slice (some ⟨a, 0, none⟩) n n, .slice (some ⟨p, 0, none⟩) n n, .slice (some ⟨q, 0, none⟩) n n] 84) (hg : Blk w p cp 4) (h3 : rows3 n f ca cp cq) (hk : k < n) :
    Calls Try.prog 43 #[.pointer (some ⟨bt, 0, none⟩), .int .i64 (k : Int)] w fun e w' => e = .returned (.bool (f k).hd) ∧ w = w' := by
  have h2 : w.cell? ⟨bt, 0, none⟩ = some (.slice (some ⟨a, 0, none⟩) n n) := by rw [h.cell]; rfl
  have h5 : w.cell? ⟨bt, 1, none⟩ = some (.slice (some ⟨p, 0, none⟩) n n) := by rw [h.cell]; rfl
  have h4 : w.cell? ⟨p, k, none⟩ = some (.bool (f k).hd) := by rw [hg.cell]; exact (h3.2.2.2 k hk).2.1
  clear h hg h3
  go_enter Try.func43, Try.ntmps43
  go_wp2
  go_ret
  exact ⟨rfl, rfl⟩
set_option maxHeartbeats 400000 in
theorem rtab_head_out (i : Int) (h : Blk w bt #[.slice (some ⟨a, 0, none⟩) n n, .slice (some ⟨p, 0, none⟩) n n, .slice (some ⟨q, 0, none⟩) n n] 84) (hi : ¬ tIn n i) :
    Calls Try.prog 43 #[.pointer (some ⟨bt, 0, none⟩), .int .i64 i] w fun e w' => e = .returned (.bool false) ∧ w = w' := by
  have h2 : w.cell? ⟨bt, 0, none⟩ = some (.slice (some ⟨a, 0, none⟩) n n) := by rw [h.cell]; rfl
  clear h
  unfold tIn at hi
  by_cases h0 : i < 0
  · clear hi
    go_enter Try.func43, Try.ntmps43
    go_wp2
    go_ret
    exact ⟨rfl, rfl⟩
  · have h1 : (n : Int) ≤ i := by omega
    have hd : decide (i < (n : Int)) = false := by simp; omega
    clear hi
    go_enter Try.func43, Try.ntmps43
    go_wp2
    go_ret
    exact ⟨rfl, rfl⟩
end

theorem rtab_state {b n : Nat} {f : Nat → One} (i : Int) {S : Nat → Prop} {w : World} (h : (RTab b n f).at_ S w) :
    Calls Try.prog 42 #[.pointer (some ⟨b, 0, none⟩), .int .i64 i] w fun e w' => e = .returned (.int .i64 (tState n f i : Int)) ∧ w = w' := by
  obtain ⟨a, p, q, ca, cp, cq, h1, h2, h3, h4, h5, _⟩ := h
  unfold tState
  by_cases hi : tIn n i
  · rw [if_pos hi]
    obtain ⟨k, rfl⟩ : ∃ k : Nat, i = (k : Int) := ⟨i.toNat, by have := hi.1; omega⟩
    exact rtab_state_in k h1 h2 h5 (by have := hi.2; omega)
  · rw [if_neg hi]; exact rtab_state_out i h1 hi
theorem rtab_head {b n : Nat} {f : Nat → One} (i : Int) {S : Nat → Prop} {w : World} (h : (RTab b n f).at_ S w) :
    Calls Try.prog 43 #[.pointer (some ⟨b, 0, none⟩), .int .i64 i] w fun e w' => e = .returned (.bool (tHead n f i)) ∧ w = w' := by
  obtain ⟨a, p, q, ca, cp, cq, h1, h2, h3, h4, h5, _⟩ := h
  unfold tHead
  by_cases hi : tIn n i
  · rw [if_pos hi]
    obtain ⟨k, rfl⟩ : ∃ k : Nat, i = (k : Int) := ⟨i.toNat, by have := hi.1; omega⟩
    exact rtab_head_in k h1 h3 h5 (by have := hi.2; omega)
  · rw [if_neg hi]; exact rtab_head_out i h1 hi

set_option maxHeartbeats 800000 in
theorem rtab_black {b n : Nat} {f : Nat → One} (i : Int) (s : Bool) {S : Nat → Prop} {w : World} (h : (RTab b n f).at_ S w) :
    Calls Try.prog 44 #[.pointer (some ⟨b, 0, none⟩), .int .i64 i, .bool s] w fun e w' => e = .returned (.bool (tBlack n f i s)) ∧ w = w' := by
  have hst := rtab_state i h
  obtain ⟨a, p, q, ca, cp, cq, h1, h2, h3, h4, h5, _⟩ := h
  unfold tState at hst
  unfold tBlack
  by_cases hi : tIn n i
  · rw [if_pos hi] at hst ⊢
    obtain ⟨k, rfl⟩ : ∃ k : Nat, i = (k : Int) := ⟨i.toNat, by have := hi.1; omega⟩
    have hk : k < n := by have := hi.2; omega
    rw [Int.toNat_natCast] at hst ⊢
    clear hi
    have g2 : w.cell? ⟨b, 2, none⟩ = some (.slice (some ⟨q, 0, none⟩) n n) := by rw [h1.cell]; rfl
    have g4 : w.cell? ⟨q, k, none⟩ = some (.bool (f k).sn) := by rw [h4.cell]; exact (h5.2.2.2 k hk).2.2
    clear h1 h2 h3 h4 h5
    have HS := Lib.hid hst
    clear hst
    by_cases he : (f k).st = 2
    · have e1 : ((f k).st == 2) = true := by simpa using he
      rw [e1]
      rw [he] at HS
      clear he e1
      go_enter Try.func44, Try.ntmps44
      go_wp2_with fail
      with_reducible refine HS.out.mono ?_
      rintro e w' ⟨rfl, rfl⟩
      go_wp2
      go_ret
      exact ⟨by simp, rfl⟩
    · have e1 : ((f k).st == 2) = false := by simpa using he
      have e2 : (((f k).st : Int) == 2) = false := by simp; omega
      rw [e1]
      clear he e1
      go_enter Try.func44, Try.ntmps44
      go_wp2_with fail
      with_reducible refine HS.out.mono ?_
      rintro e w' ⟨rfl, rfl⟩
      go_wp2
      go_ret
      exact ⟨by simp, rfl⟩
  · rw [if_neg hi] at hst ⊢
    clear hi h1 h2 h3 h4 h5
    have HS := Lib.hid hst
    clear hst
    go_enter Try.func44, Try.ntmps44
    go_wp2_with fail
    with_reducible refine HS.out.mono ?_
    rintro e w' ⟨rfl, rfl⟩
    go_wp2
    go_ret
    exact ⟨by simp, rfl⟩

section
variable {bt a p q n : Nat} {ca cp cq : Array Value} {f : Nat → One} {w : World}
set_option maxHeartbeats 400000 in
theorem rtab_mark_walk (k : Nat) (s sn : Bool) (h : Blk w bt #[.slice (some ⟨a, 0, none⟩) n n, .slice (some ⟨p, 0, none⟩) n n, .slice (some ⟨q, 0, none⟩) n n] 84) (h4 : w.cell? ⟨q, k, none⟩ = some (.bool sn)) (h5 : w.frozen? ⟨q, k, none⟩ = false) (hk : k < n) (hb : (sn == s) = false)
    (hs : Calls Try.prog 42 #[.pointer (some ⟨bt, 0, none⟩), .int .i64 (k : Int)] w fun e w' => e = .returned (.int .i64 2) ∧ w = w') :
    Calls Try.prog 39 #[.pointer (some ⟨bt, 0, none⟩), .int .i64 (k : Int), .bool s] w fun e w' => e = .returned (.bool true) ∧ w' = w.setCell ⟨q, k, none⟩ (.bool s) := by
  have h2 : w.cell? ⟨bt, 2, none⟩ = some (.slice (some ⟨q, 0, none⟩) n n) := by rw [h.cell]; rfl
  have HS := Lib.hid hs
  clear h hs
  go_enter Try.func39, Try.ntmps39
  go_wp2_with fail
  with_reducible refine HS.out.mono ?_
  rintro e w' ⟨rfl, rfl⟩
  go_wp2_with fail
  go_ret
  exact ⟨rfl, rfl⟩
set_option maxHeartbeats 400000 in
theorem rtab_mark_no {i st : Int} {s : Bool} (h : Blk w bt #[.slice (some ⟨a, 0, none⟩) n n, .slice (some ⟨p, 0, none⟩) n n, .slice (some ⟨q, 0, none⟩) n n] 84)
    (hs : Calls Try.prog 42 #[.pointer (some ⟨bt, 0, none⟩), .int .i64 i] w fun e w' => e = .returned (.int .i64 st) ∧ w = w')
    (hb : st = 2 → ∃ k : Nat, i = (k : Int) ∧ k < n ∧ w.cell? ⟨q, k, none⟩ = some (.bool s)) :
    Calls Try.prog 39 #[.pointer (some ⟨bt, 0, none⟩), .int .i64 i, .bool s] w fun e w' => e = .returned (.bool false) ∧ w = w' := by
  have h2 : w.cell? ⟨bt, 2, none⟩ = some (.slice (some ⟨q, 0, none⟩) n n) := by rw [h.cell]; rfl
  have HS := Lib.hid hs
  by_cases hst : st = 2
  · obtain ⟨k, rfl, hk, hc⟩ := hb hst
    subst hst
    clear hs hb h
    have hss : (s == s) = true := by simp
    go_enter Try.func39, Try.ntmps39
    go_wp2_with fail
    with_reducible refine HS.out.mono ?_
    rintro e w' ⟨rfl, rfl⟩
    go_wp2_with fail
    go_ret
    exact ⟨rfl, rfl⟩
  · have h3 : (st == 2) = false := by simpa using hst
    have h4 : (st != 2) = true := by simpa using hst
    clear hs hb hst
    go_enter Try.func39, Try.ntmps39
    go_wp2_with fail
    with_reducible refine HS.out.mono ?_
    rintro e w' ⟨rfl, rfl⟩
    go_wp2_with fail
    go_ret
    exact ⟨rfl, rfl⟩
set_option maxHeartbeats 400000 in
theorem rtab_born_walk (k : Nat) (h : Blk w bt #[.slice (some ⟨a, 0, none⟩) n n, .slice (some ⟨p, 0, none⟩) n n, .slice (some ⟨q, 0, none⟩) n n] 84) (h4 : w.cell? ⟨p, k, none⟩ = some (.bool false)) (h5 : w.frozen? ⟨p, k, none⟩ = false) (hk : k < n)
    (hs : Calls Try.prog 42 #[.pointer (some ⟨bt, 0, none⟩), .int .i64 (k : Int)] w fun e w' => e = .returned (.int .i64 2) ∧ w = w') :
    Calls Try.prog 38 #[.pointer (some ⟨bt, 0, none⟩), .int .i64 (k : Int)] w fun e w' => e = .returned (.bool true) ∧ w' = w.setCell ⟨p, k, none⟩ (.bool true) := by
  have h2 : w.cell? ⟨bt, 1, none⟩ = some (.slice (some ⟨p, 0, none⟩) n n) := by rw [h.cell]; rfl
  have HS := Lib.hid hs
  clear h hs
  go_enter Try.func38, Try.ntmps38
  go_wp2_with fail
  with_reducible refine HS.out.mono ?_
  rintro e w' ⟨rfl, rfl⟩
  go_wp2_with fail
  go_ret
  exact ⟨rfl, rfl⟩
set_option maxHeartbeats 400000 in
theorem rtab_born_no {i st : Int} (h : Blk w bt #[.slice (some ⟨a, 0, none⟩) n n, .slice (some ⟨p, 0, none⟩) n n, .slice (some ⟨q, 0, none⟩) n n] 84)
    (hs : Calls Try.prog 42 #[.pointer (some ⟨bt, 0, none⟩), .int .i64 i] w fun e w' => e = .returned (.int .i64 st) ∧ w = w')
    (hb : st = 2 → ∃ k : Nat, i = (k : Int) ∧ k < n ∧ w.cell? ⟨p, k, none⟩ = some (.bool true)) :
    Calls Try.prog 38 #[.pointer (some ⟨bt, 0, none⟩), .int .i64 i] w fun e w' => e = .returned (.bool false) ∧ w = w' := by
  have h2 : w.cell? ⟨bt, 1, none⟩ = some (.slice (some ⟨p, 0, none⟩) n n) := by rw [h.cell]; rfl
  have HS := Lib.hid hs
  by_cases hst : st = 2
  · obtain ⟨k, rfl, hk, hc⟩ := hb hst
    subst hst
    clear hs hb h
    go_enter Try.func38, Try.ntmps38
    go_wp2_with fail
    with_reducible refine HS.out.mono ?_
    rintro e w' ⟨rfl, rfl⟩
    go_wp2_with fail
    go_ret
    exact ⟨rfl, rfl⟩
  · have h3 : (st == 2) = false := by simpa using hst
    have h4 : (st != 2) = true := by simpa using hst
    clear hs hb hst
    go_enter Try.func38, Try.ntmps38
    go_wp2_with fail
    with_reducible refine HS.out.mono ?_
    rintro e w' ⟨rfl, rfl⟩
    go_wp2_with fail
    go_ret
    exact ⟨rfl, rfl⟩

set_option maxHeartbeats 1600000 in
theorem rtab_set_walk (k st : Nat) (hd sn : Bool) {st0 : Int} {hd0 sn0 : Bool} (h : Blk w bt #[.slice (some ⟨a, 0, none⟩) n n, .slice (some ⟨p, 0, none⟩) n n, .slice (some ⟨q, 0, none⟩) n n] 84)
    (h4 : w.cell? ⟨a, k, none⟩ = some (.int .i64 st0)) (h5 : w.cell? ⟨p, k, none⟩ = some (.bool hd0)) (h6 : w.cell? ⟨q, k, none⟩ = some (.bool sn0)) (f4 : w.frozen? ⟨a, k, none⟩ = false) (f5 : w.frozen? ⟨p, k, none⟩ = false) (f6 : w.frozen? ⟨q, k, none⟩ = false)
    (hk : (k : Int) < n) (hst : (st : Int) ≤ 2) (n1 : a ≠ p) (n2 : a ≠ q) (n3 : p ≠ q) :
    Calls Try.prog 36 #[.pointer (some ⟨bt, 0, none⟩), .int .i64 (k : Int), .int .i64 (st : Int), .bool hd, .bool sn] w fun e w' => e = .returned (.bool true) ∧ w' = (((w.setCell ⟨a, k, none⟩ (.int .i64 st)).setCell ⟨p, k, none⟩ (.bool (hd && st == 2))).setCell ⟨q, k, none⟩ (.bool sn)).drew := by
  have g0 : w.cell? ⟨bt, 0, none⟩ = some (.slice (some ⟨a, 0, none⟩) n n) := by rw [h.cell]; rfl
  have g1 : w.cell? ⟨bt, 1, none⟩ = some (.slice (some ⟨p, 0, none⟩) n n) := by rw [h.cell]; rfl
  have g2 : w.cell? ⟨bt, 2, none⟩ = some (.slice (some ⟨q, 0, none⟩) n n) := by rw [h.cell]; rfl
  have hk0 : (0 : Int) ≤ k := by omega
  clear h
  have hs2 : ((st : Int) == 2) = (st == 2) := by rw [Bool.eq_iff_iff]; simp; omega
  have HH := Lib.hid hs2
  clear hs2
  cases hd
  · go_enter Try.func36, Try.ntmps36
    go_wp2
    go_region
    go_wp2
    go_ret
    exact ⟨rfl, rfl⟩
  · go_enter Try.func36, Try.ntmps36
    go_wp2
    go_region
    go_wp2
    go_ret
    refine ⟨rfl, ?_⟩
    rw [Bool.true_and, ← HH.out]
set_option maxHeartbeats 400000 in
theorem rtab_set_no (i st : Int) (hd sn : Bool) (h : Blk w bt #[.slice (some ⟨a, 0, none⟩) n n, .slice (some ⟨p, 0, none⟩) n n, .slice (some ⟨q, 0, none⟩) n n] 84) (hno : tSets n i st = false) :
    Calls Try.prog 36 #[.pointer (some ⟨bt, 0, none⟩), .int .i64 i, .int .i64 st, .bool hd, .bool sn] w fun e w' => e = .returned (.bool false) ∧ w = w' := by
  have h2 : w.cell? ⟨bt, 0, none⟩ = some (.slice (some ⟨a, 0, none⟩) n n) := by rw [h.cell]; rfl
  replace hno := of_decide_eq_false hno
  unfold tIn at hno
  clear h
  by_cases h0 : i < 0
  · clear hno
    go_enter Try.func36, Try.ntmps36
    go_wp2
    go_ret
    exact ⟨rfl, rfl⟩
  by_cases h1 : (n : Int) ≤ i
  · have hd : decide (i < (n : Int)) = false := by simp; omega
    clear hno
    go_enter Try.func36, Try.ntmps36
    go_wp2
    go_ret
    exact ⟨rfl, rfl⟩
  have hi : decide (i < (n : Int)) = true := by simp; omega
  by_cases h3 : st < 0
  · clear hno
    go_enter Try.func36, Try.ntmps36
    go_wp2
    go_ret
    exact ⟨rfl, rfl⟩
  · have h4 : 2 < st := by omega
    clear hno
    go_enter Try.func36, Try.ntmps36
    go_wp2
    go_ret
    exact ⟨rfl, rfl⟩
end

section
variable {b n : Nat} {f : Nat → One} {S : Nat → Prop} {w : World}
theorem rtab_mark (i : Int) (s : Bool) (h : (RTab b n f).at_ S w) :
    Calls Try.prog 39 #[.pointer (some ⟨b, 0, none⟩), .int .i64 i, .bool s] w fun e w' => e = .returned (.bool (tMarks n f i s)) ∧ Goes (RTab b n (tMark n f i s)) S w w' := by
  have hst := rtab_state i h
  have h' := h
  obtain ⟨a, p, q, ca, cp, cq, h1, h2, h3, h4, h5, ⟨s1, s2, s3, s4⟩, h7, h8, h9, h10⟩ := h
  unfold tMark
  cases hm : tMarks n f i s with
  | true =>
    simp only [tMarks, Bool.and_eq_true, beq_iff_eq, Bool.not_eq_true'] at hm
    have hi := tIn_of_state hm.1
    rw [hm.1] at hst
    have hb := hm.2
    obtain ⟨k, rfl⟩ : ∃ k : Nat, i = (k : Int) := ⟨i.toNat, by have := hi.1; omega⟩
    have hk : k < n := by have := hi.2; omega
    have hs2 := hm.1
    rw [tState_in hk] at hs2
    rw [tBlack_in hk, hs2] at hb
    obtain ⟨c1, c2, c3⟩ := h5.2.2.2 k hk
    refine (rtab_mark_walk k s (f k).sn h1 (by rw [h4.cell]; exact c3) (h4.free k) hk (by simpa using hb) hst).mono fun e w' ⟨he, hw⟩ => ?_
    subst hw
    refine ⟨he, ⟨S, ⟨a, p, q, ca, cp, cq.setIfInBounds k (.bool s), h1.far h7.2.2.1 _, h2.far h7.2.2.2.2.1 _, h3.far h7.2.2.2.2.2 _, h4.set k _, ⟨h5.1, h5.2.1, by simpa using h5.2.2.1, fun j hj => ?_⟩, ⟨s1, s2, s3, s4⟩, h7, fun j hj => ?_, h9, fun j hj => by simpa using h10 j hj⟩, fun j hj => .inl hj⟩, (Turned.refl S w).setCell (.inl s4) _⟩
    · obtain ⟨d1, d2, d3⟩ := h5.2.2.2 j hj
      have hsz := h5.2.2.1
      by_cases e : j = k
      · subst e
        simp only [if_true, Int.toNat_natCast, upd_same]
        exact ⟨d1, d2, set_self (by omega)⟩
      · simp only [if_true, Int.toNat_natCast]
        rw [upd_other _ _ e]
        exact ⟨d1, d2, by rw [set_ne (by omega)]; exact d3⟩
    · simp only [if_true, Int.toNat_natCast, upd]
      split
      · exact h8 k hk
      · exact h8 j hj
  | false =>
    refine (rtab_mark_no h1 hst (fun h2' => ?_)).mono fun e w' ⟨he, hw⟩ => ?_
    · have h2'' : tState n f i = 2 := by omega
      have hi := tIn_of_state h2''
      obtain ⟨k, rfl⟩ : ∃ k : Nat, i = (k : Int) := ⟨i.toNat, by have := hi.1; omega⟩
      have hk : k < n := by have := hi.2; omega
      simp only [tMarks, h2'', beq_self_eq_true, Bool.true_and, Bool.not_eq_false'] at hm
      rw [tState_in hk] at h2''
      rw [tBlack_in hk, h2''] at hm
      have hm' : (f k).sn = s := by simpa using hm
      exact ⟨k, rfl, hk, by rw [h4.cell, ← hm']; exact (h5.2.2.2 k hk).2.2⟩
    · subst hw
      exact ⟨he, by simpa using Goes.same h'⟩
theorem rtab_born (i : Int) (h : (RTab b n f).at_ S w) :
    Calls Try.prog 38 #[.pointer (some ⟨b, 0, none⟩), .int .i64 i] w fun e w' => e = .returned (.bool (tBears n f i)) ∧ Goes (RTab b n (tBorn n f i)) S w w' := by
  have hst := rtab_state i h
  have h' := h
  obtain ⟨a, p, q, ca, cp, cq, h1, h2, h3, h4, h5, ⟨s1, s2, s3, s4⟩, h7, h8, h9, h10⟩ := h
  unfold tBorn
  cases hm : tBears n f i with
  | true =>
    simp only [tBears, Bool.and_eq_true, beq_iff_eq, Bool.not_eq_true'] at hm
    have hi := tIn_of_state hm.1
    rw [hm.1] at hst
    have hb := hm.2
    obtain ⟨k, rfl⟩ : ∃ k : Nat, i = (k : Int) := ⟨i.toNat, by have := hi.1; omega⟩
    have hk : k < n := by have := hi.2; omega
    rw [tHead_in hk] at hb
    obtain ⟨c1, c2, c3⟩ := h5.2.2.2 k hk
    rw [hb] at c2
    refine (rtab_born_walk k h1 (by rw [h3.cell]; exact c2) (h3.free k) hk hst).mono fun e w' ⟨he, hw⟩ => ?_
    subst hw
    refine ⟨he, ⟨S, ⟨a, p, q, ca, cp.setIfInBounds k (.bool true), cq, h1.far h7.2.1 _, h2.far h7.2.2.2.1 _, h3.set k _, h4.far (fun e => h7.2.2.2.2.2 e.symm) _, ⟨h5.1, by simpa using h5.2.1, h5.2.2.1, fun j hj => ?_⟩, ⟨s1, s2, s3, s4⟩, h7, fun j hj => ?_, h9, fun j hj => by simpa using h10 j hj⟩, fun j hj => .inl hj⟩, (Turned.refl S w).setCell (.inl s3) _⟩
    · obtain ⟨d1, d2, d3⟩ := h5.2.2.2 j hj
      have hsz := h5.2.1
      by_cases e : j = k
      · subst e
        simp only [if_true, Int.toNat_natCast, upd_same]
        exact ⟨d1, set_self (by omega), d3⟩
      · simp only [if_true, Int.toNat_natCast]
        rw [upd_other _ _ e]
        exact ⟨d1, by rw [set_ne (by omega)]; exact d2, d3⟩
    · simp only [if_true, Int.toNat_natCast, upd]
      split
      · exact h8 k hk
      · exact h8 j hj
  | false =>
    refine (rtab_born_no h1 hst (fun h2' => ?_)).mono fun e w' ⟨he, hw⟩ => ?_
    · have h2'' : tState n f i = 2 := by omega
      have hi := tIn_of_state h2''
      obtain ⟨k, rfl⟩ : ∃ k : Nat, i = (k : Int) := ⟨i.toNat, by have := hi.1; omega⟩
      have hk : k < n := by have := hi.2; omega
      simp only [tBears, h2'', beq_self_eq_true, Bool.true_and, Bool.not_eq_false'] at hm
      rw [tHead_in hk] at hm
      exact ⟨k, rfl, hk, by rw [h3.cell, ← hm]; exact (h5.2.2.2 k hk).2.1⟩
    · subst hw
      exact ⟨he, by simpa using Goes.same h'⟩
theorem rtab_set (i st : Int) (hd sn : Bool) (h : (RTab b n f).at_ S w) :
    Calls Try.prog 36 #[.pointer (some ⟨b, 0, none⟩), .int .i64 i, .int .i64 st, .bool hd, .bool sn] w fun e w' => e = .returned (.bool (tSets n i st)) ∧ Goes (RTab b n (tSet n f i st hd sn)) S w w' := by
  have h' := h
  obtain ⟨a, p, q, ca, cp, cq, h1, h2, h3, h4, h5, ⟨s1, s2, s3, s4⟩, h7, h8, h9, h10⟩ := h
  unfold tSet
  cases hm : tSets n i st with
  | false =>
    refine (rtab_set_no i st hd sn h1 hm).mono fun e w' ⟨he, hw⟩ => ?_
    subst hw
    exact ⟨he, by simpa using Goes.same h'⟩
  | true =>
    simp only [tSets, decide_eq_true_eq] at hm
    obtain ⟨hi, hs1, hs2⟩ := hm
    obtain ⟨k, rfl⟩ : ∃ k : Nat, i = (k : Int) := ⟨i.toNat, by have := hi.1; omega⟩
    obtain ⟨x, rfl⟩ : ∃ s : Nat, st = (s : Int) := ⟨st.toNat, by omega⟩
    have hk : k < n := by have := hi.2; omega
    obtain ⟨c1, c2, c3⟩ := h5.2.2.2 k hk
    refine (rtab_set_walk k x hd sn h1 (by rw [h2.cell]; exact c1) (by rw [h3.cell]; exact c2) (by rw [h4.cell]; exact c3) (h2.free k) (h3.free k) (h4.free k) (by omega) (by omega) h7.2.2.2.1 h7.2.2.2.2.1 h7.2.2.2.2.2).mono fun e w' ⟨he, hw⟩ => ?_
    subst hw
    refine ⟨he, ⟨S, ⟨a, p, q, ca.setIfInBounds k (.int .i64 x), cp.setIfInBounds k (.bool (hd && x == 2)), cq.setIfInBounds k (.bool sn), (((h1.far h7.1 _).far h7.2.1 _).far h7.2.2.1 _).drew, (((h2.set k _).far h7.2.2.2.1 _).far h7.2.2.2.2.1 _).drew, (((h3.far (fun e => h7.2.2.2.1 e.symm) _).set k _).far h7.2.2.2.2.2 _).drew, (((h4.far (fun e => h7.2.2.2.2.1 e.symm) _).far (fun e => h7.2.2.2.2.2 e.symm) _).set k _).drew,
      ⟨by simpa using h5.1, by simpa using h5.2.1, by simpa using h5.2.2.1, fun j hj => ?_⟩, ⟨s1, s2, s3, s4⟩, h7, fun j hj => ?_, h9, fun j hj => by simpa using h10 j hj⟩, fun j hj => .inl hj⟩, (((((Turned.refl S w).setCell (.inl s2) _).setCell (.inl s3) _).setCell (.inl s4) _).drew)⟩
    · obtain ⟨d1, d2, d3⟩ := h5.2.2.2 j hj
      obtain ⟨z1, z2, z3, _⟩ := h5
      by_cases e : j = k
      · subst e
        simp only [if_true, Int.toNat_natCast, upd_same]
        exact ⟨set_self (by omega), set_self (by omega), set_self (by omega)⟩
      · simp only [if_true, Int.toNat_natCast]
        rw [upd_other _ _ e]
        exact ⟨by rw [set_ne (by omega)]; exact d1, by rw [set_ne (by omega)]; exact d2, by rw [set_ne (by omega)]; exact d3⟩
    · simp only [if_true, Int.toNat_natCast, upd]
      split
      · show x ≤ 2; omega
      · exact h8 j hj
end
end Go.Proofs.Ytcdmlimhkmbiiaa
