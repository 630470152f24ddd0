/- The contracts of package tint: Born and Set. -/
import Derived.Test.YtcdmlimhkmbiiaaTint2
import Derived.StillTailTactics
import Derived.Outline
import Derived.Deep.DeepCutAuto
namespace Go.Proofs.Ytcdmlimhkmbiiaa
open Go.RowKit

set_option maxHeartbeats 400000 in
theorem tint_born_walk {b g n : Nat} {c1 c2 c3 : Value} {cs : Array Value} {f : Nat → One} {w : World} (k : Nat) (h : Blk w b #[.slice (some ⟨g, 0, none⟩) n n, c1, c2, c3] 80) (hg : Blk w g cs 82) (h3 : cells3 cs n f) (hk : k < n) (hf : (f k).hd = false)
    (hs : Calls Try.prog 34 #[.pointer (some ⟨b, 0, none⟩), .int .i64 (k : Int)] w fun e w' => e = .returned (.int .i64 2) ∧ w = w') :
    Calls Try.prog 37 #[.pointer (some ⟨b, 0, none⟩), .int .i64 (k : Int)] w fun e w' => e = .returned (.bool true) ∧ w' = w.setCell ⟨g, k * 3 + 1, none⟩ (.bool true) := by
  have h2 : w.cell? ⟨b, 0, none⟩ = some (.slice (some ⟨g, 0, none⟩) n n) := by rw [h.cell]; rfl
  have h4 : w.cell? ⟨g, k * 3 + 1, none⟩ = some (.bool false) := by rw [hg.cell, ← hf]; exact (h3.2 k hk).2.1
  have h5 : w.frozen? ⟨g, k * 3 + 1, none⟩ = false := hg.free _
  have HS := Lib.hid hs
  clear h hg h3 hs hf
  go_enter Try.func37, Try.ntmps37
  go_wp2_with fail
  with_reducible refine HS.out.mono ?_
  rintro e w' ⟨rfl, rfl⟩
  go_wp2_with fail
  go_ret
  exact ⟨rfl, rfl⟩
set_option maxHeartbeats 400000 in
theorem tint_born_no {b g n : Nat} {c1 c2 c3 : Value} {cs : Array Value} {f : Nat → One} {i : Int} {st : Int} {w : World} (h : Blk w b #[.slice (some ⟨g, 0, none⟩) n n, c1, c2, c3] 80) (hg : Blk w g cs 82) (h3 : cells3 cs n f)
    (hs : Calls Try.prog 34 #[.pointer (some ⟨b, 0, none⟩), .int .i64 i] w fun e w' => e = .returned (.int .i64 st) ∧ w = w')
    (hb : st = 2 → ∃ k : Nat, i = (k : Int) ∧ k < n ∧ (f k).hd = true) :
    Calls Try.prog 37 #[.pointer (some ⟨b, 0, none⟩), .int .i64 i] w fun e w' => e = .returned (.bool false) ∧ w = w' := by
  have HS := Lib.hid hs
  by_cases h2 : st = 2
  · obtain ⟨k, rfl, hk, hf⟩ := hb h2
    have h0 : w.cell? ⟨b, 0, none⟩ = some (.slice (some ⟨g, 0, none⟩) n n) := by rw [h.cell]; rfl
    have h4 : w.cell? ⟨g, k * 3 + 1, none⟩ = some (.bool true) := by rw [hg.cell, ← hf]; exact (h3.2 k hk).2.1
    subst h2
    clear hs hb h hg h3 hf
    go_enter Try.func37, Try.ntmps37
    go_wp2_with fail
    with_reducible refine HS.out.mono ?_
    rintro e w' ⟨rfl, rfl⟩
    go_wp2_with fail
    go_ret
    exact ⟨rfl, rfl⟩
  · have h3 : (st == 2) = false := by simpa using h2
    have h4 : (st != 2) = true := by simpa using h2
    clear hs hb h2
    go_enter Try.func37, Try.ntmps37
    go_wp2_with fail
    with_reducible refine HS.out.mono ?_
    rintro e w' ⟨rfl, rfl⟩
    go_wp2_with fail
    go_ret
    exact ⟨rfl, rfl⟩

/-- BORN. -/
theorem tint_born {b n : Nat} {f : Nat → One} (i : Int) {S : Nat → Prop} {w : World} (h : (Tab b n f).at_ S w) :
    Calls Try.prog 37 #[.pointer (some ⟨b, 0, none⟩), .int .i64 i] w fun e w' => e = .returned (.bool (tBears n f i)) ∧ Goes (Tab b n (tBorn n f i)) S w w' := by
  have hst := tint_state i h
  unfold tBorn
  cases hm : tBears n f i with
  | true =>
    simp only [tBears, Bool.and_eq_true, beq_iff_eq, Bool.not_eq_true'] at hm
    have hi := tIn_of_state hm.1
    rw [hm.1] at hst
    have hh := hm.2
    unfold tHead at hh
    rw [if_pos hi] at hh
    obtain ⟨k, rfl⟩ : ∃ k : Nat, i = (k : Int) := ⟨i.toNat, by have := hi.1; omega⟩
    have hk : k < n := by have := hi.2; omega
    rw [Int.toNat_natCast] at hh
    obtain ⟨g, cs, h1, h2, h3, h4, h5, h6, h7, h8, h9⟩ := h
    refine (tint_born_walk k h1 h2 h3 hk hh hst).mono fun e w' ⟨he, hw⟩ => ?_
    subst hw
    refine ⟨he, ⟨S, ⟨g, _, ?_, h2.set _ _, ?_, h4, h5, h6, ?_, h8, fun k hk => by simpa using h9 k hk⟩, fun k hk => .inl hk⟩, (Turned.refl S w).setCell (.inl h5) _⟩
    · simp only [if_true, Int.toNat_natCast]
      rw [cnt_st (f := f) (k := k) (x := ⟨(f k).st, true, (f k).sn⟩) rfl 0, cnt_st (f := f) (k := k) (x := ⟨(f k).st, true, (f k).sn⟩) rfl 1, cnt_st (f := f) (k := k) (x := ⟨(f k).st, true, (f k).sn⟩) rfl 2]
      exact h1.far h6 _
    · simpa using cells3_hd h3 hk true
    · intro j hj
      simp only [if_true, Int.toNat_natCast, upd]
      split
      · exact h7 k hk
      · exact h7 j hj
  | false =>
    have h' := h
    obtain ⟨g, cs, h1, h2, h3, _⟩ := h'
    refine (tint_born_no h1 h2 h3 hst (fun h2 => ?_)).mono fun e w' ⟨he, hw⟩ => ?_
    · have h2' : tState n f i = 2 := by omega
      simp only [tBears, h2', beq_self_eq_true, Bool.true_and, Bool.not_eq_false'] at hm
      have hi := tIn_of_state h2'
      unfold tHead at hm
      rw [if_pos hi] at hm
      exact ⟨i.toNat, by have := hi.1; omega, by have := hi.1; have := hi.2; omega, hm⟩
    · subst hw
      exact ⟨he, ⟨S, by simpa using h, fun k hk => .inl hk⟩, Turned.refl S w⟩

set_option maxHeartbeats 1600000 in
theorem tint_set_walk {b g n st0 : Nat} {v1 v2 v3 : Value} {hd0 sn0 : Bool} {w : World} (k st : Nat) (hd sn : Bool) (h : Blk w b #[.slice (some ⟨g, 0, none⟩) n n, v1, v2, v3] 80)
    (h4 : w.cell? ⟨g, k * 3, none⟩ = some (.int .i64 (st0 : Int))) (h5 : w.cell? ⟨g, k * 3 + 1, none⟩ = some (.bool hd0)) (h6 : w.cell? ⟨g, k * 3 + 2, none⟩ = some (.bool sn0)) (hfr : ∀ j, w.frozen? ⟨g, j, none⟩ = false) (hbg : b ≠ g)
    (hk : k < n) (_hn : n ≤ 1024) (hst : st ≤ 2) (hst0 : st0 ≤ 2) (c c' : Int) (hc : w.cell? ⟨b, 1 + st0, none⟩ = some (.int .i64 c)) (hc1 : 0 ≤ c) (hc2 : c ≤ 1024)
    (hc' : (w.setCell ⟨b, 1 + st0, none⟩ (.int .i64 (c - 1))).cell? ⟨b, 1 + st, none⟩ = some (.int .i64 c')) (hc3 : -1 ≤ c') (hc4 : c' ≤ 1024) :
    Calls Try.prog 30 #[.pointer (some ⟨b, 0, none⟩), .int .i64 (k : Int), .int .i64 (st : Int), .bool hd, .bool sn] w fun e w' => e = .returned (.bool true) ∧
      w' = ((((w.setCell ⟨b, 1 + st0, none⟩ (.int .i64 (c - 1))).drew.setCell ⟨b, 1 + st, none⟩ (.int .i64 (c' + 1))).drew.setCell ⟨g, k * 3, none⟩ (.int .i64 st)).setCell ⟨g, k * 3 + 1, none⟩ (.bool (hd && st == 2))).setCell ⟨g, k * 3 + 2, none⟩ (.bool sn) := by
  have h2 : w.cell? ⟨b, 0, none⟩ = some (.slice (some ⟨g, 0, none⟩) n n) := by rw [h.cell]; rfl
  have hf := h.free (1 + st0)
  have hi0 : (st0 : Int) < 3 := by omega
  have hi1 : (st : Int) < 3 := by omega
  have hB1 : Blk (w.setCell ⟨b, 1 + st0, none⟩ (.int .i64 (c - 1))).drew b _ 80 := (h.set (1 + st0) (.int .i64 (c - 1))).drew
  have HC := Lib.hid hc'
  have hbg' : g ≠ b := fun e => hbg e.symm
  have G4 : Hid ((w.setCell ⟨b, 1 + st0, none⟩ (.int .i64 (c - 1))).drew.cell? ⟨g, k * 3, none⟩ = some (.int .i64 (st0 : Int))) := by
    rw [World.cell?_drew, World.cell?_setCell_other _ _ _ _ (fun e => hbg (congrArg Addr.block e))]; exact h4
  have G5 : Hid ((w.setCell ⟨b, 1 + st0, none⟩ (.int .i64 (c - 1))).drew.cell? ⟨g, k * 3 + 1, none⟩ = some (.bool hd0)) := by
    rw [World.cell?_drew, World.cell?_setCell_other _ _ _ _ (fun e => hbg (congrArg Addr.block e))]; exact h5
  have G6 : Hid ((w.setCell ⟨b, 1 + st0, none⟩ (.int .i64 (c - 1))).drew.cell? ⟨g, k * 3 + 2, none⟩ = some (.bool sn0)) := by
    rw [World.cell?_drew, World.cell?_setCell_other _ _ _ _ (fun e => hbg (congrArg Addr.block e))]; exact h6
  have G7 : ∀ j, Hid ((w.setCell ⟨b, 1 + st0, none⟩ (.int .i64 (c - 1))).drew.frozen? ⟨g, j, none⟩ = false) := fun j => by
    show _ = _
    rw [World.frozen?_drew, World.frozen?_setCell]; exact hfr j
  clear h hc' hbg'
  go_enter Try.func30, Try.ntmps30
  go_wp2
  go_still_tail 17, (by kernel_rfl)
  change wpList _ _ _ _ _ w.drew
  go_wp2
  obtain ⟨W1, hW1⟩ : ∃ W1, W1 = (w.setCell ⟨b, 1 + st0, none⟩ (.int .i64 (c - 1))).drew := ⟨_, rfl⟩
  have hh0 : W1.cell? ⟨b, 0, none⟩ = some (.slice (some ⟨g, 0, none⟩) n n) := by rw [hW1, hB1.cell]; simp
  have hh1 : W1.cell? ⟨b, 1 + st, none⟩ = some (.int .i64 c') := by rw [hW1]; exact HC.out
  have hh2 : W1.frozen? ⟨b, 1 + st, none⟩ = false := by rw [hW1]; exact hB1.free _
  have G8 : ∀ j, Hid (W1.frozen? ⟨g, j, none⟩ = false) := fun j => by rw [hW1]; exact G7 j
  rw [← hW1] at G4 G5 G6 ⊢
  have HW1 := Lib.hid hW1
  clear h2 h4 h5 h6 hfr hc hc1 hc2 HC hf hi0 hB1 G7 hW1
  go_still_tail 10, (by kernel_rfl)
  change wpList _ _ _ _ _ W1.drew
  go_upto_region 5 with fail
  obtain ⟨W2, hW2⟩ : ∃ W2, W2 = (W1.setCell ⟨b, 1 + st, none⟩ (.int .i64 (c' + 1))).drew := ⟨_, rfl⟩
  have far : ∀ j, W2.cell? ⟨g, j, none⟩ = W1.cell? ⟨g, j, none⟩ := fun j => by
    rw [hW2, World.cell?_drew, World.cell?_setCell_other _ _ _ _ (fun e => hbg (congrArg Addr.block e))]
  have e0 : W2.cell? ⟨b, 0, none⟩ = some (.slice (some ⟨g, 0, none⟩) n n) := by
    rw [hW2, World.cell?_drew, World.cell?_setCell_other _ _ _ _ (fun e => by have := congrArg Addr.off e; simp at this)]; exact hh0
  have e4 := (far _).trans G4.out
  have e5 := (far _).trans G5.out
  have e6 := (far _).trans G6.out
  have e7 : ∀ j, W2.frozen? ⟨g, j, none⟩ = false := fun j => by rw [hW2, World.frozen?_drew, World.frozen?_setCell]; exact (G8 j).out
  have e8 := e7 (k * 3)
  have e9 := e7 (k * 3 + 1)
  have e10 := e7 (k * 3 + 2)
  rw [← hW2]
  have HW2 := Lib.hid hW2
  clear far hh0 hh1 hh2 G4 G5 G6 G8 e7 hW2
  have hs2 : ∀ x : Bool, (x && ((st : Int) == 2)) = (x && (st == 2)) := fun x => by
    cases x
    · rfl
    · have : ((st : Int) == 2) = (st == 2) := by rw [Bool.eq_iff_iff]; simp; omega
      simp [this]
  have HH := Lib.hid hs2
  clear hs2
  cases hd
  · go_wp2_with fail
    go_ret
    refine ⟨rfl, ?_⟩
    rw [HW2.out, HW1.out]; rfl
  · go_wp2_with fail
    go_ret
    refine ⟨rfl, ?_⟩
    have := HH.out true
    simp only [Bool.true_and] at this
    rw [HW2.out, HW1.out, this]; rfl
end Go.Proofs.Ytcdmlimhkmbiiaa
