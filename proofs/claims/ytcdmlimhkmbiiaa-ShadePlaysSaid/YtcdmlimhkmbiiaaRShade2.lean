/- The contracts of the document's shades. -/
import Derived.Test.YtcdmlimhkmbiiaaRShade
import Derived.Test.YtcdmlimhkmbiiaaRTab3
import Derived.Test.YtcdmlimhkmbiiaaShadeLaws
namespace Go.Proofs.Ytcdmlimhkmbiiaa
open Go.RowKit
set_option linter.unusedVariables false
set_option linter.unusedSimpArgs false

/-- The document's shades: its table; its stack and its count. -/
def RSh (bx bt n : Nat) (f : Nat → One) (xs : List Int) (m : Int) (lost : Bool) (ct : Int) : Thing := Sep (RTab bt n f) (RPile bx (.pointer (some ⟨bt, 0, none⟩)) xs m lost ct)
/-- A head is used. -/
def HeadsUsed (f : Nat → One) : Prop := ∀ j, (f j).hd = true → (f j).st = 2
theorem heads_blank : HeadsUsed blank := fun j h => by simp [blank] at h
theorem heads_upd {f : Nat → One} {k : Nat} {v : One} (h : HeadsUsed f) (hv : v.hd = true → v.st = 2) : HeadsUsed (upd f k v) := by
  intro j hj
  unfold upd at hj ⊢
  split
  · rename_i e; rw [if_pos e] at hj; exact hv hj
  · rename_i e; rw [if_neg e] at hj; exact h j hj
theorem heads_mark {n : Nat} {f : Nat → One} {i : Int} {s : Bool} (h : HeadsUsed f) : HeadsUsed (tMark n f i s) := by
  unfold tMark; split
  · exact heads_upd h fun hv => h _ hv
  · exact h
theorem heads_born {n : Nat} {f : Nat → One} {i : Int} (h : HeadsUsed f) : HeadsUsed (tBorn n f i) := by
  unfold tBorn; split
  · rename_i hb
    refine heads_upd h fun _ => ?_
    simp [tBears] at hb
    have h1 := tIn_of_state hb.1
    have h2 := hb.1
    unfold tState at h2; rw [if_pos h1] at h2
    exact h2
  · exact h
theorem heads_set {n : Nat} {f : Nat → One} {i st : Int} {hd sn : Bool} (h : HeadsUsed f) : HeadsUsed (tSet n f i st hd sn) := by
  unfold tSet; split
  · refine heads_upd h fun hv => ?_
    simp at hv; exact hv.2
  · exact h
theorem marks_head {n : Nat} {f : Nat → One} {i : Int} {s : Bool} (h : HeadsUsed f) (hh : tHead n f i = true) : tMarks n f i s = !tBlack n f i s := by
  unfold tHead at hh
  by_cases hi : tIn n i
  · rw [if_pos hi] at hh
    have := h _ hh
    unfold tMarks tState; rw [if_pos hi, this]; simp
  · rw [if_neg hi] at hh; cases hh

section
variable {bx bt n : Nat} {f : Nat → One} {tv : Value} {xs : List Int} {m : Int} {lost : Bool} {ct : Int} {S : Nat → Prop} {w w' : World}
theorem rpile_count (h : (RPile bx tv xs m lost ct).at_ S w) : Goes (RPile bx tv xs m lost (ct + 1)) S w (w.setCell ⟨bx, 4, none⟩ (.int .i64 (ct + 1))) := by
  obtain ⟨v, h1, h2, h3, h4, h5⟩ := h
  exact rpile_cell h1 h2 h3 h4 h5 0 4 (.int .i64 (ct + 1)) rfl
theorem rpile_unlost (h : (RPile bx tv xs m lost ct).at_ S w) : Goes (RPile bx tv xs m false ct) S w (w.setCell ⟨bx, 3, none⟩ (.bool false)) := by
  obtain ⟨v, h1, h2, h3, h4, h5⟩ := h
  exact rpile_cell h1 h2 h3 h4 h5 0 3 (.bool false) rfl
theorem rpile_cells (h : (RPile bx tv xs m lost ct).at_ S w) : w.cell? ⟨bx, 0, none⟩ = some tv ∧ w.cell? ⟨bx, 3, none⟩ = some (.bool lost) ∧ w.cell? ⟨bx, 4, none⟩ = some (.int .i64 ct) ∧ (∃ a c, w.cell? ⟨bx, 2, none⟩ = some (.slice a xs.length c)) ∧ w.frozen? ⟨bx, 3, none⟩ = false ∧ w.frozen? ⟨bx, 4, none⟩ = false := by
  obtain ⟨v, h1, h2, _⟩ := h
  obtain ⟨a, c, hv, _⟩ := slice_of_owns h2
  exact ⟨by rw [h1.cell]; rfl, by rw [h1.cell]; rfl, by rw [h1.cell]; rfl, ⟨a, c, by rw [h1.cell, ← hv]; rfl⟩, h1.free 3, h1.free 4⟩
theorem rsh_cells (h : (RSh bx bt n f xs m lost ct).at_ S w) : w.cell? ⟨bx, 0, none⟩ = some (.pointer (some ⟨bt, 0, none⟩)) ∧ w.cell? ⟨bx, 3, none⟩ = some (.bool lost) ∧ w.cell? ⟨bx, 4, none⟩ = some (.int .i64 ct) ∧ (∃ a c, w.cell? ⟨bx, 2, none⟩ = some (.slice a xs.length c)) ∧ w.frozen? ⟨bx, 3, none⟩ = false ∧ w.frozen? ⟨bx, 4, none⟩ = false := by
  obtain ⟨_, _, _, h, _⟩ := h; exact rpile_cells h
theorem rsh_count (h : (RSh bx bt n f xs m lost ct).at_ S w) : Goes (RSh bx bt n f xs m lost (ct + 1)) S w (w.setCell ⟨bx, 4, none⟩ (.int .i64 (ct + 1))) := goesR (fun _ h => rpile_count h) S h

set_option maxHeartbeats 800000 in
theorem rsh_black (i : Int) (s : Bool) (h : (RSh bx bt n f xs m lost ct).at_ S w) (h0 : 0 ≤ ct) (h1 : ct ≤ 1000000) :
    Calls Try.prog 56 #[.pointer (some ⟨bx, 0, none⟩), .int .i64 i, .bool s] w fun e w' => e = .returned (.bool (tHead n f i && tBlack n f i s)) ∧ Goes (RSh bx bt n f xs m lost (ct + 1)) S w w' := by
  obtain ⟨-, -, c4, -, -, f4⟩ := rsh_cells h
  have g1 := rsh_count h
  obtain ⟨d0, -⟩ := rsh_cells g1.now.choose_spec.1
  have HG := Lib.hid g1
  have HH := Lib.hid (g1.look (lookL fun S h => rtab_head i h))
  have HK := Lib.hid (g1.look (lookL fun S h => rtab_black i s h))
  clear g1 h
  cases hh : tHead n f i with
  | false =>
    rw [hh] at HH
    clear hh
    go_enter Try.func56, Try.ntmps56
    go_wp2_with fail
    with_reducible refine HH.out.mono ?_
    rintro e w' ⟨rfl, rfl⟩
    go_wp2_with fail
    go_ret
    exact ⟨by simp, HG.out⟩
  | true =>
    rw [hh] at HH
    clear hh
    go_enter Try.func56, Try.ntmps56
    go_wp2_with fail
    with_reducible refine HH.out.mono ?_
    rintro e w' ⟨rfl, rfl⟩
    go_wp2_with fail
    with_reducible refine HK.out.mono ?_
    rintro e w' ⟨rfl, rfl⟩
    go_wp2_with fail
    go_ret
    exact ⟨by simp, HG.out⟩
set_option maxHeartbeats 800000 in
theorem rsh_part (i : Int) (s : Bool) (h : (RSh bx bt n f xs m lost ct).at_ S w) (h0 : 0 ≤ ct) (h1 : ct ≤ 1000000) :
    Calls Try.prog 57 #[.pointer (some ⟨bx, 0, none⟩), .int .i64 i, .bool s] w fun e w' => e = .returned (.bool (tMarks n f i s)) ∧ Goes (RSh bx bt n (tMark n f i s) xs m lost (ct + 1)) S w w' := by
  obtain ⟨-, -, c4, -, -, f4⟩ := rsh_cells h
  have g1 := rsh_count h
  obtain ⟨d0, -⟩ := rsh_cells g1.now.choose_spec.1
  have HK := Lib.hid (g1.call (sepL fun S h => rtab_mark i s h))
  clear g1 h
  go_enter Try.func57, Try.ntmps57
  go_wp2_with fail
  with_reducible refine HK.out.mono ?_
  rintro e w' ⟨rfl, g2⟩
  have G2 := Lib.hid g2
  clear g2
  go_wp2_with fail
  go_ret
  exact ⟨rfl, G2.out⟩
set_option maxHeartbeats 800000 in
theorem rsh_next_none (h : (RSh bx bt n f [] m lost ct).at_ S w) (h0 : 0 ≤ ct) (h1 : ct ≤ 1000000) :
    Calls Try.prog 58 #[.pointer (some ⟨bx, 0, none⟩)] w fun e w' => e = .returned (.tuple #[.int .i64 0, .bool false]) ∧ Goes (RSh bx bt n f [] m lost (ct + 1)) S w w' := by
  obtain ⟨-, -, c4, -, -, f4⟩ := rsh_cells h
  have g1 := rsh_count h
  have HK := Lib.hid (g1.look (lookR fun S h => rpile_pop_none h))
  have HG := Lib.hid g1
  clear g1 h
  go_enter Try.func58, Try.ntmps58
  go_wp2_with fail
  with_reducible refine HK.out.mono ?_
  rintro e w' ⟨rfl, rfl⟩
  go_wp2_with fail
  go_ret2
  exact ⟨rfl, HG.out⟩
set_option maxHeartbeats 800000 in
theorem rsh_next {i : Int} (h : (RSh bx bt n f (xs ++ [i]) m lost ct).at_ S w) (hsm : xs.length ≤ 1000000) (h0 : 0 ≤ ct) (h1 : ct ≤ 1000000) :
    Calls Try.prog 58 #[.pointer (some ⟨bx, 0, none⟩)] w fun e w' => e = .returned (.tuple #[.int .i64 i, .bool true]) ∧ Goes (RSh bx bt n f xs m lost (ct + 1)) S w w' := by
  obtain ⟨-, -, c4, -, -, f4⟩ := rsh_cells h
  have g1 := rsh_count h
  have HK := Lib.hid (g1.call (sepR fun S h => rpile_pop h hsm))
  clear g1 h
  go_enter Try.func58, Try.ntmps58
  go_wp2_with fail
  with_reducible refine HK.out.mono ?_
  rintro e w' ⟨rfl, g2⟩
  have G2 := Lib.hid g2
  clear g2
  go_wp2_with fail
  go_ret2
  exact ⟨rfl, G2.out⟩
set_option maxHeartbeats 800000 in
theorem rsh_lost (h : (RSh bx bt n f xs m lost ct).at_ S w) (h0 : 0 ≤ ct) (h1 : ct ≤ 1000000) :
    Calls Try.prog 59 #[.pointer (some ⟨bx, 0, none⟩)] w fun e w' => e = .returned (.bool lost) ∧ Goes (RSh bx bt n f xs m false (ct + 1)) S w w' := by
  obtain ⟨-, -, c4, -, -, f4⟩ := rsh_cells h
  have g1 := rsh_count h
  obtain ⟨-, d3, -, -, f3, -⟩ := rsh_cells g1.now.choose_spec.1
  have HG := Lib.hid (g1.then fun S h => goesR (fun _ h => rpile_unlost h) S h)
  clear g1 h
  go_enter Try.func59, Try.ntmps59
  go_wp2_with fail
  go_ret
  exact ⟨rfl, HG.out⟩
set_option maxHeartbeats 800000 in
theorem rsh_grey_no (i : Int) (s : Bool) (hu : HeadsUsed f) (h : (RSh bx bt n f xs m lost ct).at_ S w) (h0 : 0 ≤ ct) (h1 : ct ≤ 1000000) (hw : sWhite n f i s = false) :
    Calls Try.prog 55 #[.pointer (some ⟨bx, 0, none⟩), .int .i64 i, .bool s] w fun e w' => e = .returned (.bool false) ∧ Goes (RSh bx bt n f xs m lost (ct + 1)) S w w' := by
  obtain ⟨-, -, c4, -, -, f4⟩ := rsh_cells h
  have g1 := rsh_count h
  obtain ⟨d0, -⟩ := rsh_cells g1.now.choose_spec.1
  have HG := Lib.hid g1
  have HH := Lib.hid (g1.look (lookL fun S h => rtab_head i h))
  have HK := g1.call (sepL fun S h => rtab_mark i s h)
  unfold sWhite at hw
  clear h
  cases hh : tHead n f i with
  | false =>
    rw [hh] at HH
    clear hh hw HK g1
    go_enter Try.func55, Try.ntmps55
    go_wp2_with fail
    with_reducible refine HH.out.mono ?_
    rintro e w' ⟨rfl, rfl⟩
    go_wp2_with fail
    go_ret
    exact ⟨rfl, HG.out⟩
  | true =>
    have hmk : tMarks n f i s = false := by rw [marks_head hu hh]; rw [hh] at hw; simpa using hw
    have hmf : tMark n f i s = f := by unfold tMark; rw [hmk]; rfl
    rw [hmk, hmf] at HK
    have HK := Lib.hid HK
    rw [hh] at HH
    clear hh hw hmk hmf g1
    go_enter Try.func55, Try.ntmps55
    go_wp2_with fail
    with_reducible refine HH.out.mono ?_
    rintro e w' ⟨rfl, rfl⟩
    go_wp2_with fail
    with_reducible refine HK.out.mono ?_
    rintro e w' ⟨rfl, g2⟩
    have G2 := Lib.hid g2
    clear g2
    go_wp2_with fail
    go_ret
    exact ⟨rfl, G2.out⟩
set_option maxHeartbeats 1600000 in
theorem rsh_grey_yes {xs' : List Int} {lost' r : Bool} (i : Int) (s : Bool) (hu : HeadsUsed f) (h : (RSh bx bt n f xs m lost ct).at_ S w) (h0 : 0 ≤ ct) (h1 : ct ≤ 1000000) (hw : sWhite n f i s = true)
    (hp : ∀ S w, (RPile bx (.pointer (some ⟨bt, 0, none⟩)) xs m lost (ct + 1)).at_ S w → Calls Try.prog 23 #[.pointer (some ⟨bx, 0, none⟩), .int .i64 i] w fun e w' => e = .returned (.bool r) ∧ Goes (RPile bx (.pointer (some ⟨bt, 0, none⟩)) xs' m lost' (ct + 1)) S w w') :
    Calls Try.prog 55 #[.pointer (some ⟨bx, 0, none⟩), .int .i64 i, .bool s] w fun e w' => e = .returned (.bool true) ∧ Goes (RSh bx bt n (tMark n f i s) xs' m lost' (ct + 1)) S w w' := by
  obtain ⟨-, -, c4, -, -, f4⟩ := rsh_cells h
  have g1 := rsh_count h
  obtain ⟨d0, -⟩ := rsh_cells g1.now.choose_spec.1
  have HH := Lib.hid (g1.look (lookL fun S h => rtab_head i h))
  have HK := g1.call (sepL fun S h => rtab_mark i s h)
  unfold sWhite at hw
  have hh : tHead n f i = true := by simp at hw; exact hw.1
  have hmk : tMarks n f i s = true := by rw [marks_head hu hh]; simp at hw; simp [hw.2]
  rw [hmk] at HK
  rw [hh] at HH
  have HK := Lib.hid HK
  have HPP := Lib.hid hp
  clear h hw hmk hh g1 hp
  go_enter Try.func55, Try.ntmps55
  go_wp2_with fail
  with_reducible refine HH.out.mono ?_
  rintro e w1 ⟨rfl, rfl⟩
  clear HH
  go_wp2_with fail
  with_reducible refine HK.out.mono ?_
  rintro e w2 ⟨rfl, g2⟩
  have HP := Lib.hid (g2.call (sepR fun S h => HPP.out S w2 h))
  clear g2 HK HPP
  go_wp2_with fail
  with_reducible refine HP.out.mono ?_
  rintro e w3 ⟨rfl, g4⟩
  have G4 := Lib.hid g4
  clear g4 HP
  go_wp2_with fail
  go_ret
  exact ⟨rfl, G4.out⟩
end

/-- What Grey answers, and what it leaves. -/
def gyF (n : Nat) (f : Nat → One) (i : Int) (s : Bool) : Nat → One := if sWhite n f i s = true then tMark n f i s else f
def gyX (n : Nat) (f : Nat → One) (xs : List Int) (m i : Int) (s : Bool) : List Int := if sWhite n f i s = true ∧ (xs.length : Int) < m then xs ++ [i] else xs
def gyL (n : Nat) (f : Nat → One) (xs : List Int) (m : Int) (lost : Bool) (i : Int) (s : Bool) : Bool := if sWhite n f i s = true ∧ ¬ (xs.length : Int) < m then true else lost
theorem heads_gy {n : Nat} {f : Nat → One} {i : Int} {s : Bool} (h : HeadsUsed f) : HeadsUsed (gyF n f i s) := by
  unfold gyF; split
  · exact heads_mark h
  · exact h
theorem gyX_len {n : Nat} {f : Nat → One} {xs : List Int} {m i : Int} {s : Bool} (h : (xs.length : Int) ≤ m) : ((gyX n f xs m i s).length : Int) ≤ m := by
  unfold gyX; split
  · rename_i e; simp; omega
  · exact h
section
variable {bs bt bp bx bu n : Nat} {f : Nat → One} {xs : List Int} {m : Int} {lost : Bool} {ct : Int} {S : Nat → Prop} {w w' : World}
theorem shade_grey (i : Int) (s : Bool) (h : (Shade bs bt bp n f xs m lost ct).at_ S w) (h0 : 0 ≤ ct) (h1 : ct ≤ 1000000) (hm : (xs.length : Int) ≤ m) (hm2 : m ≤ 256) :
    Calls Try.prog 49 #[.pointer (some ⟨bs, 0, none⟩), .int .i64 i, .bool s] w fun e w' => e = .returned (.bool (sWhite n f i s)) ∧ Goes (Shade bs bt bp n (gyF n f i s) (gyX n f xs m i s) m (gyL n f xs m lost i s) (ct + 1)) S w w' := by
  unfold gyF gyX gyL
  cases hw : sWhite n f i s
  · simp only [Bool.false_eq_true, if_false, false_and]; exact shade_grey_no i s h h0 h1 hw
  · by_cases hlt : (xs.length : Int) < m
    · simp only [if_true, true_and, hlt, not_true, if_false]; exact shade_grey_lt i s h h0 h1 hw hlt hm2
    · simp only [if_true, true_and, hlt, not_false_iff, if_false]; exact shade_grey_eq i s h h0 h1 hw (by omega) hm2
theorem rsh_grey (i : Int) (s : Bool) (hu : HeadsUsed f) (h : (RSh bx bu n f xs m lost ct).at_ S w) (h0 : 0 ≤ ct) (h1 : ct ≤ 1000000) (hm : (xs.length : Int) ≤ m) (hm2 : m ≤ 256) :
    Calls Try.prog 55 #[.pointer (some ⟨bx, 0, none⟩), .int .i64 i, .bool s] w fun e w' => e = .returned (.bool (sWhite n f i s)) ∧ Goes (RSh bx bu n (gyF n f i s) (gyX n f xs m i s) m (gyL n f xs m lost i s) (ct + 1)) S w w' := by
  unfold gyF gyX gyL
  cases hw : sWhite n f i s
  · simp only [Bool.false_eq_true, if_false, false_and]; exact rsh_grey_no i s hu h h0 h1 hw
  · by_cases hlt : (xs.length : Int) < m
    · simp only [if_true, true_and, hlt, not_true, if_false]; exact rsh_grey_yes i s hu h h0 h1 hw fun _ _ h => rpile_push_lt i h hlt hm2
    · simp only [if_true, true_and, hlt, not_false_iff, if_false]; exact rsh_grey_yes i s hu h h0 h1 hw fun _ _ h => rpile_push_eq i h (by omega)
end
end Go.Proofs.Ytcdmlimhkmbiiaa
