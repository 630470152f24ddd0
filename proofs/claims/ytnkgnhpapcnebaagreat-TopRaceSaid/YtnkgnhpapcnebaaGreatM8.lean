/- The contracts of package pile. -/
import Derived.Test.YtnkgnhpapcnebaaGreatM3
import Derived.Test.YtnkgnhpapcnebaaGreatM7
set_option linter.unusedVariables false
set_option linter.unusedSimpArgs false
set_option maxHeartbeats 8000000
namespace Go.Proofs.YtnkgnhpapcnebaaGreat
open Go.RowKit
/-- A pile at block b: what lies on it (the top one last), how many it bears, whether something was lost. -/
def pileAt (b : Nat) (xs : List Int) (m : Int) (lost : Bool) (S : Nat → Prop) (w : World) : Prop :=
  ∃ v, Blk w b #[v, .int .i64 m, .bool lost] 206 ∧ w.ownsRow 0 3 1 v xs.length (xs.map (Value.int .i64)) ∧ S b ∧ (∀ k, v.ownBlock = some k → S k ∧ k ≠ b) ∧ ∀ k, S k → k < w.heap.size
def Pile (b : Nat) (xs : List Int) (m : Int) (lost : Bool) : Thing where
  at_ := pileAt b xs m lost
  lt := fun ⟨_, _, _, _, _, h⟩ => h
  kept := fun ⟨v, h1, h2, h3, h4, h5⟩ hk hs =>
    ⟨v, by unfold Blk at *; rw [hk b h3]; exact h1, ownsRow_same h2 (fun k hv => hk k (h4 k hv).1), h3, h4, fun k hS => Nat.lt_of_lt_of_le (h5 k hS) hs⟩
theorem pile_lost {b : Nat} {xs : List Int} {m : Int} {lost : Bool} {S : Nat → Prop} {w : World} (h : (Pile b xs m lost).at_ S w) :
    Calls Tryz.prog 147 #[.pointer (some ⟨b, 0, none⟩)] w fun e w' => e = .returned (.bool lost) ∧ w = w' := by
  obtain ⟨v, h, _⟩ := h
  have h2 : w.cell? ⟨b, 2, none⟩ = some (.bool lost) := by rw [h.cell]; rfl
  clear h
  go_enter Tryz.func147, Tryz.ntmps147
  go_wp2
  go_ret
  exact ⟨rfl, rfl⟩
theorem pile_found_walk (b : Nat) (v : Value) (m : Int) (lost : Bool) (w : World) (h : Blk w b #[v, .int .i64 m, .bool lost] 206) :
    Calls Tryz.prog 148 #[.pointer (some ⟨b, 0, none⟩)] w fun e w' => e = .returned (.tuple #[]) ∧ w' = w.setCell ⟨b, 2, none⟩ (.bool false) := by
  have h2 : w.cell? ⟨b, 2, none⟩ = some (.bool lost) := by rw [h.cell]; rfl
  have h3 : w.frozen? ⟨b, 2, none⟩ = false := h.free 2
  clear h
  go_enter Tryz.func148, Tryz.ntmps148
  go_wp2
  go_end0
  exact ⟨rfl, rfl⟩
theorem pile_found {b : Nat} {xs : List Int} {m : Int} {lost : Bool} {S : Nat → Prop} {w : World} (h : (Pile b xs m lost).at_ S w) :
    Calls Tryz.prog 148 #[.pointer (some ⟨b, 0, none⟩)] w fun e w' => e = .returned (.tuple #[]) ∧ Goes (Pile b xs m false) S w w' := by
  obtain ⟨v, h1, h2, h3, h4, h5⟩ := h
  refine (pile_found_walk b v m lost w h1).mono fun e w' ⟨he, hw⟩ => ?_
  subst hw
  exact ⟨he, ⟨S, ⟨v, h1.set 2 _, ownsRow_setCell_other h2 (fun e => (h4 b (by simpa using e)).2 rfl) _, h3, h4, fun k hk => by simpa using h5 k hk⟩, fun k hk => .inl hk⟩, (Turned.refl S w).setCell (.inl h3) _⟩
theorem pile_push_full (b : Nat) (xs : List Int) (v : Value) (lost : Bool) (i : Int) (w : World) (h : Blk w b #[v, .int .i64 (xs.length : Int), .bool lost] 206) (hv : ∃ a cap, v = .slice a xs.length cap) :
    Calls Tryz.prog 140 #[.pointer (some ⟨b, 0, none⟩), .int .i64 i] w fun e w' => e = .returned (.bool false) ∧ ∃ n, w' = (w.drewN n).setCell ⟨b, 2, none⟩ (.bool true) := by
  obtain ⟨a, cap, rfl⟩ := hv
  have h0 : w.cell? ⟨b, 0, none⟩ = some (.slice a xs.length cap) := by rw [h.cell]; rfl
  have h1 : w.cell? ⟨b, 1, none⟩ = some (.int .i64 (xs.length : Int)) := by rw [h.cell]; rfl
  have h2 : w.cell? ⟨b, 2, none⟩ = some (.bool lost) := by rw [h.cell]; rfl
  have h3 : w.frozen? ⟨b, 2, none⟩ = false := h.free 2
  clear h
  go_enter Tryz.func140, Tryz.ntmps140
  go_wp2
  go_quiet (fail)
  go_wp2
  go_ret
  exact ⟨rfl, _, rfl⟩
theorem pile_push_room (b : Nat) (xs : List Int) (v : Value) (m : Int) (lost : Bool) (i : Int) (w : World) (h : Blk w b #[v, .int .i64 m, .bool lost] 206) (hown : w.ownsRow 0 3 1 v xs.length (xs.map (Value.int .i64)))
    (hne : ∀ k, v.ownBlock = some k → k ≠ b) (hlen : (((xs.length : Int)) == m) = false) (hsm : xs.length ≤ 1000000) :
    Calls Tryz.prog 140 #[.pointer (some ⟨b, 0, none⟩), .int .i64 i] w fun e w' => e = .returned (.bool true) ∧
      ∃ v' w1 n, w1.ownsRow 0 3 1 v' (xs.length + 1) (xs.map (Value.int .i64) ++ [.int .i64 i]) ∧ ((w.drewN n).alloc (.cells #[.int .i64 i] 3)).grownBy w1 v.ownBlock ∧
        (v'.ownBlock = v.ownBlock ∨ v'.ownBlock = some (w.heap.size + 1)) ∧ w' = w1.setCell ⟨b, 0, none⟩ v' := by
  obtain ⟨a, cap, hv, _, _⟩ := slice_of_owns hown
  have h0 : w.cell? ⟨b, 0, none⟩ = some v := by rw [h.cell]; rfl
  have h1 : w.cell? ⟨b, 1, none⟩ = some (.int .i64 m) := by rw [h.cell]; rfl
  obtain ⟨i0, hi, hz0, hz1, hz2⟩ := info_parts Tryz.info3
  have hlt := h.lt
  subst hv
  go_enter Tryz.func140, Tryz.ntmps140
  go_wp2
  go_quiet (fail)
  go_wp2_with (at_builtin; refine wpList_push rfl _ _ 22 rfl 3 i0 (.int .i64 0) 8 Tryz.underlying22 hi hz0 hz1 hz2 rfl _ _ _ rfl ((ownsRow_same hown (fun k hk => rfl)).alloc _) ⟨w.heap.size, 0, none⟩ (.int .i64 i) rfl ?c1 rfl hsm (by decide) ?_)
  case c1 => exact World.cell?_alloc_new _ _ _ 0
  intro v' w1 hown' hgrow hblk
  obtain ⟨a', cap', rfl, _⟩ := slice_of_owns hown'
  have hb : Blk w1 b #[.slice a xs.length cap, .int .i64 m, .bool lost] 206 := by
    have h9 := (Blk.alloc (w := w.drewN nq) h (.cells #[.int .i64 i] 3))
    unfold Blk at *
    rw [hgrow.block b (by simp; omega) (fun e => hne b e.symm rfl)]; exact h9
  have g0 : w1.cell? ⟨b, 0, none⟩ = some (.slice a xs.length cap) := by rw [hb.cell]; rfl
  have g3 : w1.frozen? ⟨b, 0, none⟩ = false := hb.free 0
  clear h hown h0 hb
  have G : Hid _ := hgrow
  have G2 : Hid (_ ∨ _) := hblk
  clear hgrow hblk
  go_wp2
  go_ret
  exact ⟨rfl, _, w1, nq, hown', G.out, by simpa using G2.out, rfl⟩
/-- PUSH. -/
theorem pile_push {b : Nat} {xs : List Int} {m : Int} {lost : Bool} (i : Int) {S : Nat → Prop} {w : World} (h : (Pile b xs m lost).at_ S w) (hsm : xs.length ≤ 1000000) :
    Calls Tryz.prog 140 #[.pointer (some ⟨b, 0, none⟩), .int .i64 i] w fun e w' => e = .returned (.bool (!((xs.length : Int) == m))) ∧
      Goes (Pile b (if (xs.length : Int) == m then xs else xs ++ [i]) m (lost || ((xs.length : Int) == m))) S w w' := by
  obtain ⟨v, h1, h2, h3, h4, h5⟩ := h
  by_cases hm : ((xs.length : Int) == m) = true
  · obtain rfl : (xs.length : Int) = m := by simpa using hm
    obtain ⟨a, cap, hv, _⟩ := slice_of_owns h2
    refine (pile_push_full b xs v lost i w h1 ⟨a, cap, hv⟩).mono fun e w' ⟨he, n, hw⟩ => ?_
    subst hw
    refine ⟨by rw [he, hm]; rfl, ⟨S, ⟨v, ?_, ?_, h3, h4, ?_⟩, fun k hk => .inl hk⟩, ?_⟩
    · simp only [hm, Bool.or_true]
      exact Blk.set (w := w.drewN n) h1 2 _
    · simp only [hm, if_true]
      exact ownsRow_setCell_other (ownsRow_same h2 (fun k hk => rfl)) (fun e => (h4 b (by simpa using e)).2 rfl) _
    · intro k hk; simpa using h5 k hk
    · exact ((Turned.refl S w).drewN n).setCell (.inl h3) _
  · have hm' : ((xs.length : Int) == m) = false := by simpa using hm
    refine (pile_push_room b xs v m lost i w h1 h2 (fun k hk => (h4 k hk).2) hm' hsm).mono fun e w' ⟨he, v', w1, n, ho, hg, hbk, hw⟩ => ?_
    subst hw
    have hb1 : Blk w1 b #[v, .int .i64 m, .bool lost] 206 := by
      have h9 := (Blk.alloc (w := w.drewN n) h1 (.cells #[.int .i64 i] 3))
      have := h1.lt
      unfold Blk at *
      rw [hg.block b (by simp; omega) (fun e => (h4 b e.symm).2 rfl)]; exact h9
    have hv' : ∀ k, v'.ownBlock = some k → k ≠ b ∧ (v.ownBlock = some k ∨ w.heap.size ≤ k) ∧ k < w1.heap.size := by
      intro k hk
      have hl := ownBlock_lt ho hk
      have hb := h1.lt
      rcases hbk with e | e
      · exact ⟨(h4 k (e ▸ hk)).2, .inl (e ▸ hk), hl⟩
      · rw [e] at hk; simp at hk; subst hk; exact ⟨by omega, .inr (by omega), hl⟩
    refine ⟨by rw [he, hm']; rfl, ⟨fun k => S k ∨ v'.ownBlock = some k, ⟨v', ?_, ?_, .inl h3, fun k hk => ⟨.inr hk, (hv' k hk).1⟩, ?_⟩, ?_⟩, ?_⟩
    · simp only [hm', Bool.or_false]
      exact hb1.set 0 v'
    · simp only [hm', Bool.false_eq_true, if_false, List.length_append, List.length_cons, List.length_nil, List.map_append, List.map_cons, List.map_nil]
      exact ownsRow_setCell_other ho (fun e => (hv' b (by simpa using e)).1 rfl) _
    · rintro k (hk | hk)
      · have := h5 k hk; have := hg.size; simp at *; omega
      · simpa using (hv' k hk).2.2
    · rintro k (hk | hk)
      · exact .inl hk
      · exact (hv' k hk).2.1.elim (fun e => .inl (h4 k e).1) .inr
    · exact ((((Turned.refl S w).drewN n).alloc _).grown hg (fun k hk => .inl (h4 k hk).1)).setCell (.inl h3) _
theorem pile_pop_none {b : Nat} {m : Int} {lost : Bool} {S : Nat → Prop} {w : World} (h : (Pile b [] m lost).at_ S w) :
    Calls Tryz.prog 144 #[.pointer (some ⟨b, 0, none⟩)] w fun e w' => e = .returned (.tuple #[.int .i64 0, .bool false]) ∧ w = w' := by
  obtain ⟨v, h, h2, _⟩ := h
  obtain ⟨a, cap, rfl, _⟩ := slice_of_owns h2
  have h0 : w.cell? ⟨b, 0, none⟩ = some (.slice a 0 cap) := by rw [h.cell]; rfl
  clear h h2
  go_enter Tryz.func144, Tryz.ntmps144
  go_wp2
  go_ret2
  exact ⟨rfl, rfl⟩
theorem pile_pop_walk (b g n cap : Nat) (i m : Int) (lost : Bool) (w : World) (h : Blk w b #[.slice (some ⟨g, 0, none⟩) (n + 1) cap, .int .i64 m, .bool lost] 206) (hc : w.cell? ⟨g, n, none⟩ = some (.int .i64 i)) (hn : n + 1 ≤ cap) (hcap : cap ≤ maxLen) :
    Calls Tryz.prog 144 #[.pointer (some ⟨b, 0, none⟩)] w fun e w' => e = .returned (.tuple #[.int .i64 i, .bool true]) ∧ w' = w.setCell ⟨b, 0, none⟩ (.slice (some ⟨g, 0, none⟩) n cap) := by
  have h0 : w.cell? ⟨b, 0, none⟩ = some (.slice (some ⟨g, 0, none⟩) (n + 1) cap) := by rw [h.cell]; rfl
  have h1 : w.frozen? ⟨b, 0, none⟩ = false := h.free 0
  unfold maxLen at hcap
  clear h
  go_enter Tryz.func144, Tryz.ntmps144
  go_wp2
  go_ret2
  exact ⟨rfl, rfl⟩
/-- POP: the top one. -/
theorem pile_pop {b : Nat} {xs : List Int} {i : Int} {m : Int} {lost : Bool} {S : Nat → Prop} {w : World} (h : (Pile b (xs ++ [i]) m lost).at_ S w) :
    Calls Tryz.prog 144 #[.pointer (some ⟨b, 0, none⟩)] w fun e w' => e = .returned (.tuple #[.int .i64 i, .bool true]) ∧ Goes (Pile b xs m lost) S w w' := by
  obtain ⟨v, h1, h2, h3, h4, h5⟩ := h
  have h2' := h2
  rcases h2 with ⟨hl, ⟨_, h0⟩ | ⟨g, cap, cur, rfl, hg, hh, hn, hcap, hsz, htake⟩⟩
  · simp at h0
  have hlen : (xs ++ [i]).length = xs.length + 1 := by simp
  rw [hlen] at h1 hn htake h2'
  have hc : w.cell? ⟨g, xs.length, none⟩ = some (.int .i64 i) := by
    have := h2'.cells (g := g) rfl xs.length (.int .i64 i) (by simp)
    unfold Addr.add at this; split at this
    · rename_i h; rw [h]; exact this
    · simpa using this
  refine (pile_pop_walk b g xs.length cap i m lost w h1 hc hn hcap).mono fun e w' ⟨he, hw⟩ => ?_
  subst hw
  have hgb : g ≠ b := (h4 g rfl).2
  refine ⟨he, ⟨S, ⟨_, h1.set 0 _, ?_, h3, fun k hk => h4 k (by simpa [Value.ownBlock] using hk), fun k hk => by simpa using h5 k hk⟩, fun k hk => .inl hk⟩, (Turned.refl S w).setCell (.inl h3) _⟩
  refine ownsRow_setCell_other (ownsRow_pop (last := [.int .i64 i]) (by simp) (by simpa using h2')) (fun e => hgb (by simpa [Value.ownBlock] using e)) _
/-- NEW. -/
theorem pile_new_walk (m : Int) (w : World) (h1 : 1 ≤ m) (h2 : m ≤ 256) :
    Calls Tryz.prog 71 #[.int .i64 m] w fun e w' => e = .returned (.tuple #[.pointer (some ⟨w.heap.size, 0, none⟩), .int .i64 0]) ∧ w' = w.alloc (.cells #[.slice none 0 0, .int .i64 m, .bool false] 206) := by
  go_enter Tryz.func71, Tryz.ntmps71
  go_wp2
  go_ret2
  exact ⟨rfl, rfl⟩
theorem pile_new (m : Int) (w : World) (h1 : 1 ≤ m) (h2 : m ≤ 256) :
    Calls Tryz.prog 71 #[.int .i64 m] w fun e w' => ∃ b, e = .returned (.tuple #[.pointer (some ⟨b, 0, none⟩), .int .i64 0]) ∧ (∃ S, (Pile b [] m false).at_ S w' ∧ ∀ k, S k → w.heap.size ≤ k) ∧ Below w.heap.size w w' := by
  refine (pile_new_walk m w h1 h2).mono fun e w' ⟨he, hw⟩ => ?_
  subst hw
  exact ⟨_, he, ⟨fun k => k = w.heap.size, ⟨_, Blk.new _ _ _, World.ownsRow_nil _ _ _ _, rfl, fun k hk => by simp [Value.ownBlock] at hk, fun k hk => by simp; omega⟩, fun k hk => by omega⟩, (Below.refl _ _).alloc (Nat.le_refl _) _⟩
theorem pile_push_lt {b : Nat} {xs : List Int} {m : Int} {lost : Bool} (i : Int) {S : Nat → Prop} {w : World} (h : (Pile b xs m lost).at_ S w) (hm : (xs.length : Int) < m) (hm2 : m ≤ 256) :
    Calls Tryz.prog 140 #[.pointer (some ⟨b, 0, none⟩), .int .i64 i] w fun e w' => e = .returned (.bool true) ∧ Goes (Pile b (xs ++ [i]) m lost) S w w' := by
  have e : ((xs.length : Int) == m) = false := by simp; omega
  have := pile_push i h (by omega)
  rw [e] at this
  simpa using this
theorem pile_push_eq {b : Nat} {xs : List Int} {m : Int} {lost : Bool} (i : Int) {S : Nat → Prop} {w : World} (h : (Pile b xs m lost).at_ S w) (hm : (xs.length : Int) = m) (hm2 : m ≤ 256) :
    Calls Tryz.prog 140 #[.pointer (some ⟨b, 0, none⟩), .int .i64 i] w fun e w' => e = .returned (.bool false) ∧ Goes (Pile b xs m true) S w w' := by
  have e : ((xs.length : Int) == m) = true := by simp; omega
  have := pile_push i h (by omega)
  rw [e] at this
  simpa using this
end Go.Proofs.YtnkgnhpapcnebaaGreat
/- The contracts of package shade. -/
namespace Go.Proofs.YtnkgnhpapcnebaaGreat
open Go.RowKit
/-- The shades: the struct, its table, its pile. -/
def Shade (bs bt bp n : Nat) (f : Nat → One) (xs : List Int) (m : Int) (lost : Bool) (ct : Int) : Thing :=
  Sep (Var bs #[.pointer (some ⟨bt, 0, none⟩), .pointer (some ⟨bp, 0, none⟩), .int .i64 ct] 104) (Sep (Tab bt n f) (Pile bp xs m lost))
section
variable {bs bt bp n : Nat} {f : Nat → One} {xs : List Int} {m : Int} {lost : Bool} {ct : Int} {S : Nat → Prop} {w w' : World}
theorem shade_blk (h : (Shade bs bt bp n f xs m lost ct).at_ S w) : Blk w bs #[.pointer (some ⟨bt, 0, none⟩), .pointer (some ⟨bp, 0, none⟩), .int .i64 ct] 104 := by
  obtain ⟨_, _, h1, _⟩ := h; exact h1.1
theorem Goes.shadeBlk (h : Goes (Shade bs bt bp n f xs m lost ct) S w w') : Blk w' bs #[.pointer (some ⟨bt, 0, none⟩), .pointer (some ⟨bp, 0, none⟩), .int .i64 ct] 104 := shade_blk h.now.choose_spec.1
/-- One more is counted. -/
theorem shade_count (h : (Shade bs bt bp n f xs m lost ct).at_ S w) : Goes (Shade bs bt bp n f xs m lost (wrap64 (ct + 1))) S w (w.setCell ⟨bs, 2, none⟩ (.int .i64 (wrap64 (ct + 1)))) :=
  goesL (fun _ h => var_set h 2 (.int .i64 (wrap64 (ct + 1)))) S h
theorem shade_tab {P : Program} {g : FuncId} {args : Array Value} {R : Ending → Prop} {f' : Nat → One} (h : Goes (Shade bs bt bp n f xs m lost ct) S w w')
    (hc : ∀ S', (Tab bt n f).at_ S' w' → Calls P g args w' fun e w2 => R e ∧ Goes (Tab bt n f') S' w' w2) : Calls P g args w' fun e w2 => R e ∧ Goes (Shade bs bt bp n f' xs m lost ct) S w w2 :=
  h.call (sepR (sepL hc))
theorem shade_pile {P : Program} {g : FuncId} {args : Array Value} {R : Ending → Prop} {xs' : List Int} {lost' : Bool} (h : Goes (Shade bs bt bp n f xs m lost ct) S w w')
    (hc : ∀ S', (Pile bp xs m lost).at_ S' w' → Calls P g args w' fun e w2 => R e ∧ Goes (Pile bp xs' m lost') S' w' w2) : Calls P g args w' fun e w2 => R e ∧ Goes (Shade bs bt bp n f xs' m lost' ct) S w w2 :=
  h.call (sepR (sepR hc))
theorem shade_look {P : Program} {g : FuncId} {args : Array Value} {R : Ending → Prop} (h : Goes (Shade bs bt bp n f xs m lost ct) S w w')
    (hc : ∀ S', (Tab bt n f).at_ S' w' → Calls P g args w' fun e w2 => R e ∧ w' = w2) : Calls P g args w' fun e w2 => R e ∧ w' = w2 :=
  h.look (lookR (lookL hc))
theorem shade_lookP {P : Program} {g : FuncId} {args : Array Value} {R : Ending → Prop} (h : Goes (Shade bs bt bp n f xs m lost ct) S w w')
    (hc : ∀ S', (Pile bp xs m lost).at_ S' w' → Calls P g args w' fun e w2 => R e ∧ w' = w2) : Calls P g args w' fun e w2 => R e ∧ w' = w2 :=
  h.look (lookR (lookR hc))
/-- Whether i is a head, and white. -/
def sWhite (n : Nat) (f : Nat → One) (i : Int) (s : Bool) : Bool := tHead n f i && !tBlack n f i s
theorem shade_white (i : Int) (s : Bool) (h : (Tab bt n f).at_ S w) :
    Calls Tryz.prog 138 #[.agg #[.pointer (some ⟨bt, 0, none⟩)], .int .i64 i, .bool s] w fun e w' => e = .returned (.bool (sWhite n f i s)) ∧ Goes (Tab bt n f) S w w' := by
  have hb := Goes.later h ((Below.refl _ w).alloc (Nat.le_refl _) (.cells #[.pointer (some ⟨bt, 0, none⟩)] 101))
  have HB := Lib.hid hb
  have HH := Lib.hid (hb.look fun S h => tint_head i h)
  have HK := Lib.hid (hb.look fun S h => tint_black i s h)
  unfold sWhite
  clear hb h
  cases hh : tHead n f i with
  | false =>
    rw [hh] at HH
    clear hh
    go_enter Tryz.func138, Tryz.ntmps138
    go_wp2_with fail
    with_reducible refine HH.out.mono ?_
    rintro e w' ⟨rfl, rfl⟩
    go_wp2_with fail
    go_ret
    exact ⟨by simp, HB.out⟩
  | true =>
    rw [hh] at HH
    clear hh
    go_enter Tryz.func138, Tryz.ntmps138
    go_wp2_with fail
    with_reducible refine HH.out.mono ?_
    rintro e w' ⟨rfl, rfl⟩
    go_wp2_with fail
    with_reducible refine HK.out.mono ?_
    rintro e w' ⟨rfl, rfl⟩
    go_wp2_with fail
    go_ret
    exact ⟨by simp, HB.out⟩
theorem shade_table (bt : Nat) (w : World) :
    Calls Tryz.prog 34 #[.agg #[.pointer (some ⟨bt, 0, none⟩)]] w fun e w' => e = .returned (.pointer (some ⟨bt, 0, none⟩)) ∧ Below w.heap.size w w' := by
  go_enter Tryz.func34, Tryz.ntmps34
  go_wp2
  go_ret
  exact ⟨rfl, (Below.refl _ _).alloc (Nat.le_refl _) _⟩
theorem shade_black (i : Int) (s : Bool) (h : (Shade bs bt bp n f xs m lost ct).at_ S w) :
    Calls Tryz.prog 93 #[.pointer (some ⟨bs, 0, none⟩), .int .i64 i, .bool s] w fun e w' => e = .returned (.bool (tHead n f i && tBlack n f i s)) ∧ Goes (Shade bs bt bp n f xs m lost (wrap64 (ct + 1))) S w w' := by
  have hb := shade_blk h
  have g1 := shade_count h
  have hb1 := g1.shadeBlk
  have c0 : w.cell? ⟨bs, 2, none⟩ = some (.int .i64 ct) := by rw [hb.cell]; rfl
  have c1 : w.frozen? ⟨bs, 2, none⟩ = false := hb.free 2
  have d0 : (w.setCell ⟨bs, 2, none⟩ (.int .i64 (wrap64 (ct + 1)))).cell? ⟨bs, 0, none⟩ = some (.pointer (some ⟨bt, 0, none⟩)) := by rw [hb1.cell]; rfl
  have HG := Lib.hid g1
  have HH := Lib.hid (shade_look g1 fun S h => tint_head i h)
  have HK := Lib.hid (shade_look g1 fun S h => tint_black i s h)
  clear hb g1 hb1 h
  cases hh : tHead n f i with
  | false =>
    rw [hh] at HH
    clear hh
    go_enter Tryz.func93, Tryz.ntmps93
    go_wp2_with fail
    with_reducible refine HH.out.mono ?_
    rintro e w' ⟨rfl, rfl⟩
    go_wp2_with fail
    go_ret
    exact ⟨by simp, HG.out⟩
  | true =>
    rw [hh] at HH
    clear hh
    go_enter Tryz.func93, Tryz.ntmps93
    go_wp2_with fail
    with_reducible refine HH.out.mono ?_
    rintro e w' ⟨rfl, rfl⟩
    go_wp2_with fail
    with_reducible refine HK.out.mono ?_
    rintro e w' ⟨rfl, rfl⟩
    go_wp2_with fail
    go_ret
    exact ⟨by simp, HG.out⟩
theorem shade_next_none (h : (Shade bs bt bp n f [] m lost ct).at_ S w) :
    Calls Tryz.prog 88 #[.pointer (some ⟨bs, 0, none⟩)] w fun e w' => e = .returned (.tuple #[.int .i64 0, .bool false]) ∧ Goes (Shade bs bt bp n f [] m lost (wrap64 (ct + 1))) S w w' := by
  have hb := shade_blk h
  have g1 := shade_count h
  have hb1 := g1.shadeBlk
  have c0 : w.cell? ⟨bs, 2, none⟩ = some (.int .i64 ct) := by rw [hb.cell]; rfl
  have c1 : w.frozen? ⟨bs, 2, none⟩ = false := hb.free 2
  have d0 : (w.setCell ⟨bs, 2, none⟩ (.int .i64 (wrap64 (ct + 1)))).cell? ⟨bs, 1, none⟩ = some (.pointer (some ⟨bp, 0, none⟩)) := by rw [hb1.cell]; rfl
  have HK := Lib.hid (shade_lookP g1 fun S h => pile_pop_none h)
  have HG := Lib.hid g1
  clear hb g1 hb1 h
  go_enter Tryz.func88, Tryz.ntmps88
  go_wp2_with fail
  with_reducible refine HK.out.mono ?_
  rintro e w' ⟨rfl, rfl⟩
  go_wp2_with fail
  go_ret2
  exact ⟨rfl, HG.out⟩
theorem shade_next {i : Int} (h : (Shade bs bt bp n f (xs ++ [i]) m lost ct).at_ S w) :
    Calls Tryz.prog 88 #[.pointer (some ⟨bs, 0, none⟩)] w fun e w' => e = .returned (.tuple #[.int .i64 i, .bool true]) ∧ Goes (Shade bs bt bp n f xs m lost (wrap64 (ct + 1))) S w w' := by
  have hb := shade_blk h
  have g1 := shade_count h
  have hb1 := g1.shadeBlk
  have c0 : w.cell? ⟨bs, 2, none⟩ = some (.int .i64 ct) := by rw [hb.cell]; rfl
  have c1 : w.frozen? ⟨bs, 2, none⟩ = false := hb.free 2
  have d0 : (w.setCell ⟨bs, 2, none⟩ (.int .i64 (wrap64 (ct + 1)))).cell? ⟨bs, 1, none⟩ = some (.pointer (some ⟨bp, 0, none⟩)) := by rw [hb1.cell]; rfl
  have HK := Lib.hid (shade_pile g1 fun S h => pile_pop h)
  clear hb g1 hb1 h
  go_enter Tryz.func88, Tryz.ntmps88
  go_wp2_with fail
  with_reducible refine HK.out.mono ?_
  rintro e w' ⟨rfl, g2⟩
  have G2 := Lib.hid g2
  clear g2
  go_wp2_with fail
  go_ret2
  exact ⟨rfl, G2.out⟩
theorem shade_lost (h : (Shade bs bt bp n f xs m lost ct).at_ S w) :
    Calls Tryz.prog 92 #[.pointer (some ⟨bs, 0, none⟩)] w fun e w' => e = .returned (.bool lost) ∧ Goes (Shade bs bt bp n f xs m false (wrap64 (ct + 1))) S w w' := by
  have hb := shade_blk h
  have g1 := shade_count h
  have hb1 := g1.shadeBlk
  have c0 : w.cell? ⟨bs, 2, none⟩ = some (.int .i64 ct) := by rw [hb.cell]; rfl
  have c1 : w.frozen? ⟨bs, 2, none⟩ = false := hb.free 2
  have d0 : (w.setCell ⟨bs, 2, none⟩ (.int .i64 (wrap64 (ct + 1)))).cell? ⟨bs, 1, none⟩ = some (.pointer (some ⟨bp, 0, none⟩)) := by rw [hb1.cell]; rfl
  have HL := Lib.hid (shade_lookP g1 fun S h => pile_lost h)
  have HK := Lib.hid (shade_pile g1 fun S h => pile_found h)
  clear hb g1 hb1 h
  go_enter Tryz.func92, Tryz.ntmps92
  go_wp2_with fail
  with_reducible refine HL.out.mono ?_
  rintro e w' ⟨rfl, rfl⟩
  go_wp2_with fail
  with_reducible refine HK.out.mono ?_
  rintro e w' ⟨rfl, g2⟩
  have G2 := Lib.hid g2
  clear g2
  go_wp2_with fail
  go_ret
  exact ⟨rfl, G2.out⟩
theorem shade_grey_no (i : Int) (s : Bool) (h : (Shade bs bt bp n f xs m lost ct).at_ S w) (hw : sWhite n f i s = false) :
    Calls Tryz.prog 85 #[.pointer (some ⟨bs, 0, none⟩), .int .i64 i, .bool s] w fun e w' => e = .returned (.bool false) ∧ Goes (Shade bs bt bp n f xs m lost (wrap64 (ct + 1))) S w w' := by
  have hb := shade_blk h
  have g1 := shade_count h
  have hb1 := g1.shadeBlk
  have c0 : w.cell? ⟨bs, 2, none⟩ = some (.int .i64 ct) := by rw [hb.cell]; rfl
  have c1 : w.frozen? ⟨bs, 2, none⟩ = false := hb.free 2
  have d0 : (w.setCell ⟨bs, 2, none⟩ (.int .i64 (wrap64 (ct + 1)))).cell? ⟨bs, 0, none⟩ = some (.pointer (some ⟨bt, 0, none⟩)) := by rw [hb1.cell]; rfl
  have HW := Lib.hid (shade_tab g1 fun S h => shade_white i s h)
  rw [hw] at HW
  clear hb g1 hb1 h hw
  go_enter Tryz.func85, Tryz.ntmps85
  go_wp2_with fail
  with_reducible refine HW.out.mono ?_
  rintro e w' ⟨rfl, g2⟩
  have G2 := Lib.hid g2
  clear g2
  go_wp2_with fail
  go_ret
  exact ⟨rfl, G2.out⟩
theorem shade_grey_yes {xs' : List Int} {lost' r : Bool} (i : Int) (s : Bool) (h : (Shade bs bt bp n f xs m lost ct).at_ S w) (hw : sWhite n f i s = true)
    (hp : ∀ S w, (Pile bp xs m lost).at_ S w → Calls Tryz.prog 140 #[.pointer (some ⟨bp, 0, none⟩), .int .i64 i] w fun e w' => e = .returned (.bool r) ∧ Goes (Pile bp xs' m lost') S w w') :
    Calls Tryz.prog 85 #[.pointer (some ⟨bs, 0, none⟩), .int .i64 i, .bool s] w fun e w' => e = .returned (.bool true) ∧ Goes (Shade bs bt bp n (tMark n f i s) xs' m lost' (wrap64 (ct + 1))) S w w' := by
  have hb := shade_blk h
  have g1 := shade_count h
  have hb1 := g1.shadeBlk
  have c0 : w.cell? ⟨bs, 2, none⟩ = some (.int .i64 ct) := by rw [hb.cell]; rfl
  have c1 : w.frozen? ⟨bs, 2, none⟩ = false := hb.free 2
  have d0 : (w.setCell ⟨bs, 2, none⟩ (.int .i64 (wrap64 (ct + 1)))).cell? ⟨bs, 0, none⟩ = some (.pointer (some ⟨bt, 0, none⟩)) := by rw [hb1.cell]; rfl
  have HW := Lib.hid (shade_tab g1 fun S h => shade_white i s h)
  have HPP := Lib.hid hp
  rw [hw] at HW
  clear hb g1 hb1 h hw hp
  go_enter Tryz.func85, Tryz.ntmps85
  go_wp2_with fail
  with_reducible refine HW.out.mono ?_
  rintro e w1 ⟨rfl, g2⟩
  have hb2 := g2.shadeBlk
  have e0 : w1.cell? ⟨bs, 0, none⟩ = some (.pointer (some ⟨bt, 0, none⟩)) := by rw [hb2.cell]; rfl
  have HM := Lib.hid (shade_tab g2 fun S h => tint_mark i s h)
  clear g2 hb2 c0 c1 d0 HW
  go_wp2_with fail
  with_reducible refine HM.out.mono ?_
  rintro e w2 ⟨rfl, g3⟩
  have hb3 := g3.shadeBlk
  have e1 : w2.cell? ⟨bs, 1, none⟩ = some (.pointer (some ⟨bp, 0, none⟩)) := by rw [hb3.cell]; rfl
  have HP := Lib.hid (shade_pile g3 fun S h => HPP.out S w2 h)
  clear g3 hb3 e0 HM HPP
  go_wp2_with fail
  with_reducible refine HP.out.mono ?_
  rintro e w3 ⟨rfl, g4⟩
  have G4 := Lib.hid g4
  clear g4 HP
  go_wp2_with fail
  go_ret
  exact ⟨rfl, G4.out⟩
theorem shade_grey_lt (i : Int) (s : Bool) (h : (Shade bs bt bp n f xs m lost ct).at_ S w) (hw : sWhite n f i s = true) (hm : (xs.length : Int) < m) (hm2 : m ≤ 256) :
    Calls Tryz.prog 85 #[.pointer (some ⟨bs, 0, none⟩), .int .i64 i, .bool s] w fun e w' => e = .returned (.bool true) ∧ Goes (Shade bs bt bp n (tMark n f i s) (xs ++ [i]) m lost (wrap64 (ct + 1))) S w w' :=
  shade_grey_yes i s h hw fun _ _ h => pile_push_lt i h hm hm2
theorem shade_grey_eq (i : Int) (s : Bool) (h : (Shade bs bt bp n f xs m lost ct).at_ S w) (hw : sWhite n f i s = true) (hm : (xs.length : Int) = m) (hm2 : m ≤ 256) :
    Calls Tryz.prog 85 #[.pointer (some ⟨bs, 0, none⟩), .int .i64 i, .bool s] w fun e w' => e = .returned (.bool true) ∧ Goes (Shade bs bt bp n (tMark n f i s) xs m true (wrap64 (ct + 1))) S w w' :=
  shade_grey_yes i s h hw fun _ _ h => pile_push_eq i h hm hm2
end
theorem shade_new (n : Nat) (m : Int) (w : World) (h1 : n ≤ 1024) (h2 : 1 ≤ m) (h3 : m ≤ 256) :
    Calls Tryz.prog 32 #[.int .i64 n, .int .i64 m] w fun e w' => ∃ bs bt bp, e = .returned (.tuple #[.pointer (some ⟨bs, 0, none⟩), .int .i64 0]) ∧ St w (Shade bs bt bp n blank [] m false 0) w' := by
  go_enter Tryz.func32, Tryz.ntmps32
  go_wp2_with fail
  with_reducible refine (tint_new n _ h1).mono ?_
  rintro e w1 ⟨bt, rfl, hP, hB⟩
  have hs := St.begin (Below.refl _ w) hP hB
  clear hP hB
  have HS := Lib.hid hs
  clear hs
  go_wp2_with fail
  with_reducible refine (pile_new m _ h2 h3).mono ?_
  rintro e w2 ⟨bp, rfl, hP, hB⟩
  have hs := Lib.hid (HS.out.more hP hB)
  clear hP hB HS
  go_wp2_with fail
  go_ret2
  exact ⟨_, bt, bp, rfl, (hs.out.var _ _).swap⟩
end Go.Proofs.YtnkgnhpapcnebaaGreat
