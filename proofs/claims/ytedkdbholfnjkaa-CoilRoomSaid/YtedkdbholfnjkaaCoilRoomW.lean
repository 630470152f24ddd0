/- The walk of CoilRoom. -/
import Derived.Test.YtedkdbholfnjkaaCoil2
import Derived.Test.YtedkdbholfnjkaaArgs
import Derived.Deep.CutBlock
namespace Go.Proofs.Ytedkdbholfnjkaa
open Go.RowKit
set_option linter.unusedVariables false
set_option linter.unusedSimpArgs false

section
variable {b : Nat} {s : Int} {c : Cs} {S : Nat → Prop} {w : World}
set_option maxHeartbeats 800000 in
theorem coil_roomQ (hg : Good s c) (h : (Coil b s c).at_ S w) : Calls Try.prog 22 #[.pointer (some ⟨b, 0, none⟩)] w fun e w' => e = .returned (.int .i64 (c.room s)) ∧ ∃ m, w' = w.drewN m := by
  obtain ⟨c0, c1, c2, c3, c4, -⟩ := coil_cells h.1
  clear h
  obtain ⟨cur, u0, u1, k⟩ := c
  simp only [Good, Cs.here] at hg
  obtain ⟨g1, g2, g3, g4, g5, g6, g7, g8⟩ := hg
  cases cur
  all_goals
    simp only [cN, Cs.room, Cs.here, Bool.false_eq_true, if_true, if_false] at c1 c2 c3 c4 g3 g4 g5 g6 g7 g8 ⊢
    go_enter Try.func22, Try.ntmps22
    go_wp2_with fail
    go_quiet (fail)
    go_wp2_with fail
    go_ret
    exact ⟨rfl, _, rfl⟩
set_option maxHeartbeats 800000 in
theorem coil_turn_noQ (hg : Good s c) (ht : 0 < c.there) (h : (Coil b s c).at_ S w) : Calls Try.prog 12 #[.pointer (some ⟨b, 0, none⟩)] w fun e w' => e = .returned (.bool false) ∧ ∃ m, w' = w.drewN m := by
  obtain ⟨c0, c1, c2, c3, c4, -⟩ := coil_cells h.1
  clear h
  obtain ⟨cur, u0, u1, k⟩ := c
  simp only [Good, Cs.here] at hg
  obtain ⟨g1, g2, g3, g4, g5, g6, g7, g8⟩ := hg
  cases cur
  all_goals
    simp only [cN, Cs.there, Bool.false_eq_true, if_true, if_false] at c1 c2 c3 c4 g3 g4 g5 g6 g7 g8 ht
    go_enter Try.func12, Try.ntmps12
    go_wp2_with fail
    go_quiet (fail)
    go_wp2_with fail
    go_ret
    exact ⟨rfl, _, rfl⟩
end
theorem turn_quiet {W w : World} {b : Nat} {s : Int} {c : Cs} {A : Thing} (hg : Good s c) (ht : 0 < c.there) (h : St W (Sep (Coil b s c) A) w) (k : Nat) : Calls Try.prog 12 #[.pointer (some ⟨b, 0, none⟩)] (w.drewN k) fun e w' => e = .returned (.bool false) ∧ ∃ m, w' = w.drewN m := by
  have h9 := (h.drewN k).1.choose_spec.1
  obtain ⟨_, _, h9, _⟩ := h9
  exact (coil_turn_noQ hg ht h9).mono fun e w' ⟨he, m, hw⟩ => ⟨he, k + m, by rw [hw, World.drewN_drewN]⟩
theorem room_quiet {W w : World} {b : Nat} {s : Int} {c : Cs} {A : Thing} (hg : Good s c) (h : St W (Sep (Coil b s c) A) w) (k : Nat) : Calls Try.prog 22 #[.pointer (some ⟨b, 0, none⟩)] (w.drewN k) fun e w' => e = .returned (.int .i64 (c.room s)) ∧ ∃ m, w' = w.drewN m := by
  have h9 := (h.drewN k).1.choose_spec.1
  obtain ⟨_, _, h9, _⟩ := h9
  exact (coil_roomQ hg h9).mono fun e w' ⟨he, m, hw⟩ => ⟨he, k + m, by rw [hw, World.drewN_drewN]⟩
/-- A variable of two ints. -/
theorem two_cells {W w : World} {A : Thing} {bo : Nat} {t : TypeId} {x y : Int} (h : St W (Sep A (Var bo #[.int .i64 x, .int .i64 y] t)) w) : w.cell? ⟨bo, 0, none⟩ = some (.int .i64 x) ∧ w.cell? ⟨bo, 1, none⟩ = some (.int .i64 y) ∧ w.frozen? ⟨bo, 0, none⟩ = false ∧ w.frozen? ⟨bo, 1, none⟩ = false :=
  ⟨by rw [h.right.blk.cell]; rfl, by rw [h.right.blk.cell]; rfl, h.right.blk.free 0, h.right.blk.free 1⟩

set_option maxRecDepth 100000 in
set_option maxHeartbeats 800000 in
theorem coilRoom_no (s : Int) (a1 : Option Addr) (len1 cap1 : Nat) (W : World) (hm : s < 0 ∨ 2048 < s) :
    Calls Try.prog 4 #[.int .i64 s, .slice a1 len1 cap1] W fun e w' => e = .returned (.bool true) ∧ Below W.heap.size W w' := by
  go_enter Try.func4, Try.ntmps4
  go_wp2_with fail
  with_reducible refine (coil_first _).mono ?_
  rintro e wa ⟨rfl, hb0⟩
  go_wp2_with fail
  with_reducible refine (coil_new_no s _ hm).mono ?_
  rintro e wb ⟨rfl, rfl⟩
  clear hm
  go_wp2_with fail
  with_reducible refine (coil_first _).mono ?_
  rintro e wa ⟨rfl, hb1⟩
  go_wp2_with fail
  go_ret
  exact ⟨rfl, hb0.trans (hb1.mono hb0.size)⟩

set_option maxRecDepth 100000 in
set_option maxHeartbeats 800000 in
theorem coilRoom_long (s : Int) (a1 : Option Addr) (len1 cap1 : Nat) (W : World) (h0 : 0 ≤ s) (h1 : s ≤ 2048) (hm : 500 < (len1 : Int)) :
    Calls Try.prog 4 #[.int .i64 s, .slice a1 len1 cap1] W fun e w' => e = .returned (.bool true) ∧ Below W.heap.size W w' := by
  go_enter Try.func4, Try.ntmps4
  go_wp2_with fail
  with_reducible refine (coil_first _).mono ?_
  rintro e wa ⟨rfl, hb0⟩
  go_wp2_with fail
  with_reducible refine (coil_new s _ h0 h1).mono ?_
  rintro e wb ⟨b, rfl, hs⟩
  have hs := hs.onward hb0
  go_wp2_with fail
  with_reducible refine (coil_first _).mono ?_
  rintro e wa ⟨rfl, hb1⟩
  go_wp2_with fail
  go_ret
  exact ⟨rfl, (hs.later hb1).below⟩

/-- What was laid just now. -/
def Laid (n : Int) (c : Cs) (e0 e1 : Int) : Prop := if c.cur then e0 = c.u0 ∧ e1 + n = c.u1 else e0 + n = c.u0 ∧ e1 = c.u1
def RoomAt (W : World) (b be bo : Nat) (s : Int) (kd n : Int) (k a ok : Value) (w : World) : Prop := ∃ c : Cs, Good s c ∧
  ((ok = .bool false ∧ (∃ j : Bool, k = .int .i64 (cN j)) ∧ St W (Sep (Sep (Coil b s c) (Var be #[.int .i64 c.u0, .int .i64 c.u1] 37)) (Var bo #[.int .i64 kd, .int .i64 n] 32)) w) ∨
   (ok = .bool true ∧ k = .int .i64 (cN c.cur) ∧ ∃ e0 e1 : Int, a = .int .i64 (if c.cur then e1 else e0) ∧ Laid n c e0 e1 ∧ 0 ≤ e0 ∧ 0 ≤ e1 ∧ 1 ≤ n ∧
     St W (Sep (Sep (Coil b s c) (Var be #[.int .i64 e0, .int .i64 e1] 37)) (Var bo #[.int .i64 kd, .int .i64 n] 32)) w))

set_option maxRecDepth 100000 in
set_option maxHeartbeats 102400000 in
theorem coilRoom_walk (s : Int) (a1 : Option Addr) (len1 cap1 : Nat) (W : World) (w1 : IsStructs [false, false] W a1 len1) (h0 : 0 ≤ s) (h1 : s ≤ 2048) (hlen : (len1 : Int) ≤ 500) :
    Calls Try.prog 4 #[.int .i64 s, .slice a1 len1 cap1] W fun e w' => e = .returned (.bool true) ∧ Below W.heap.size W w' := by
  have hgn : Good s cNew := good_new (by omega) (by omega)
  go_enter Try.func4, Try.ntmps4
  go_wp2_with fail
  with_reducible refine (coil_first _).mono ?_
  rintro e wa ⟨rfl, hb0⟩
  go_wp2_with fail
  with_reducible refine (coil_new s _ h0 h1).mono ?_
  rintro e wb ⟨b, rfl, hs⟩
  have hs := hs.onward hb0
  clear hb0
  go_wp2_with fail
  have h3 := hs.var #[.int .i64 0, .int .i64 0] 37
  generalize hV : wb.alloc (.cells #[.int .i64 0, .int .i64 0] 37) = w3 at h3 ⊢
  generalize hBe : wb.heap.size = be at h3 ⊢
  clear hs hV hBe
  go_loopw [8] (fun k w => ∃ (q : Nat) (c : Cs), q ≤ len1 ∧ k = .int .i64 q ∧ Good s c ∧ St W (Sep (Coil b s c) (Var be #[.int .i64 c.u0, .int .i64 c.u1] 37)) w) (fun k _ => len1 - (intOf k).toNat)
  case atStart => exact ⟨0, cNew, Nat.zero_le _, rfl, hgn, h3⟩
  case round =>
    clear h3 hgn
    obtain ⟨q, c, hq, rfl, hg, hs⟩ := hrel
    by_cases hlt : q < len1
    · obtain ⟨ab, off, kd, n, rfl, hab, c0, c1⟩ := w1.two hlt
      have g0 := (hs.below.cell (p := ⟨ab, off + q * 2, none⟩) hab).trans c0
      have g1 := (hs.below.cell (p := ⟨ab, off + q * 2 + 1, none⟩) hab).trans c1
      obtain ⟨cur, u0, u1, k⟩ := c
      have HG := Lib.hid hg
      simp only [Good, Cs.here] at hg
      obtain ⟨-, -, g3, g4, g5, g6, g7, g8⟩ := hg
      cases cur
      · simp only [Bool.false_eq_true, if_true, if_false] at g8 hs
        go_wp2_with fail
        have h6 := hs.var #[.int .i64 kd, .int .i64 n] 32
        generalize hV : wr.alloc (.cells #[.int .i64 kd, .int .i64 n] 32) = w6 at h6 ⊢
        generalize hBo : wr.heap.size = bo at h6 ⊢
        clear hs hV hBo g0 g1 c0 c1
        with_reducible refine (h6.look (lookL (lookL fun S h => coil_current h))).mono ?_
        rintro e w7 ⟨rfl, rfl⟩
        simp only [cN, Bool.false_eq_true, if_true, if_false]
        go_wp2_with fail
        with_reducible refine (h6.look (lookL (lookL fun S h => coil_left h))).mono ?_
        rintro e w7 ⟨rfl, rfl⟩
        obtain ⟨v0, v1, -, -⟩ := two_cells h6
        go_upto_block 2 with fail
        go_cut [10, 11, 12] (fun kk aa ok w => RoomAt W b be bo s kd n kk aa ok w)
        case first =>
          obtain ⟨y0, y1, f0, f1⟩ := two_cells h6.left
          by_cases k0 : kd = 0
          · as_aux_lemma =>
            subst k0
            go_wp2_with fail
            clear v0
            by_cases hn1 : 1 ≤ n
            · by_cases hn2 : n ≤ s - u0 - k
              · have hr2 : n ≤ Cs.room ⟨false, u0, u1, k⟩ s := hn2
                with_reducible refine (h6.call (sepL (sepL fun S h => coil_take n HG.out hn1 hr2 h))).mono ?_
                rintro e w7 ⟨rfl, h7⟩
                simp only [Cs.here, Bool.false_eq_true, if_true, if_false]
                obtain ⟨-, v1, -, -⟩ := two_cells h7
                obtain ⟨y0, y1, -, -⟩ := two_cells h7.left
                have H7 := Lib.hid h7
                clear h6 h7
                go_wp2_with fail
                go_quiet (fail)
                go_wp2_with fail
                go_meet
                exact ⟨_, HG.out.lay hn1 hn2, .inr ⟨rfl, rfl, u0, u1, rfl, ⟨rfl, rfl⟩, g3, g5, hn1, H7.out.drewN nq⟩⟩
              · have hn3 : s - u0 - k < n := by omega
                have hr2 : Cs.room ⟨false, u0, u1, k⟩ s < n := hn3
                have d9 : decide (n ≤ s - u0 - k) = false := by simpa using hn2
                with_reducible refine (h6.call (sepL (sepL fun S h => coil_take_no n HG.out (.inr hr2) h))).mono ?_
                rintro e w7 ⟨rfl, h7⟩
                obtain ⟨-, v1, -, -⟩ := two_cells h7
                obtain ⟨y0, y1, -, -⟩ := two_cells h7.left
                have H7 := Lib.hid h7
                clear h6 h7
                go_wp2_with fail
                go_quiet (fail)
                go_wp2_with fail
                go_meet
                exact ⟨_, HG.out, .inl ⟨rfl, ⟨false, rfl⟩, H7.out.drewN nq⟩⟩
            · have hn3 : n < 1 := by omega
              have d9 : decide (1 ≤ n) = false := by simpa using hn1
              with_reducible refine (h6.call (sepL (sepL fun S h => coil_take_no n HG.out (.inl hn3) h))).mono ?_
              rintro e w7 ⟨rfl, h7⟩
              obtain ⟨-, v1, -, -⟩ := two_cells h7
              obtain ⟨y0, y1, -, -⟩ := two_cells h7.left
              have H7 := Lib.hid h7
              clear h6 h7
              go_wp2_with fail
              go_quiet (fail)
              go_wp2_with fail
              go_meet
              exact ⟨_, HG.out, .inl ⟨rfl, ⟨false, rfl⟩, H7.out.drewN nq⟩⟩
          have d0 : (kd == 0) = false := by simpa using k0
          by_cases k2 : kd = 2
          · as_aux_lemma =>
            subst k2
            clear k0 d0
            go_wp2_with fail
            clear v0
            by_cases hn1 : 1 ≤ n
            · by_cases hn2 : n ≤ k
              · with_reducible refine (h6.call (sepL (sepL fun S h => coil_copy n HG.out hn1 hn2 h))).mono ?_
                rintro e w7 ⟨rfl, h7⟩
                simp only [Cs.here, Bool.false_eq_true, if_true, if_false]
                obtain ⟨-, v1, -, -⟩ := two_cells h7
                have A1 : Hid (∀ i, Calls Try.prog 24 #[.pointer (some ⟨b, 0, none⟩)] (w7.drewN i) fun e w'' => e = .returned (.int .i64 (k - n)) ∧ ∃ m, w'' = w7.drewN m) := fun i => look_quiet ((h7.drewN i).look (lookL (lookL fun S h => coil_left h)))
                have H7 := Lib.hid h7
                clear h6 h7 y0 y1
                go_wp2_with fail
                go_quiet (first | (go_at_call 24; exact A1.out _))
                go_wp2_with fail
                go_meet
                exact ⟨_, (HG.out.skip hn1 hn2).lay hn1 (by simp [Cs.room, Cs.here, Cs.skip]; omega), .inr ⟨rfl, rfl, u0, u1, rfl, ⟨rfl, rfl⟩, g3, g5, hn1, H7.out.drewN nq⟩⟩
              · have hn3 : k < n := by omega
                have d9 : decide (n ≤ k) = false := by simpa using hn2
                with_reducible refine (h6.look (lookL (lookL fun S h => coil_copy_no n (.inr hn3) h))).mono ?_
                rintro e w7 ⟨rfl, rfl⟩
                have H7 := Lib.hid h6
                clear h6 y0 y1
                go_wp2_with fail
                go_quiet (fail)
                go_wp2_with fail
                go_meet
                exact ⟨_, HG.out, .inl ⟨rfl, ⟨false, rfl⟩, H7.out.drewN nq⟩⟩
            · have hn3 : n < 1 := by omega
              have d9 : decide (1 ≤ n) = false := by simpa using hn1
              with_reducible refine (h6.look (lookL (lookL fun S h => coil_copy_no n (.inl hn3) h))).mono ?_
              rintro e w7 ⟨rfl, rfl⟩
              have H7 := Lib.hid h6
              clear h6 y0 y1
              go_wp2_with fail
              go_quiet (fail)
              go_wp2_with fail
              go_meet
              exact ⟨_, HG.out, .inl ⟨rfl, ⟨false, rfl⟩, H7.out.drewN nq⟩⟩
          have d2 : (kd == 2) = false := by simpa using k2
          by_cases k1 : kd = 1
          · as_aux_lemma =>
            subst k1
            clear k0 d0 k2 d2 v0 v1
            go_wp2_with fail
            have hw0 : IntKind.i64.wrap 0 = 0 := by decide
            have hw1 : IntKind.i64.wrap 1 = 1 := by decide
            have q01 : ((0 : Int) == 1) = false := by decide
            have q10 : ((1 : Int) == 0) = false := by decide
            by_cases ht : u1 = 0
            · have C1 : Hid (Calls Try.prog 12 #[.pointer (some ⟨b, 0, none⟩)] w6.drew fun e w' => e = .returned (.bool true) ∧ St W (Sep (Sep (Coil b s (Cs.turn ⟨false, u0, u1, k⟩)) (Var be #[.int .i64 u0, .int .i64 u1] 37)) (Var bo #[.int .i64 1, .int .i64 n] 32)) w' ∧ w'.cell? ⟨be, 0, none⟩ = some (.int .i64 u0) ∧ w'.cell? ⟨be, 1, none⟩ = some (.int .i64 u1)) :=
                ((h6.drewN 1).call (sepL (sepL fun S h => coil_turn HG.out ht h))).mono fun e w' ⟨he, h⟩ => ⟨he, h, (two_cells h.left).1, (two_cells h.left).2.1⟩
              clear h6
              have hz : (u1 == 0) = true := by simp [ht]
              go_region_held3 (fun w' => w'.cell? ⟨be, 0, none⟩ = some (.int .i64 u0) ∧ w'.cell? ⟨be, 1, none⟩ = some (.int .i64 u1)) (first | exact ⟨y0, y1⟩ | exact x7)
                (first | (go_at_call 12; refine C1.out.mono ?_; rintro e w7 ⟨rfl, h7, x7⟩) | (go_at_call 20; refine (h7.look (lookL (lookL fun S h => coil_current h))).mono ?_; rintro e w8 ⟨rfl, rfl⟩; simp only [Cs.turn, Cs.here, cN, Bool.not_false, Bool.not_true, Bool.false_eq_true, if_true, if_false]) | (go_at_call 24; refine (h7.look (lookL (lookL fun S h => coil_left h))).mono ?_; rintro e w8 ⟨rfl, rfl⟩; simp only [Cs.turn, Cs.here, cN, Bool.not_false, Bool.not_true, Bool.false_eq_true, if_true, if_false]))
              all_goals
                clear C1 x7
                go_wp2_with fail
                go_meet
                exact ⟨_, HG.out.turn ht, .inl ⟨rfl, ⟨false, rfl⟩, h7⟩⟩
            · have htp : 0 < u1 := by omega
              have A1 : Hid (∀ i, Calls Try.prog 12 #[.pointer (some ⟨b, 0, none⟩)] (w6.drewN i) fun e w'' => e = .returned (.bool false) ∧ ∃ m, w'' = w6.drewN m) := fun i => turn_quiet HG.out htp h6.left i
              have A2 : Hid (∀ i, Calls Try.prog 20 #[.pointer (some ⟨b, 0, none⟩)] (w6.drewN i) fun e w'' => e = .returned (.int .i64 0) ∧ ∃ m, w'' = w6.drewN m) := fun i => look_quiet ((h6.drewN i).look (lookL (lookL fun S h => coil_current h)))
              have hz : (u1 == 0) = false := by simpa using ht
              have H6 := Lib.hid h6
              clear h6
              go_quiet (first | (go_at_call 12; exact A1.out _) | (go_at_call 20; exact A2.out _))
              go_wp2_with fail
              go_meet
              exact ⟨_, HG.out, .inl ⟨rfl, ⟨false, rfl⟩, H6.out.drewN nq⟩⟩
          have d1 : (kd == 1) = false := by simpa using k1
          by_cases k3 : kd = 3
          · as_aux_lemma =>
            subst k3
            clear k0 d0 k2 d2 k1 d1 y0 y1
            go_wp2_with fail
            clear v0
            by_cases hn1 : 1 ≤ n ∧ n ≤ k
            · with_reducible refine (h6.call (sepL (sepL fun S h => coil_skip n HG.out hn1.1 hn1.2 h))).mono ?_
              rintro e w7 ⟨rfl, h7⟩
              clear h6 v1
              go_wp2_with fail
              go_meet
              exact ⟨_, HG.out.skip hn1.1 hn1.2, .inl ⟨rfl, ⟨false, rfl⟩, h7⟩⟩
            · with_reducible refine (h6.look (lookL (lookL fun S h => coil_skip_no n (by simp only; omega) h))).mono ?_
              rintro e w7 ⟨rfl, rfl⟩
              clear v1 hn1
              go_wp2_with fail
              go_meet
              exact ⟨_, HG.out, .inl ⟨rfl, ⟨false, rfl⟩, h6⟩⟩
          have d3 : (kd == 3) = false := by simpa using k3
          by_cases k4 : kd = 4
          · as_aux_lemma =>
            subst k4
            clear k0 d0 k2 d2 k1 d1 k3 d3 y0 y1
            go_wp2_with fail
            clear v0 v1
            by_cases hk : k = 0
            · subst hk
              with_reducible refine (h6.call (sepL (sepL fun S h => coil_done rfl h))).mono ?_
              rintro e w7 ⟨rfl, h7⟩
              obtain ⟨y0, y1, f0, f1⟩ := two_cells h7.left
              have h8 := h7.goes (w' := w7.setCell ⟨be, 1, none⟩ (.int .i64 0)) (goesL (goesR fun S h => var_set h 1 (.int .i64 0)))
              have H8 := Lib.hid h8
              clear h6 h7 h8
              go_wp2_with fail
              go_meet
              exact ⟨_, HG.out.done, .inl ⟨rfl, ⟨false, rfl⟩, H8.out⟩⟩
            · have hk2 : 0 < k := by omega
              have hk3 : (k == 0) = false := by simpa using hk
              with_reducible refine (h6.look (lookL (lookL fun S h => coil_done_no hk2 h))).mono ?_
              rintro e w7 ⟨rfl, rfl⟩
              go_wp2_with fail
              go_meet
              exact ⟨_, HG.out, .inl ⟨rfl, ⟨false, rfl⟩, h6⟩⟩
          have d4 : (kd == 4) = false := by simpa using k4
          clear k0 k1 k2 k3 k4
          go_wp2_with fail
          go_meet
          exact ⟨_, HG.out, .inl ⟨rfl, ⟨false, rfl⟩, h6⟩⟩
        case rest =>
          clear h6 v0 v1 HG g3 g4 g5 g6 g7 g8
          obtain ⟨⟨cur, u0', u1', k'⟩, hg, ⟨rfl, ⟨j, rfl⟩, h9⟩ | ⟨rfl, rfl, e0, e1, rfl, hl, he0, he1, hn1, h9⟩⟩ := hcut
          · have HG := Lib.hid hg
            simp only [Good, Cs.here] at hg
            obtain ⟨-, -, g3, g4, g5, g6, g7, g8⟩ := hg
            go_wp2_with fail
            with_reducible refine (h9.look (lookL (lookL fun S h => coil_current h))).mono ?_
            rintro e w7 ⟨rfl, rfl⟩
            cases cur
            · as_aux_lemma =>
              simp only [cN, Bool.false_eq_true, if_true, if_false] at g8 h9 ⊢
              obtain ⟨y0, y1, -, -⟩ := two_cells h9.left
              have A0 : Hid (∀ i, Calls Try.prog 21 #[.pointer (some ⟨b, 0, none⟩), .int .i64 0] (wc.drewN i) fun e w'' => e = .returned (.int .i64 u0') ∧ ∃ m, w'' = wc.drewN m) := fun i => look_quiet ((h9.drewN i).look (lookL (lookL fun S h => coil_used0 h)))
              have A1 : Hid (∀ i, Calls Try.prog 21 #[.pointer (some ⟨b, 0, none⟩), .int .i64 1] (wc.drewN i) fun e w'' => e = .returned (.int .i64 u1') ∧ ∃ m, w'' = wc.drewN m) := fun i => look_quiet ((h9.drewN i).look (lookL (lookL fun S h => coil_used1 h)))
              have A2 : Hid (∀ i, Calls Try.prog 24 #[.pointer (some ⟨b, 0, none⟩)] (wc.drewN i) fun e w'' => e = .returned (.int .i64 k') ∧ ∃ m, w'' = wc.drewN m) := fun i => look_quiet ((h9.drewN i).look (lookL (lookL fun S h => coil_left h)))
              have A3 : Hid (∀ i, Calls Try.prog 22 #[.pointer (some ⟨b, 0, none⟩)] (wc.drewN i) fun e w'' => e = .returned (.int .i64 (s - u0' - k')) ∧ ∃ m, w'' = wc.drewN m) := fun i => room_quiet HG.out h9.left i
              have H9 := Lib.hid h9.left
              have z1 : decide (k' < 0) = false := by simp; omega
              have z2 : decide (s < u0' + k') = false := by simp; omega
              clear h9
              go_wp2_with fail
              go_quiet (first | (go_at_call 21; with_reducible exact A0.out _) | (go_at_call 21; with_reducible exact A1.out _) | (go_at_call 24; with_reducible exact A2.out _) | (go_at_call 22; with_reducible exact A3.out _))
              have h10 := H9.out.drewN nq
              clear H9 A0 A1 A2 A3 y0 y1
              go_wp2_with fail
              go_round
              case rel => exact ⟨q + 1, ⟨false, u0', u1', k'⟩, by omega, by go_num, HG.out, h10⟩
              case measure => simp [intOf]; omega
            · as_aux_lemma =>
              simp only [cN, Bool.false_eq_true, if_true, if_false] at g8 h9 ⊢
              obtain ⟨y0, y1, -, -⟩ := two_cells h9.left
              have A0 : Hid (∀ i, Calls Try.prog 21 #[.pointer (some ⟨b, 0, none⟩), .int .i64 0] (wc.drewN i) fun e w'' => e = .returned (.int .i64 u0') ∧ ∃ m, w'' = wc.drewN m) := fun i => look_quiet ((h9.drewN i).look (lookL (lookL fun S h => coil_used0 h)))
              have A1 : Hid (∀ i, Calls Try.prog 21 #[.pointer (some ⟨b, 0, none⟩), .int .i64 1] (wc.drewN i) fun e w'' => e = .returned (.int .i64 u1') ∧ ∃ m, w'' = wc.drewN m) := fun i => look_quiet ((h9.drewN i).look (lookL (lookL fun S h => coil_used1 h)))
              have A2 : Hid (∀ i, Calls Try.prog 24 #[.pointer (some ⟨b, 0, none⟩)] (wc.drewN i) fun e w'' => e = .returned (.int .i64 k') ∧ ∃ m, w'' = wc.drewN m) := fun i => look_quiet ((h9.drewN i).look (lookL (lookL fun S h => coil_left h)))
              have A3 : Hid (∀ i, Calls Try.prog 22 #[.pointer (some ⟨b, 0, none⟩)] (wc.drewN i) fun e w'' => e = .returned (.int .i64 (s - u1' - k')) ∧ ∃ m, w'' = wc.drewN m) := fun i => room_quiet HG.out h9.left i
              have H9 := Lib.hid h9.left
              have z1 : decide (k' < 0) = false := by simp; omega
              have z2 : decide (s < u1' + k') = false := by simp; omega
              clear h9
              go_wp2_with fail
              go_quiet (first | (go_at_call 21; with_reducible exact A0.out _) | (go_at_call 21; with_reducible exact A1.out _) | (go_at_call 24; with_reducible exact A2.out _) | (go_at_call 22; with_reducible exact A3.out _))
              have h10 := H9.out.drewN nq
              clear H9 A0 A1 A2 A3 y0 y1
              go_wp2_with fail
              go_round
              case rel => exact ⟨q + 1, ⟨true, u0', u1', k'⟩, by omega, by go_num, HG.out, h10⟩
              case measure => simp [intOf]; omega
          · have HG := Lib.hid hg
            simp only [Good, Cs.here] at hg
            obtain ⟨-, -, g3, g4, g5, g6, g7, g8⟩ := hg
            unfold Laid at hl
            cases cur
            · as_aux_lemma =>
              simp only [cN, Bool.false_eq_true, if_true, if_false] at g8 h9 hl ⊢
              obtain ⟨l0, l1⟩ := hl
              subst l0 l1
              obtain ⟨y0, y1, f0, f1⟩ := two_cells h9.left
              obtain ⟨-, v1, -, -⟩ := two_cells h9
              have h8 := (h9.goes (w' := wc.setCell ⟨be, 0, none⟩ (.int .i64 (e0 + n))) (goesL (goesR fun S h => var_set h 0 (.int .i64 (e0 + n))))).drewN 1
              have H8 := Lib.hid h8
              clear h8 h9
              go_upto_region 37 with fail
              go_wp2_with fail
              go_still_tail 7, (by kernel_rfl)
              change wpList _ _ _ _ _ wc.drew
              go_wp2_with fail
              have h9 := H8.out
              change St W _ (wc.setCell ⟨be, 0, none⟩ (.int .i64 (e0 + n))).drew at h9
              clear H8 y0 y1 v1 f0 f1
              generalize (wc.setCell ⟨be, 0, none⟩ (.int .i64 (e0 + n))).drew = w9 at h9 ⊢
              with_reducible refine (h9.look (lookL (lookL fun S h => coil_current h))).mono ?_
              rintro e w7 ⟨rfl, rfl⟩
              simp only [cN, Bool.false_eq_true, if_true, if_false]
              obtain ⟨y0, y1, -, -⟩ := two_cells h9.left
              have A0 : Hid (∀ i, Calls Try.prog 21 #[.pointer (some ⟨b, 0, none⟩), .int .i64 0] (w9.drewN i) fun e w'' => e = .returned (.int .i64 (e0 + n)) ∧ ∃ m, w'' = w9.drewN m) := fun i => look_quiet ((h9.drewN i).look (lookL (lookL fun S h => coil_used0 h)))
              have A1 : Hid (∀ i, Calls Try.prog 21 #[.pointer (some ⟨b, 0, none⟩), .int .i64 1] (w9.drewN i) fun e w'' => e = .returned (.int .i64 e1) ∧ ∃ m, w'' = w9.drewN m) := fun i => look_quiet ((h9.drewN i).look (lookL (lookL fun S h => coil_used1 h)))
              have A2 : Hid (∀ i, Calls Try.prog 24 #[.pointer (some ⟨b, 0, none⟩)] (w9.drewN i) fun e w'' => e = .returned (.int .i64 k') ∧ ∃ m, w'' = w9.drewN m) := fun i => look_quiet ((h9.drewN i).look (lookL (lookL fun S h => coil_left h)))
              have A3 : Hid (∀ i, Calls Try.prog 22 #[.pointer (some ⟨b, 0, none⟩)] (w9.drewN i) fun e w'' => e = .returned (.int .i64 (s - (e0 + n) - k')) ∧ ∃ m, w'' = w9.drewN m) := fun i => room_quiet HG.out h9.left i
              have H9 := Lib.hid h9.left
              have z1 : decide (k' < 0) = false := by simp; omega
              have z2 : decide (s < (e0 + n) + k') = false := by simp; omega
              clear h9
              go_wp2_with fail
              go_quiet (first | (go_at_call 21; with_reducible exact A0.out _) | (go_at_call 21; with_reducible exact A1.out _) | (go_at_call 24; with_reducible exact A2.out _) | (go_at_call 22; with_reducible exact A3.out _))
              have h10 := H9.out.drewN nq
              clear H9 A0 A1 A2 A3 y0 y1
              go_wp2_with fail
              go_round
              case rel => exact ⟨q + 1, ⟨false, (e0 + n), e1, k'⟩, by omega, by go_num, HG.out, h10⟩
              case measure => simp [intOf]; omega
            · as_aux_lemma =>
              simp only [cN, Bool.false_eq_true, if_true, if_false] at g8 h9 hl ⊢
              obtain ⟨l0, l1⟩ := hl
              subst l0 l1
              obtain ⟨y0, y1, f0, f1⟩ := two_cells h9.left
              obtain ⟨-, v1, -, -⟩ := two_cells h9
              have h8 := (h9.goes (w' := wc.setCell ⟨be, 1, none⟩ (.int .i64 (e1 + n))) (goesL (goesR fun S h => var_set h 1 (.int .i64 (e1 + n))))).drewN 1
              have H8 := Lib.hid h8
              clear h8 h9
              go_upto_region 37 with fail
              go_wp2_with fail
              go_still_tail 7, (by kernel_rfl)
              change wpList _ _ _ _ _ wc.drew
              go_wp2_with fail
              have h9 := H8.out
              change St W _ (wc.setCell ⟨be, 1, none⟩ (.int .i64 (e1 + n))).drew at h9
              clear H8 y0 y1 v1 f0 f1
              generalize (wc.setCell ⟨be, 1, none⟩ (.int .i64 (e1 + n))).drew = w9 at h9 ⊢
              with_reducible refine (h9.look (lookL (lookL fun S h => coil_current h))).mono ?_
              rintro e w7 ⟨rfl, rfl⟩
              simp only [cN, Bool.false_eq_true, if_true, if_false]
              obtain ⟨y0, y1, -, -⟩ := two_cells h9.left
              have A0 : Hid (∀ i, Calls Try.prog 21 #[.pointer (some ⟨b, 0, none⟩), .int .i64 0] (w9.drewN i) fun e w'' => e = .returned (.int .i64 e0) ∧ ∃ m, w'' = w9.drewN m) := fun i => look_quiet ((h9.drewN i).look (lookL (lookL fun S h => coil_used0 h)))
              have A1 : Hid (∀ i, Calls Try.prog 21 #[.pointer (some ⟨b, 0, none⟩), .int .i64 1] (w9.drewN i) fun e w'' => e = .returned (.int .i64 (e1 + n)) ∧ ∃ m, w'' = w9.drewN m) := fun i => look_quiet ((h9.drewN i).look (lookL (lookL fun S h => coil_used1 h)))
              have A2 : Hid (∀ i, Calls Try.prog 24 #[.pointer (some ⟨b, 0, none⟩)] (w9.drewN i) fun e w'' => e = .returned (.int .i64 k') ∧ ∃ m, w'' = w9.drewN m) := fun i => look_quiet ((h9.drewN i).look (lookL (lookL fun S h => coil_left h)))
              have A3 : Hid (∀ i, Calls Try.prog 22 #[.pointer (some ⟨b, 0, none⟩)] (w9.drewN i) fun e w'' => e = .returned (.int .i64 (s - (e1 + n) - k')) ∧ ∃ m, w'' = w9.drewN m) := fun i => room_quiet HG.out h9.left i
              have H9 := Lib.hid h9.left
              have z1 : decide (k' < 0) = false := by simp; omega
              have z2 : decide (s < (e1 + n) + k') = false := by simp; omega
              clear h9
              go_wp2_with fail
              go_quiet (first | (go_at_call 21; with_reducible exact A0.out _) | (go_at_call 21; with_reducible exact A1.out _) | (go_at_call 24; with_reducible exact A2.out _) | (go_at_call 22; with_reducible exact A3.out _))
              have h10 := H9.out.drewN nq
              clear H9 A0 A1 A2 A3 y0 y1
              go_wp2_with fail
              go_round
              case rel => exact ⟨q + 1, ⟨true, e0, (e1 + n), k'⟩, by omega, by go_num, HG.out, h10⟩
              case measure => simp [intOf]; omega
      · simp only [Bool.false_eq_true, if_true, if_false] at g8 hs
        go_wp2_with fail
        have h6 := hs.var #[.int .i64 kd, .int .i64 n] 32
        generalize hV : wr.alloc (.cells #[.int .i64 kd, .int .i64 n] 32) = w6 at h6 ⊢
        generalize hBo : wr.heap.size = bo at h6 ⊢
        clear hs hV hBo g0 g1 c0 c1
        with_reducible refine (h6.look (lookL (lookL fun S h => coil_current h))).mono ?_
        rintro e w7 ⟨rfl, rfl⟩
        simp only [cN, Bool.false_eq_true, if_true, if_false]
        go_wp2_with fail
        with_reducible refine (h6.look (lookL (lookL fun S h => coil_left h))).mono ?_
        rintro e w7 ⟨rfl, rfl⟩
        obtain ⟨v0, v1, -, -⟩ := two_cells h6
        go_upto_block 2 with fail
        go_cut [10, 11, 12] (fun kk aa ok w => RoomAt W b be bo s kd n kk aa ok w)
        case first =>
          obtain ⟨y0, y1, f0, f1⟩ := two_cells h6.left
          by_cases k0 : kd = 0
          · as_aux_lemma =>
            subst k0
            go_wp2_with fail
            clear v0
            by_cases hn1 : 1 ≤ n
            · by_cases hn2 : n ≤ s - u1 - k
              · have hr2 : n ≤ Cs.room ⟨true, u0, u1, k⟩ s := hn2
                with_reducible refine (h6.call (sepL (sepL fun S h => coil_take n HG.out hn1 hr2 h))).mono ?_
                rintro e w7 ⟨rfl, h7⟩
                simp only [Cs.here, Bool.false_eq_true, if_true, if_false]
                obtain ⟨-, v1, -, -⟩ := two_cells h7
                obtain ⟨y0, y1, -, -⟩ := two_cells h7.left
                have H7 := Lib.hid h7
                clear h6 h7
                go_wp2_with fail
                go_quiet (fail)
                go_wp2_with fail
                go_meet
                exact ⟨_, HG.out.lay hn1 hn2, .inr ⟨rfl, rfl, u0, u1, rfl, ⟨rfl, rfl⟩, g3, g5, hn1, H7.out.drewN nq⟩⟩
              · have hn3 : s - u1 - k < n := by omega
                have hr2 : Cs.room ⟨true, u0, u1, k⟩ s < n := hn3
                have d9 : decide (n ≤ s - u1 - k) = false := by simpa using hn2
                with_reducible refine (h6.call (sepL (sepL fun S h => coil_take_no n HG.out (.inr hr2) h))).mono ?_
                rintro e w7 ⟨rfl, h7⟩
                obtain ⟨-, v1, -, -⟩ := two_cells h7
                obtain ⟨y0, y1, -, -⟩ := two_cells h7.left
                have H7 := Lib.hid h7
                clear h6 h7
                go_wp2_with fail
                go_quiet (fail)
                go_wp2_with fail
                go_meet
                exact ⟨_, HG.out, .inl ⟨rfl, ⟨true, rfl⟩, H7.out.drewN nq⟩⟩
            · have hn3 : n < 1 := by omega
              have d9 : decide (1 ≤ n) = false := by simpa using hn1
              with_reducible refine (h6.call (sepL (sepL fun S h => coil_take_no n HG.out (.inl hn3) h))).mono ?_
              rintro e w7 ⟨rfl, h7⟩
              obtain ⟨-, v1, -, -⟩ := two_cells h7
              obtain ⟨y0, y1, -, -⟩ := two_cells h7.left
              have H7 := Lib.hid h7
              clear h6 h7
              go_wp2_with fail
              go_quiet (fail)
              go_wp2_with fail
              go_meet
              exact ⟨_, HG.out, .inl ⟨rfl, ⟨true, rfl⟩, H7.out.drewN nq⟩⟩
          have d0 : (kd == 0) = false := by simpa using k0
          by_cases k2 : kd = 2
          · as_aux_lemma =>
            subst k2
            clear k0 d0
            go_wp2_with fail
            clear v0
            by_cases hn1 : 1 ≤ n
            · by_cases hn2 : n ≤ k
              · with_reducible refine (h6.call (sepL (sepL fun S h => coil_copy n HG.out hn1 hn2 h))).mono ?_
                rintro e w7 ⟨rfl, h7⟩
                simp only [Cs.here, Bool.false_eq_true, if_true, if_false]
                obtain ⟨-, v1, -, -⟩ := two_cells h7
                have A1 : Hid (∀ i, Calls Try.prog 24 #[.pointer (some ⟨b, 0, none⟩)] (w7.drewN i) fun e w'' => e = .returned (.int .i64 (k - n)) ∧ ∃ m, w'' = w7.drewN m) := fun i => look_quiet ((h7.drewN i).look (lookL (lookL fun S h => coil_left h)))
                have H7 := Lib.hid h7
                clear h6 h7 y0 y1
                go_wp2_with fail
                go_quiet (first | (go_at_call 24; exact A1.out _))
                go_wp2_with fail
                go_meet
                exact ⟨_, (HG.out.skip hn1 hn2).lay hn1 (by simp [Cs.room, Cs.here, Cs.skip]; omega), .inr ⟨rfl, rfl, u0, u1, rfl, ⟨rfl, rfl⟩, g3, g5, hn1, H7.out.drewN nq⟩⟩
              · have hn3 : k < n := by omega
                have d9 : decide (n ≤ k) = false := by simpa using hn2
                with_reducible refine (h6.look (lookL (lookL fun S h => coil_copy_no n (.inr hn3) h))).mono ?_
                rintro e w7 ⟨rfl, rfl⟩
                have H7 := Lib.hid h6
                clear h6 y0 y1
                go_wp2_with fail
                go_quiet (fail)
                go_wp2_with fail
                go_meet
                exact ⟨_, HG.out, .inl ⟨rfl, ⟨true, rfl⟩, H7.out.drewN nq⟩⟩
            · have hn3 : n < 1 := by omega
              have d9 : decide (1 ≤ n) = false := by simpa using hn1
              with_reducible refine (h6.look (lookL (lookL fun S h => coil_copy_no n (.inl hn3) h))).mono ?_
              rintro e w7 ⟨rfl, rfl⟩
              have H7 := Lib.hid h6
              clear h6 y0 y1
              go_wp2_with fail
              go_quiet (fail)
              go_wp2_with fail
              go_meet
              exact ⟨_, HG.out, .inl ⟨rfl, ⟨true, rfl⟩, H7.out.drewN nq⟩⟩
          have d2 : (kd == 2) = false := by simpa using k2
          by_cases k1 : kd = 1
          · as_aux_lemma =>
            subst k1
            clear k0 d0 k2 d2 v0 v1
            go_wp2_with fail
            have hw0 : IntKind.i64.wrap 0 = 0 := by decide
            have hw1 : IntKind.i64.wrap 1 = 1 := by decide
            have q01 : ((0 : Int) == 1) = false := by decide
            have q10 : ((1 : Int) == 0) = false := by decide
            by_cases ht : u0 = 0
            · have C1 : Hid (Calls Try.prog 12 #[.pointer (some ⟨b, 0, none⟩)] w6.drew fun e w' => e = .returned (.bool true) ∧ St W (Sep (Sep (Coil b s (Cs.turn ⟨true, u0, u1, k⟩)) (Var be #[.int .i64 u0, .int .i64 u1] 37)) (Var bo #[.int .i64 1, .int .i64 n] 32)) w' ∧ w'.cell? ⟨be, 0, none⟩ = some (.int .i64 u0) ∧ w'.cell? ⟨be, 1, none⟩ = some (.int .i64 u1)) :=
                ((h6.drewN 1).call (sepL (sepL fun S h => coil_turn HG.out ht h))).mono fun e w' ⟨he, h⟩ => ⟨he, h, (two_cells h.left).1, (two_cells h.left).2.1⟩
              clear h6
              have hz : (u0 == 0) = true := by simp [ht]
              go_region_held3 (fun w' => w'.cell? ⟨be, 0, none⟩ = some (.int .i64 u0) ∧ w'.cell? ⟨be, 1, none⟩ = some (.int .i64 u1)) (first | exact ⟨y0, y1⟩ | exact x7)
                (first | (go_at_call 12; refine C1.out.mono ?_; rintro e w7 ⟨rfl, h7, x7⟩) | (go_at_call 20; refine (h7.look (lookL (lookL fun S h => coil_current h))).mono ?_; rintro e w8 ⟨rfl, rfl⟩; simp only [Cs.turn, Cs.here, cN, Bool.not_false, Bool.not_true, Bool.false_eq_true, if_true, if_false]) | (go_at_call 24; refine (h7.look (lookL (lookL fun S h => coil_left h))).mono ?_; rintro e w8 ⟨rfl, rfl⟩; simp only [Cs.turn, Cs.here, cN, Bool.not_false, Bool.not_true, Bool.false_eq_true, if_true, if_false]))
              all_goals
                clear C1 x7
                go_wp2_with fail
                go_meet
                exact ⟨_, HG.out.turn ht, .inl ⟨rfl, ⟨true, rfl⟩, h7⟩⟩
            · have htp : 0 < u0 := by omega
              have A1 : Hid (∀ i, Calls Try.prog 12 #[.pointer (some ⟨b, 0, none⟩)] (w6.drewN i) fun e w'' => e = .returned (.bool false) ∧ ∃ m, w'' = w6.drewN m) := fun i => turn_quiet HG.out htp h6.left i
              have A2 : Hid (∀ i, Calls Try.prog 20 #[.pointer (some ⟨b, 0, none⟩)] (w6.drewN i) fun e w'' => e = .returned (.int .i64 1) ∧ ∃ m, w'' = w6.drewN m) := fun i => look_quiet ((h6.drewN i).look (lookL (lookL fun S h => coil_current h)))
              have hz : (u0 == 0) = false := by simpa using ht
              have H6 := Lib.hid h6
              clear h6
              go_quiet (first | (go_at_call 12; exact A1.out _) | (go_at_call 20; exact A2.out _))
              go_wp2_with fail
              go_meet
              exact ⟨_, HG.out, .inl ⟨rfl, ⟨true, rfl⟩, H6.out.drewN nq⟩⟩
          have d1 : (kd == 1) = false := by simpa using k1
          by_cases k3 : kd = 3
          · as_aux_lemma =>
            subst k3
            clear k0 d0 k2 d2 k1 d1 y0 y1
            go_wp2_with fail
            clear v0
            by_cases hn1 : 1 ≤ n ∧ n ≤ k
            · with_reducible refine (h6.call (sepL (sepL fun S h => coil_skip n HG.out hn1.1 hn1.2 h))).mono ?_
              rintro e w7 ⟨rfl, h7⟩
              clear h6 v1
              go_wp2_with fail
              go_meet
              exact ⟨_, HG.out.skip hn1.1 hn1.2, .inl ⟨rfl, ⟨true, rfl⟩, h7⟩⟩
            · with_reducible refine (h6.look (lookL (lookL fun S h => coil_skip_no n (by simp only; omega) h))).mono ?_
              rintro e w7 ⟨rfl, rfl⟩
              clear v1 hn1
              go_wp2_with fail
              go_meet
              exact ⟨_, HG.out, .inl ⟨rfl, ⟨true, rfl⟩, h6⟩⟩
          have d3 : (kd == 3) = false := by simpa using k3
          by_cases k4 : kd = 4
          · as_aux_lemma =>
            subst k4
            clear k0 d0 k2 d2 k1 d1 k3 d3 y0 y1
            go_wp2_with fail
            clear v0 v1
            by_cases hk : k = 0
            · subst hk
              with_reducible refine (h6.call (sepL (sepL fun S h => coil_done rfl h))).mono ?_
              rintro e w7 ⟨rfl, h7⟩
              obtain ⟨y0, y1, f0, f1⟩ := two_cells h7.left
              have h8 := h7.goes (w' := w7.setCell ⟨be, 0, none⟩ (.int .i64 0)) (goesL (goesR fun S h => var_set h 0 (.int .i64 0)))
              have H8 := Lib.hid h8
              clear h6 h7 h8
              go_wp2_with fail
              go_meet
              exact ⟨_, HG.out.done, .inl ⟨rfl, ⟨true, rfl⟩, H8.out⟩⟩
            · have hk2 : 0 < k := by omega
              have hk3 : (k == 0) = false := by simpa using hk
              with_reducible refine (h6.look (lookL (lookL fun S h => coil_done_no hk2 h))).mono ?_
              rintro e w7 ⟨rfl, rfl⟩
              go_wp2_with fail
              go_meet
              exact ⟨_, HG.out, .inl ⟨rfl, ⟨true, rfl⟩, h6⟩⟩
          have d4 : (kd == 4) = false := by simpa using k4
          clear k0 k1 k2 k3 k4
          go_wp2_with fail
          go_meet
          exact ⟨_, HG.out, .inl ⟨rfl, ⟨true, rfl⟩, h6⟩⟩
        case rest =>
          clear h6 v0 v1 HG g3 g4 g5 g6 g7 g8
          obtain ⟨⟨cur, u0', u1', k'⟩, hg, ⟨rfl, ⟨j, rfl⟩, h9⟩ | ⟨rfl, rfl, e0, e1, rfl, hl, he0, he1, hn1, h9⟩⟩ := hcut
          · have HG := Lib.hid hg
            simp only [Good, Cs.here] at hg
            obtain ⟨-, -, g3, g4, g5, g6, g7, g8⟩ := hg
            go_wp2_with fail
            with_reducible refine (h9.look (lookL (lookL fun S h => coil_current h))).mono ?_
            rintro e w7 ⟨rfl, rfl⟩
            cases cur
            · as_aux_lemma =>
              simp only [cN, Bool.false_eq_true, if_true, if_false] at g8 h9 ⊢
              obtain ⟨y0, y1, -, -⟩ := two_cells h9.left
              have A0 : Hid (∀ i, Calls Try.prog 21 #[.pointer (some ⟨b, 0, none⟩), .int .i64 0] (wc.drewN i) fun e w'' => e = .returned (.int .i64 u0') ∧ ∃ m, w'' = wc.drewN m) := fun i => look_quiet ((h9.drewN i).look (lookL (lookL fun S h => coil_used0 h)))
              have A1 : Hid (∀ i, Calls Try.prog 21 #[.pointer (some ⟨b, 0, none⟩), .int .i64 1] (wc.drewN i) fun e w'' => e = .returned (.int .i64 u1') ∧ ∃ m, w'' = wc.drewN m) := fun i => look_quiet ((h9.drewN i).look (lookL (lookL fun S h => coil_used1 h)))
              have A2 : Hid (∀ i, Calls Try.prog 24 #[.pointer (some ⟨b, 0, none⟩)] (wc.drewN i) fun e w'' => e = .returned (.int .i64 k') ∧ ∃ m, w'' = wc.drewN m) := fun i => look_quiet ((h9.drewN i).look (lookL (lookL fun S h => coil_left h)))
              have A3 : Hid (∀ i, Calls Try.prog 22 #[.pointer (some ⟨b, 0, none⟩)] (wc.drewN i) fun e w'' => e = .returned (.int .i64 (s - u0' - k')) ∧ ∃ m, w'' = wc.drewN m) := fun i => room_quiet HG.out h9.left i
              have H9 := Lib.hid h9.left
              have z1 : decide (k' < 0) = false := by simp; omega
              have z2 : decide (s < u0' + k') = false := by simp; omega
              clear h9
              go_wp2_with fail
              go_quiet (first | (go_at_call 21; with_reducible exact A0.out _) | (go_at_call 21; with_reducible exact A1.out _) | (go_at_call 24; with_reducible exact A2.out _) | (go_at_call 22; with_reducible exact A3.out _))
              have h10 := H9.out.drewN nq
              clear H9 A0 A1 A2 A3 y0 y1
              go_wp2_with fail
              go_round
              case rel => exact ⟨q + 1, ⟨false, u0', u1', k'⟩, by omega, by go_num, HG.out, h10⟩
              case measure => simp [intOf]; omega
            · as_aux_lemma =>
              simp only [cN, Bool.false_eq_true, if_true, if_false] at g8 h9 ⊢
              obtain ⟨y0, y1, -, -⟩ := two_cells h9.left
              have A0 : Hid (∀ i, Calls Try.prog 21 #[.pointer (some ⟨b, 0, none⟩), .int .i64 0] (wc.drewN i) fun e w'' => e = .returned (.int .i64 u0') ∧ ∃ m, w'' = wc.drewN m) := fun i => look_quiet ((h9.drewN i).look (lookL (lookL fun S h => coil_used0 h)))
              have A1 : Hid (∀ i, Calls Try.prog 21 #[.pointer (some ⟨b, 0, none⟩), .int .i64 1] (wc.drewN i) fun e w'' => e = .returned (.int .i64 u1') ∧ ∃ m, w'' = wc.drewN m) := fun i => look_quiet ((h9.drewN i).look (lookL (lookL fun S h => coil_used1 h)))
              have A2 : Hid (∀ i, Calls Try.prog 24 #[.pointer (some ⟨b, 0, none⟩)] (wc.drewN i) fun e w'' => e = .returned (.int .i64 k') ∧ ∃ m, w'' = wc.drewN m) := fun i => look_quiet ((h9.drewN i).look (lookL (lookL fun S h => coil_left h)))
              have A3 : Hid (∀ i, Calls Try.prog 22 #[.pointer (some ⟨b, 0, none⟩)] (wc.drewN i) fun e w'' => e = .returned (.int .i64 (s - u1' - k')) ∧ ∃ m, w'' = wc.drewN m) := fun i => room_quiet HG.out h9.left i
              have H9 := Lib.hid h9.left
              have z1 : decide (k' < 0) = false := by simp; omega
              have z2 : decide (s < u1' + k') = false := by simp; omega
              clear h9
              go_wp2_with fail
              go_quiet (first | (go_at_call 21; with_reducible exact A0.out _) | (go_at_call 21; with_reducible exact A1.out _) | (go_at_call 24; with_reducible exact A2.out _) | (go_at_call 22; with_reducible exact A3.out _))
              have h10 := H9.out.drewN nq
              clear H9 A0 A1 A2 A3 y0 y1
              go_wp2_with fail
              go_round
              case rel => exact ⟨q + 1, ⟨true, u0', u1', k'⟩, by omega, by go_num, HG.out, h10⟩
              case measure => simp [intOf]; omega
          · have HG := Lib.hid hg
            simp only [Good, Cs.here] at hg
            obtain ⟨-, -, g3, g4, g5, g6, g7, g8⟩ := hg
            unfold Laid at hl
            cases cur
            · as_aux_lemma =>
              simp only [cN, Bool.false_eq_true, if_true, if_false] at g8 h9 hl ⊢
              obtain ⟨l0, l1⟩ := hl
              subst l0 l1
              obtain ⟨y0, y1, f0, f1⟩ := two_cells h9.left
              obtain ⟨-, v1, -, -⟩ := two_cells h9
              have h8 := (h9.goes (w' := wc.setCell ⟨be, 0, none⟩ (.int .i64 (e0 + n))) (goesL (goesR fun S h => var_set h 0 (.int .i64 (e0 + n))))).drewN 1
              have H8 := Lib.hid h8
              clear h8 h9
              go_upto_region 37 with fail
              go_wp2_with fail
              go_still_tail 7, (by kernel_rfl)
              change wpList _ _ _ _ _ wc.drew
              go_wp2_with fail
              have h9 := H8.out
              change St W _ (wc.setCell ⟨be, 0, none⟩ (.int .i64 (e0 + n))).drew at h9
              clear H8 y0 y1 v1 f0 f1
              generalize (wc.setCell ⟨be, 0, none⟩ (.int .i64 (e0 + n))).drew = w9 at h9 ⊢
              with_reducible refine (h9.look (lookL (lookL fun S h => coil_current h))).mono ?_
              rintro e w7 ⟨rfl, rfl⟩
              simp only [cN, Bool.false_eq_true, if_true, if_false]
              obtain ⟨y0, y1, -, -⟩ := two_cells h9.left
              have A0 : Hid (∀ i, Calls Try.prog 21 #[.pointer (some ⟨b, 0, none⟩), .int .i64 0] (w9.drewN i) fun e w'' => e = .returned (.int .i64 (e0 + n)) ∧ ∃ m, w'' = w9.drewN m) := fun i => look_quiet ((h9.drewN i).look (lookL (lookL fun S h => coil_used0 h)))
              have A1 : Hid (∀ i, Calls Try.prog 21 #[.pointer (some ⟨b, 0, none⟩), .int .i64 1] (w9.drewN i) fun e w'' => e = .returned (.int .i64 e1) ∧ ∃ m, w'' = w9.drewN m) := fun i => look_quiet ((h9.drewN i).look (lookL (lookL fun S h => coil_used1 h)))
              have A2 : Hid (∀ i, Calls Try.prog 24 #[.pointer (some ⟨b, 0, none⟩)] (w9.drewN i) fun e w'' => e = .returned (.int .i64 k') ∧ ∃ m, w'' = w9.drewN m) := fun i => look_quiet ((h9.drewN i).look (lookL (lookL fun S h => coil_left h)))
              have A3 : Hid (∀ i, Calls Try.prog 22 #[.pointer (some ⟨b, 0, none⟩)] (w9.drewN i) fun e w'' => e = .returned (.int .i64 (s - (e0 + n) - k')) ∧ ∃ m, w'' = w9.drewN m) := fun i => room_quiet HG.out h9.left i
              have H9 := Lib.hid h9.left
              have z1 : decide (k' < 0) = false := by simp; omega
              have z2 : decide (s < (e0 + n) + k') = false := by simp; omega
              clear h9
              go_wp2_with fail
              go_quiet (first | (go_at_call 21; with_reducible exact A0.out _) | (go_at_call 21; with_reducible exact A1.out _) | (go_at_call 24; with_reducible exact A2.out _) | (go_at_call 22; with_reducible exact A3.out _))
              have h10 := H9.out.drewN nq
              clear H9 A0 A1 A2 A3 y0 y1
              go_wp2_with fail
              go_round
              case rel => exact ⟨q + 1, ⟨false, (e0 + n), e1, k'⟩, by omega, by go_num, HG.out, h10⟩
              case measure => simp [intOf]; omega
            · as_aux_lemma =>
              simp only [cN, Bool.false_eq_true, if_true, if_false] at g8 h9 hl ⊢
              obtain ⟨l0, l1⟩ := hl
              subst l0 l1
              obtain ⟨y0, y1, f0, f1⟩ := two_cells h9.left
              obtain ⟨-, v1, -, -⟩ := two_cells h9
              have h8 := (h9.goes (w' := wc.setCell ⟨be, 1, none⟩ (.int .i64 (e1 + n))) (goesL (goesR fun S h => var_set h 1 (.int .i64 (e1 + n))))).drewN 1
              have H8 := Lib.hid h8
              clear h8 h9
              go_upto_region 37 with fail
              go_wp2_with fail
              go_still_tail 7, (by kernel_rfl)
              change wpList _ _ _ _ _ wc.drew
              go_wp2_with fail
              have h9 := H8.out
              change St W _ (wc.setCell ⟨be, 1, none⟩ (.int .i64 (e1 + n))).drew at h9
              clear H8 y0 y1 v1 f0 f1
              generalize (wc.setCell ⟨be, 1, none⟩ (.int .i64 (e1 + n))).drew = w9 at h9 ⊢
              with_reducible refine (h9.look (lookL (lookL fun S h => coil_current h))).mono ?_
              rintro e w7 ⟨rfl, rfl⟩
              simp only [cN, Bool.false_eq_true, if_true, if_false]
              obtain ⟨y0, y1, -, -⟩ := two_cells h9.left
              have A0 : Hid (∀ i, Calls Try.prog 21 #[.pointer (some ⟨b, 0, none⟩), .int .i64 0] (w9.drewN i) fun e w'' => e = .returned (.int .i64 e0) ∧ ∃ m, w'' = w9.drewN m) := fun i => look_quiet ((h9.drewN i).look (lookL (lookL fun S h => coil_used0 h)))
              have A1 : Hid (∀ i, Calls Try.prog 21 #[.pointer (some ⟨b, 0, none⟩), .int .i64 1] (w9.drewN i) fun e w'' => e = .returned (.int .i64 (e1 + n)) ∧ ∃ m, w'' = w9.drewN m) := fun i => look_quiet ((h9.drewN i).look (lookL (lookL fun S h => coil_used1 h)))
              have A2 : Hid (∀ i, Calls Try.prog 24 #[.pointer (some ⟨b, 0, none⟩)] (w9.drewN i) fun e w'' => e = .returned (.int .i64 k') ∧ ∃ m, w'' = w9.drewN m) := fun i => look_quiet ((h9.drewN i).look (lookL (lookL fun S h => coil_left h)))
              have A3 : Hid (∀ i, Calls Try.prog 22 #[.pointer (some ⟨b, 0, none⟩)] (w9.drewN i) fun e w'' => e = .returned (.int .i64 (s - (e1 + n) - k')) ∧ ∃ m, w'' = w9.drewN m) := fun i => room_quiet HG.out h9.left i
              have H9 := Lib.hid h9.left
              have z1 : decide (k' < 0) = false := by simp; omega
              have z2 : decide (s < (e1 + n) + k') = false := by simp; omega
              clear h9
              go_wp2_with fail
              go_quiet (first | (go_at_call 21; with_reducible exact A0.out _) | (go_at_call 21; with_reducible exact A1.out _) | (go_at_call 24; with_reducible exact A2.out _) | (go_at_call 22; with_reducible exact A3.out _))
              have h10 := H9.out.drewN nq
              clear H9 A0 A1 A2 A3 y0 y1
              go_wp2_with fail
              go_round
              case rel => exact ⟨q + 1, ⟨true, e0, (e1 + n), k'⟩, by omega, by go_num, HG.out, h10⟩
              case measure => simp [intOf]; omega
    · obtain rfl : q = len1 := by omega
      go_wp2_with fail
      with_reducible refine (coil_first _).mono ?_
      rintro e w7 ⟨rfl, hb7⟩
      go_wp2_with fail
      go_ret
      exact ⟨rfl, (hs.later hb7).below⟩
theorem coilRoom_all (s : Int) (a1 : Option Addr) (len1 cap1 : Nat) (W : World) (w1 : IsStructs [false, false] W a1 len1) :
    Calls Try.prog 4 #[.int .i64 s, .slice a1 len1 cap1] W fun e w' => e = .returned (.bool true) ∧ Below W.heap.size W w' := by
  by_cases hm : s < 0 ∨ 2048 < s
  · exact coilRoom_no s a1 len1 cap1 W hm
  by_cases hlen : (500 : Int) < len1
  · exact coilRoom_long s a1 len1 cap1 W (by omega) (by omega) hlen
  exact coilRoom_walk s a1 len1 cap1 W w1 (by omega) (by omega) (by omega)
end Go.Proofs.Ytedkdbholfnjkaa
