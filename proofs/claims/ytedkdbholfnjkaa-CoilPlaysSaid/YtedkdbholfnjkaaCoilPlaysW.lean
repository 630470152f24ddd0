/- The walk of CoilPlays. -/
import Derived.Test.YtedkdbholfnjkaaRCoil
import Derived.Test.YtedkdbholfnjkaaArgs
import Derived.Deep.CutBlock
namespace Go.Proofs.Ytedkdbholfnjkaa
open Go.RowKit
set_option linter.unusedVariables false

/-- What an operation answers, and what it leaves. -/
def tkB (s : Int) (c : Cs) (n : Int) : Bool := decide (1 ≤ n ∧ n ≤ c.room s)
def tkV (s : Int) (c : Cs) (n : Int) : Int := if 1 ≤ n ∧ n ≤ c.room s then c.here else 0
def tkC (s : Int) (c : Cs) (n : Int) : Cs := if 1 ≤ n ∧ n ≤ c.room s then c.lay n else c
def cpB (c : Cs) (n : Int) : Bool := decide (1 ≤ n ∧ n ≤ c.k)
def cpV (c : Cs) (n : Int) : Int := if 1 ≤ n ∧ n ≤ c.k then c.here else 0
def cpC (c : Cs) (n : Int) : Cs := if 1 ≤ n ∧ n ≤ c.k then (c.skip n).lay n else c
def skC (c : Cs) (n : Int) : Cs := if 1 ≤ n ∧ n ≤ c.k then c.skip n else c
def tnB (c : Cs) : Bool := decide (c.there = 0)
def tnC (c : Cs) : Cs := if c.there = 0 then c.turn else c
def dnB (c : Cs) : Bool := decide (c.k = 0)
def dnC (c : Cs) : Cs := if c.k = 0 then c.done else c
section
variable {b : Nat} {s : Int} {c : Cs} {S : Nat → Prop} {w : World}
theorem good_tk {n : Int} (hg : Good s c) : Good s (tkC s c n) := by
  unfold tkC; split
  · rename_i h; exact hg.lay h.1 h.2
  · exact hg
theorem good_cp {n : Int} (hg : Good s c) : Good s (cpC c n) := by
  unfold cpC; split
  · rename_i h
    refine (hg.skip h.1 h.2).lay h.1 ?_
    obtain ⟨cur, u0, u1, k⟩ := c; simp only [Good, Cs.here, Cs.skip, Cs.room] at hg h ⊢; cases cur <;> simp at hg h ⊢ <;> omega
  · exact hg
theorem good_sk {n : Int} (hg : Good s c) : Good s (skC c n) := by
  unfold skC; split
  · rename_i h; exact hg.skip h.1 h.2
  · exact hg
theorem good_tn (hg : Good s c) : Good s (tnC c) := by
  unfold tnC; split
  · rename_i h; exact hg.turn h
  · exact hg
theorem good_dn (hg : Good s c) : Good s (dnC c) := by
  unfold dnC; split
  · exact hg.done
  · exact hg
theorem there_pos (hg : Good s c) (h : ¬ c.there = 0) : 0 < c.there := by
  obtain ⟨cur, u0, u1, k⟩ := c; simp only [Good, Cs.there] at hg h ⊢; cases cur <;> simp at hg h ⊢ <;> omega
theorem k_pos (hg : Good s c) (h : ¬ c.k = 0) : 0 < c.k := by
  obtain ⟨cur, u0, u1, k⟩ := c; simp only [Good] at hg h ⊢; omega

theorem coil_takeB (n : Int) (hg : Good s c) (h : (Coil b s c).at_ S w) : Calls Try.prog 10 #[.pointer (some ⟨b, 0, none⟩), .int .i64 n] w fun e w' => e = .returned (.tuple #[.int .i64 (tkV s c n), .bool (tkB s c n)]) ∧ Goes (Coil b s (tkC s c n)) S w w' := by
  unfold tkV tkB tkC
  by_cases hx : 1 ≤ n ∧ n ≤ c.room s
  · rw [decide_eq_true hx, if_pos hx, if_pos hx]; exact coil_take n hg hx.1 hx.2 h
  · rw [decide_eq_false hx, if_neg hx, if_neg hx]; exact coil_take_no n hg (by omega) h
theorem rcoil_takeB (n : Int) (hg : Good s c) (h : (RCoil b s c).at_ S w) : Calls Try.prog 11 #[.pointer (some ⟨b, 0, none⟩), .int .i64 n] w fun e w' => e = .returned (.tuple #[.int .i64 (tkV s c n), .bool (tkB s c n)]) ∧ Goes (RCoil b s (tkC s c n)) S w w' := by
  unfold tkV tkB tkC
  by_cases hx : 1 ≤ n ∧ n ≤ c.room s
  · rw [decide_eq_true hx, if_pos hx, if_pos hx]; exact rcoil_take n hg hx.1 hx.2 h
  · rw [decide_eq_false hx, if_neg hx, if_neg hx]; exact rcoil_take_no n hg (by omega) h
theorem coil_copyB (n : Int) (hg : Good s c) (h : (Coil b s c).at_ S w) : Calls Try.prog 14 #[.pointer (some ⟨b, 0, none⟩), .int .i64 n] w fun e w' => e = .returned (.tuple #[.int .i64 (cpV c n), .bool (cpB c n)]) ∧ Goes (Coil b s (cpC c n)) S w w' := by
  unfold cpV cpB cpC
  by_cases hx : 1 ≤ n ∧ n ≤ c.k
  · rw [decide_eq_true hx, if_pos hx, if_pos hx]; exact coil_copy n hg hx.1 hx.2 h
  · rw [decide_eq_false hx, if_neg hx, if_neg hx]; exact (coil_copy_no n (by omega) h).mono fun _ _ ⟨he, hw⟩ => ⟨he, hw ▸ Goes.same h⟩
theorem rcoil_copyB (n : Int) (hg : Good s c) (h : (RCoil b s c).at_ S w) : Calls Try.prog 15 #[.pointer (some ⟨b, 0, none⟩), .int .i64 n] w fun e w' => e = .returned (.tuple #[.int .i64 (cpV c n), .bool (cpB c n)]) ∧ Goes (RCoil b s (cpC c n)) S w w' := by
  unfold cpV cpB cpC
  by_cases hx : 1 ≤ n ∧ n ≤ c.k
  · rw [decide_eq_true hx, if_pos hx, if_pos hx]; exact rcoil_copy n hg hx.1 hx.2 h
  · rw [decide_eq_false hx, if_neg hx, if_neg hx]; exact (rcoil_copy_no n (by omega) h).mono fun _ _ ⟨he, hw⟩ => ⟨he, hw ▸ Goes.same h⟩
theorem coil_skipB (n : Int) (hg : Good s c) (h : (Coil b s c).at_ S w) : Calls Try.prog 16 #[.pointer (some ⟨b, 0, none⟩), .int .i64 n] w fun e w' => e = .returned (.bool (cpB c n)) ∧ Goes (Coil b s (skC c n)) S w w' := by
  unfold cpB skC
  by_cases hx : 1 ≤ n ∧ n ≤ c.k
  · rw [decide_eq_true hx, if_pos hx]; exact coil_skip n hg hx.1 hx.2 h
  · rw [decide_eq_false hx, if_neg hx]; exact (coil_skip_no n (by omega) h).mono fun _ _ ⟨he, hw⟩ => ⟨he, hw ▸ Goes.same h⟩
theorem rcoil_skipB (n : Int) (hg : Good s c) (h : (RCoil b s c).at_ S w) : Calls Try.prog 17 #[.pointer (some ⟨b, 0, none⟩), .int .i64 n] w fun e w' => e = .returned (.bool (cpB c n)) ∧ Goes (RCoil b s (skC c n)) S w w' := by
  unfold cpB skC
  by_cases hx : 1 ≤ n ∧ n ≤ c.k
  · rw [decide_eq_true hx, if_pos hx]; exact rcoil_skip n hg hx.1 hx.2 h
  · rw [decide_eq_false hx, if_neg hx]; exact (rcoil_skip_no n (by omega) h).mono fun _ _ ⟨he, hw⟩ => ⟨he, hw ▸ Goes.same h⟩
theorem coil_turnB (hg : Good s c) (h : (Coil b s c).at_ S w) : Calls Try.prog 12 #[.pointer (some ⟨b, 0, none⟩)] w fun e w' => e = .returned (.bool (tnB c)) ∧ Goes (Coil b s (tnC c)) S w w' := by
  unfold tnB tnC
  by_cases hx : c.there = 0
  · rw [decide_eq_true hx, if_pos hx]; exact coil_turn hg hx h
  · rw [decide_eq_false hx, if_neg hx]; exact coil_turn_no hg (there_pos hg hx) h
theorem rcoil_turnB (hg : Good s c) (h : (RCoil b s c).at_ S w) : Calls Try.prog 13 #[.pointer (some ⟨b, 0, none⟩)] w fun e w' => e = .returned (.bool (tnB c)) ∧ Goes (RCoil b s (tnC c)) S w w' := by
  unfold tnB tnC
  by_cases hx : c.there = 0
  · rw [decide_eq_true hx, if_pos hx]; exact rcoil_turn hg hx h
  · rw [decide_eq_false hx, if_neg hx]; exact rcoil_turn_no hg (there_pos hg hx) h
theorem coil_doneB (hg : Good s c) (h : (Coil b s c).at_ S w) : Calls Try.prog 18 #[.pointer (some ⟨b, 0, none⟩)] w fun e w' => e = .returned (.bool (dnB c)) ∧ Goes (Coil b s (dnC c)) S w w' := by
  unfold dnB dnC
  by_cases hx : c.k = 0
  · rw [decide_eq_true hx, if_pos hx]; exact coil_done hx h
  · rw [decide_eq_false hx, if_neg hx]; exact (coil_done_no (k_pos hg hx) h).mono fun _ _ ⟨he, hw⟩ => ⟨he, hw ▸ Goes.same h⟩
theorem rcoil_doneB (hg : Good s c) (h : (RCoil b s c).at_ S w) : Calls Try.prog 19 #[.pointer (some ⟨b, 0, none⟩)] w fun e w' => e = .returned (.bool (dnB c)) ∧ Goes (RCoil b s (dnC c)) S w w' := by
  unfold dnB dnC
  by_cases hx : c.k = 0
  · rw [decide_eq_true hx, if_pos hx]; exact rcoil_done hx h
  · rw [decide_eq_false hx, if_neg hx]; exact (rcoil_done_no (k_pos hg hx) h).mono fun _ _ ⟨he, hw⟩ => ⟨he, hw ▸ Goes.same h⟩
set_option maxHeartbeats 800000 in
theorem coil_roomR (hg : Good s c) (h : (Coil b s c).at_ S w) : Calls Try.prog 22 #[.pointer (some ⟨b, 0, none⟩)] w fun e w' => e = .returned (.int .i64 (c.room s)) ∧ ∃ m, w' = w.drewN m := by
  obtain ⟨c0, c1, c2, c3, c4, -⟩ := coil_cells h.1
  clear h
  obtain ⟨cur, u0, u1, k⟩ := c
  simp only [Good, Cs.here] at hg
  obtain ⟨g1, g2, g3, g4, g5, g6, g7, g8⟩ := hg
  cases cur
  all_goals
    simp only [cN, Cs.room, Cs.here, Bool.false_eq_true, if_true, if_false] at c1 c2 c3 c4 g3 g4 g5 g6 g7 g8 ⊢
    go_enter Try.func22, Try.ntmps22
    go_wp2_with fail
    go_quiet (fail)
    go_wp2_with fail
    go_ret
    exact ⟨rfl, _, rfl⟩
end
theorem quiet_at {P : Program} {f : FuncId} {args : Array Value} {w : World} {v : Value} {k : Nat} (h : Calls P f args (w.drewN k) fun e w' => e = .returned v ∧ ∃ m, w' = (w.drewN k).drewN m) : Calls P f args (w.drewN k) fun e w' => e = .returned v ∧ ∃ m, w' = w.drewN m :=
  h.mono fun e w' ⟨he, m, hw⟩ => ⟨he, k + m, by rw [hw, World.drewN_drewN]⟩
theorem St.andThing {W w w' : World} {A B : Thing} (h : St W A w) (h2 : St w B w') : St W (Sep A B) w' := h.more ⟨_, h2.1.choose_spec.1, h2.1.choose_spec.2⟩ h2.below
theorem opCell {W w : World} {A : Thing} {bo : Nat} {kd n : Int} (h : St W (Sep A (Var bo #[.int .i64 kd, .int .i64 n] 32)) w) : w.cell? ⟨bo, 0, none⟩ = some (.int .i64 kd) ∧ w.cell? ⟨bo, 1, none⟩ = some (.int .i64 n) :=
  ⟨by rw [h.right.blk.cell]; rfl, by rw [h.right.blk.cell]; rfl⟩
theorem Sep.l {A B : Thing} {U : Nat → Prop} {w : World} (h : (Sep A B).at_ U w) : ∃ S, A.at_ S w := by obtain ⟨S, _, h, _⟩ := h; exact ⟨S, h⟩
theorem Sep.r {A B : Thing} {U : Nat → Prop} {w : World} (h : (Sep A B).at_ U w) : ∃ S, B.at_ S w := by obtain ⟨_, T, _, h, _⟩ := h; exact ⟨T, h⟩

set_option maxRecDepth 100000 in
set_option maxHeartbeats 1600000 in
theorem coilPlays_no (m : Int) (a1 : Option Addr) (len1 cap1 : Nat) (W : World) (hl : len1 ≤ maxLen) (hm : m < 0 ∨ 2048 < m) :
    Calls Try.prog 3 #[.int .i64 m, .slice a1 len1 cap1] W fun e w' => e = .returned (.bool true) ∧ Below W.heap.size W w' := by
  unfold maxLen at hl
  go_enter Try.func3, Try.ntmps3
  go_wp2_with fail
  with_reducible refine (coil_first _).mono ?_
  rintro e wa ⟨rfl, hb0⟩
  go_wp2_with fail
  with_reducible refine (coil_new_no m _ hm).mono ?_
  rintro e wb ⟨rfl, rfl⟩
  go_wp2_with fail
  with_reducible refine (rcoil_new_no m _ hm).mono ?_
  rintro e wc ⟨rfl, rfl⟩
  clear hm
  by_cases hlen : (500 : Int) < len1
  · go_wp2_with fail
    with_reducible refine (coil_first _).mono ?_
    rintro e wd ⟨rfl, hb3⟩
    go_wp2_with fail
    go_ret
    exact ⟨rfl, hb0.trans (hb3.mono hb0.size)⟩
  · go_wp2_with fail
    refine wp_loop_rounds 1 ?_
    rw [rounds_succ]
    go_wp2_with fail
    with_reducible refine (coil_first _).mono ?_
    rintro e wd ⟨rfl, hb3⟩
    go_wp2_with fail
    go_ret
    exact ⟨rfl, hb0.trans (hb3.mono hb0.size)⟩

set_option maxRecDepth 100000 in
set_option maxHeartbeats 1600000 in
theorem coilPlays_long (m : Int) (a1 : Option Addr) (len1 cap1 : Nat) (W : World) (hm : 0 ≤ m) (hm2 : m ≤ 2048) (hlen : (500 : Int) < len1) :
    Calls Try.prog 3 #[.int .i64 m, .slice a1 len1 cap1] W fun e w' => e = .returned (.bool true) ∧ Below W.heap.size W w' := by
  go_enter Try.func3, Try.ntmps3
  go_wp2_with fail
  with_reducible refine (coil_first _).mono ?_
  rintro e wa ⟨rfl, hb0⟩
  go_wp2_with fail
  with_reducible refine (coil_new m _ hm hm2).mono ?_
  rintro e wb ⟨b, rfl, hs⟩
  have hs := hs.onward hb0
  clear hb0
  go_wp2_with fail
  with_reducible refine (rcoil_new m _ hm hm2).mono ?_
  rintro e wc ⟨bx, rfl, h2⟩
  have hb2 := hs.later h2.below
  clear h2 hs
  go_wp2_with fail
  with_reducible refine (coil_first _).mono ?_
  rintro e wd ⟨rfl, hb3⟩
  go_wp2_with fail
  go_ret
  exact ⟨rfl, (hb2.later hb3).below⟩

/-- Both coils hold the same, beside the variable that holds the operation. -/
def CPlaysAt (W : World) (b bx bo : Nat) (s kd n : Int) (ok : Value) (w : World) : Prop := ok = .bool true ∧ ∃ c : Cs, Good s c ∧ St W (Sep (Sep (Coil b s c) (RCoil bx s c)) (Var bo #[.int .i64 kd, .int .i64 n] 32)) w

set_option maxRecDepth 100000 in
set_option maxHeartbeats 12800000 in
theorem coilPlays_walk (s : Int) (a1 : Option Addr) (len1 cap1 : Nat) (W : World) (w1 : IsStructs [false, false] W a1 len1) (h0 : 0 ≤ s) (h1 : s ≤ 2048) (hlen : (len1 : Int) ≤ 500) :
    Calls Try.prog 3 #[.int .i64 s, .slice a1 len1 cap1] W fun e w' => e = .returned (.bool true) ∧ Below W.heap.size W w' := by
  have hgn : Good s cNew := good_new (by omega) (by omega)
  go_enter Try.func3, Try.ntmps3
  go_wp2_with fail
  with_reducible refine (coil_first _).mono ?_
  rintro e wa ⟨rfl, hb0⟩
  go_wp2_with fail
  with_reducible refine (coil_new s _ h0 h1).mono ?_
  rintro e wb ⟨b, rfl, hs⟩
  have hs := hs.onward hb0
  clear hb0
  go_wp2_with fail
  with_reducible refine (rcoil_new s _ h0 h1).mono ?_
  rintro e wc ⟨bx, rfl, h2⟩
  have h3 := hs.andThing h2
  clear h2 hs
  go_wp2_with fail
  go_loopw [9] (fun k w => ∃ (q : Nat) (c : Cs), q ≤ len1 ∧ k = .int .i64 q ∧ Good s c ∧ St W (Sep (Coil b s c) (RCoil bx s c)) w) (fun k _ => len1 - (intOf k).toNat)
  case atStart => exact ⟨0, cNew, Nat.zero_le _, rfl, hgn, h3⟩
  case round =>
    clear h3 hgn
    obtain ⟨q, c, hq, rfl, hg, hs⟩ := hrel
    by_cases hlt : q < len1
    · obtain ⟨ab, off, kd, n, rfl, hab, c0, c1⟩ := w1.two hlt
      have g0 := (hs.below.cell (p := ⟨ab, off + q * 2, none⟩) hab).trans c0
      have g1 := (hs.below.cell (p := ⟨ab, off + q * 2 + 1, none⟩) hab).trans c1
      have HG := Lib.hid hg
      clear hg
      go_upto_block 2 with fail
      clear g0 g1 c0 c1
      have h6 := hs.var #[.int .i64 kd, .int .i64 n] 32
      generalize hV : wr.alloc (.cells #[.int .i64 kd, .int .i64 n] 32) = w6 at h6 ⊢
      generalize hBo : wr.heap.size = bo at h6 ⊢
      clear hs hV hBo
      go_cut [11] (fun ok w => CPlaysAt W b bx bo s kd n ok w)
      case first =>
        obtain ⟨v0, v1⟩ := opCell h6
        by_cases k0 : kd = 0
        · subst k0
          go_wp2_with fail
          clear v0
          with_reducible refine (h6.call (sepL (sepL fun S h => coil_takeB n HG.out h))).mono ?_
          rintro e w7 ⟨rfl, h7⟩
          have v1 := (opCell h7).2
          clear h6
          go_wp2_with fail
          with_reducible refine (h7.call (sepL (sepR fun S h => rcoil_takeB n HG.out h))).mono ?_
          rintro e w8 ⟨rfl, h8⟩
          clear h7 v1
          go_wp2_with fail
          go_meet
          exact ⟨rfl, _, good_tk HG.out, h8⟩
        have d0 : (kd == 0) = false := by simpa using k0
        by_cases k1 : kd = 1
        · subst k1
          clear k0 d0 v0 v1
          go_wp2_with fail
          with_reducible refine (h6.call (sepL (sepL fun S h => coil_turnB HG.out h))).mono ?_
          rintro e w7 ⟨rfl, h7⟩
          clear h6
          go_wp2_with fail
          with_reducible refine (h7.call (sepL (sepR fun S h => rcoil_turnB HG.out h))).mono ?_
          rintro e w8 ⟨rfl, h8⟩
          clear h7
          go_wp2_with fail
          go_meet
          exact ⟨rfl, _, good_tn HG.out, h8⟩
        have d1 : (kd == 1) = false := by simpa using k1
        by_cases k2 : kd = 2
        · subst k2
          clear k0 d0 k1 d1
          go_wp2_with fail
          clear v0
          with_reducible refine (h6.call (sepL (sepL fun S h => coil_copyB n HG.out h))).mono ?_
          rintro e w7 ⟨rfl, h7⟩
          have v1 := (opCell h7).2
          clear h6
          go_wp2_with fail
          with_reducible refine (h7.call (sepL (sepR fun S h => rcoil_copyB n HG.out h))).mono ?_
          rintro e w8 ⟨rfl, h8⟩
          clear h7 v1
          go_wp2_with fail
          go_meet
          exact ⟨rfl, _, good_cp HG.out, h8⟩
        have d2 : (kd == 2) = false := by simpa using k2
        by_cases k3 : kd = 3
        · subst k3
          clear k0 d0 k1 d1 k2 d2
          go_wp2_with fail
          have C1 : Hid (Calls Try.prog 16 #[.pointer (some ⟨b, 0, none⟩), .int .i64 n] w6.drew fun e w' => e = .returned (.bool (cpB c n)) ∧ St W (Sep (Sep (Coil b s (skC c n)) (RCoil bx s c)) (Var bo #[.int .i64 3, .int .i64 n] 32)) w' ∧ w'.cell? ⟨bo, 1, none⟩ = some (.int .i64 n)) :=
            ((h6.drewN 1).call (sepL (sepL fun S h => coil_skipB n HG.out h))).mono fun e w' ⟨he, h⟩ => ⟨he, h, (opCell h).2⟩
          clear h6 v0
          go_region_held3 (fun w' => w'.cell? ⟨bo, 1, none⟩ = some (.int .i64 n)) (first | exact v1 | exact x7 | exact x8)
            (first | (go_at_call 16; refine C1.out.mono ?_; rintro e w7 ⟨rfl, h7, x7⟩) | (go_at_call 17; refine (h7.call (sepL (sepR fun S h => rcoil_skipB n HG.out h))).mono ?_; rintro e w8 ⟨rfl, h8⟩; have x8 := (opCell h8).2))
          clear h7 x7 x8
          go_wp2_with fail
          go_meet
          exact ⟨rfl, _, good_sk HG.out, h8⟩
        have d3 : (kd == 3) = false := by simpa using k3
        by_cases k4 : kd = 4
        · subst k4
          clear k0 d0 k1 d1 k2 d2 k3 d3 v0 v1
          go_wp2_with fail
          with_reducible refine (h6.call (sepL (sepL fun S h => coil_doneB HG.out h))).mono ?_
          rintro e w7 ⟨rfl, h7⟩
          clear h6
          go_wp2_with fail
          with_reducible refine (h7.call (sepL (sepR fun S h => rcoil_doneB HG.out h))).mono ?_
          rintro e w8 ⟨rfl, h8⟩
          clear h7
          go_wp2_with fail
          go_meet
          exact ⟨rfl, _, good_dn HG.out, h8⟩
        have d4 : (kd == 4) = false := by simpa using k4
        clear k0 k1 k2 k3 k4 v1
        go_wp2_with fail
        go_meet
        exact ⟨rfl, _, HG.out, h6⟩
      case rest =>
        clear h6 HG
        obtain ⟨rfl, c, hg, h9⟩ := hcut
        have HG := Lib.hid hg
        clear hg
        obtain ⟨-, x1, x2, x3, x4, -⟩ := rcoil_cells (h9.left.right.1.choose_spec.1.1)
        have A0 : Hid (∀ i, Calls Try.prog 21 #[.pointer (some ⟨b, 0, none⟩), .int .i64 0] (wc.drewN i) fun e w'' => e = .returned (.int .i64 c.u0) ∧ ∃ m, w'' = wc.drewN m) := fun i => look_quiet ((h9.drewN i).look (lookL (lookL fun S h => coil_used0 h)))
        have A1 : Hid (∀ i, Calls Try.prog 21 #[.pointer (some ⟨b, 0, none⟩), .int .i64 1] (wc.drewN i) fun e w'' => e = .returned (.int .i64 c.u1) ∧ ∃ m, w'' = wc.drewN m) := fun i => look_quiet ((h9.drewN i).look (lookL (lookL fun S h => coil_used1 h)))
        have A2 : Hid (∀ i, Calls Try.prog 24 #[.pointer (some ⟨b, 0, none⟩)] (wc.drewN i) fun e w'' => e = .returned (.int .i64 c.k) ∧ ∃ m, w'' = wc.drewN m) := fun i => look_quiet ((h9.drewN i).look (lookL (lookL fun S h => coil_left h)))
        have A3 : Hid (∀ i, Calls Try.prog 22 #[.pointer (some ⟨b, 0, none⟩)] (wc.drewN i) fun e w'' => e = .returned (.int .i64 (c.room s)) ∧ ∃ m, w'' = wc.drewN m) := fun i => by
          obtain ⟨S, h9⟩ := Sep.l (h9.left.drewN i).1.choose_spec.1
          exact quiet_at (coil_roomR HG.out h9)
        have A4 : Hid (∀ i, Calls Try.prog 23 #[.pointer (some ⟨bx, 0, none⟩)] (wc.drewN i) fun e w'' => e = .returned (.int .i64 (c.room s)) ∧ ∃ m, w'' = wc.drewN m) := fun i => by
          obtain ⟨S, h9⟩ := Sep.r (h9.left.drewN i).1.choose_spec.1
          exact quiet_at (rcoil_room HG.out h9)
        have A5 : Hid (∀ i, Calls Try.prog 20 #[.pointer (some ⟨b, 0, none⟩)] (wc.drewN i) fun e w'' => e = .returned (.int .i64 (cN c.cur)) ∧ ∃ m, w'' = wc.drewN m) := fun i => look_quiet ((h9.drewN i).look (lookL (lookL fun S h => coil_current h)))
        have H9 := Lib.hid h9.left
        clear h9
        go_wp2_with fail
        go_quiet (first | (go_at_call 21; with_reducible exact A0.out _) | (go_at_call 21; with_reducible exact A1.out _) | (go_at_call 24; with_reducible exact A2.out _) | (go_at_call 22; with_reducible exact A3.out _) | (go_at_call 23; with_reducible exact A4.out _) | (go_at_call 20; with_reducible exact A5.out _))
        have h10 := H9.out.drewN nq
        clear H9 A0 A1 A2 A3 A4 A5 x1 x2 x3 x4
        go_wp2_with fail
        go_round
        case rel => exact ⟨q + 1, c, by omega, by go_num, HG.out, h10⟩
        case measure => simp [intOf]; omega
    · obtain rfl : q = len1 := by omega
      go_wp2_with fail
      with_reducible refine (coil_first _).mono ?_
      rintro e w7 ⟨rfl, hb7⟩
      go_wp2_with fail
      go_ret
      exact ⟨rfl, (hs.later hb7).below⟩
theorem coilPlays_all (m : Int) (a1 : Option Addr) (len1 cap1 : Nat) (W : World) (w1 : IsStructs [false, false] W a1 len1) :
    Calls Try.prog 3 #[.int .i64 m, .slice a1 len1 cap1] W fun e w' => e = .returned (.bool true) ∧ Below W.heap.size W w' := by
  by_cases hm : m < 0 ∨ 2048 < m
  · exact coilPlays_no m a1 len1 cap1 W w1.1 hm
  by_cases hlen : (500 : Int) < len1
  · exact coilPlays_long m a1 len1 cap1 W (by omega) (by omega) hlen
  exact coilPlays_walk m a1 len1 cap1 W w1 (by omega) (by omega) (by omega)
end Go.Proofs.Ytedkdbholfnjkaa
