/- The walk of HandPlays. -/
import Derived.Test.YtmfnfeadpelckaaRHand
import Derived.Deep.CutBlock
namespace Go.Proofs.Ytmfnfeadpelckaa
open Go.RowKit
set_option linter.unusedVariables false

theorem IsStructs.four {w : World} {a : Option Addr} {len : Nat} (h : IsStructs [false, false, false, true] w a len) {i : Nat} (hi : i < len) :
    ∃ b off x y z p, a = some ⟨b, off, none⟩ ∧ b < w.heap.size ∧ w.cell? ⟨b, off + i * 4, none⟩ = some (.int .i64 x) ∧ w.cell? ⟨b, off + i * 4 + 1, none⟩ = some (.int .i64 y) ∧
      w.cell? ⟨b, off + i * 4 + 2, none⟩ = some (.int .i64 z) ∧ w.cell? ⟨b, off + i * 4 + 3, none⟩ = some (.bool p) := by
  obtain ⟨b, off, h1, h2, h3⟩ := h.2 i hi
  obtain ⟨v0, c0, k0⟩ := h3 0 false rfl
  obtain ⟨v1, c1, k1⟩ := h3 1 false rfl
  obtain ⟨v2, c2, k2⟩ := h3 2 false rfl
  obtain ⟨v3, c3, k3⟩ := h3 3 true rfl
  obtain ⟨_, x, rfl⟩ := k0.resolve_left (by simp)
  obtain ⟨_, y, rfl⟩ := k1.resolve_left (by simp)
  obtain ⟨_, z, rfl⟩ := k2.resolve_left (by simp)
  obtain ⟨_, p, rfl⟩ := k3.resolve_right (by simp)
  exact ⟨b, off, x, y, z, p, h1, h2, by simpa using c0, by simpa [Nat.add_assoc] using c1, by simpa [Nat.add_assoc] using c2, by simpa [Nat.add_assoc] using c3⟩

theorem rhand_newI (n : Int) (w : World) (h1 : 1 ≤ n) (h2 : n ≤ 16) :
    Calls Try.prog 17 #[.int .i64 n] w fun e w' => ∃ bh g c, n.toNat ≤ c ∧ e = .returned (.tuple #[.pointer (some ⟨bh, 0, none⟩), .int .i64 0]) ∧ St w (RHnd bh g n.toNat c 0 false gone 0) w' := by
  have := rhand_new n.toNat w (by omega) (by omega)
  rw [Int.toNat_of_nonneg (by omega)] at this
  exact this

/-- What an operation answers, and what it leaves. -/
def kn (x : Int) : Bool := decide (0 ≤ x ∧ x ≤ 4)
def pSt (st x : Int) : Int := if 0 ≤ x ∧ x ≤ 4 then x else st
def pSn (sn fl : Bool) (x : Int) : Bool := if 0 ≤ x ∧ x ≤ 4 then sn != fl else sn
def aOk (n : Nat) (own : Nat → Int) (i x : Int) : Bool := decide (hSt n own i ≠ -1 ∧ 0 ≤ x ∧ x ≤ 4)
def aOwn (n : Nat) (own : Nat → Int) (i x : Int) : Nat → Int := if hSt n own i ≠ -1 ∧ 0 ≤ x ∧ x ≤ 4 then setI own i.toNat x else own
def lOk (n : Nat) (own : Nat → Int) (i : Int) : Bool := decide (hSt n own i ≠ -1)
def lOwn (n : Nat) (own : Nat → Int) (i : Int) : Nat → Int := if hSt n own i ≠ -1 then setI own i.toNat (-1) else own
def jOk (n : Nat) (own : Nat → Int) (i : Int) : Bool := decide (tIn n i ∧ own i.toNat = -1)
def jSt (n : Nat) (own : Nat → Int) (st i : Int) : Int := if tIn n i ∧ own i.toNat = -1 then st else 0
def jSn (n : Nat) (own : Nat → Int) (sn : Bool) (i : Int) : Bool := if tIn n i ∧ own i.toNat = -1 then sn else false
def jOwn (n : Nat) (own : Nat → Int) (st i : Int) : Nat → Int := if tIn n i ∧ own i.toNat = -1 then setI own i.toNat st else own
theorem hSt_ne {n : Nat} {own : Nat → Int} {i : Int} (h : hSt n own i ≠ -1) : ∃ k : Nat, i = (k : Int) ∧ k < n ∧ own k ≠ -1 := by
  have hi : tIn n i := by by_cases e : tIn n i; exact e; exact absurd (hSt_out e) h
  obtain ⟨k, rfl⟩ : ∃ k : Nat, i = (k : Int) := ⟨i.toNat, by have := hi.1; omega⟩
  have hk : k < n := by have := hi.2; omega
  rw [hSt_in hk] at h
  exact ⟨k, rfl, hk, h⟩
theorem NoLess.a {n : Nat} {own : Nat → Int} {i x : Int} (h : NoLess own) : NoLess (aOwn n own i x) := by
  unfold aOwn; split
  · exact h.set (by omega)
  · exact h
theorem NoLess.l {n : Nat} {own : Nat → Int} {i : Int} (h : NoLess own) : NoLess (lOwn n own i) := by
  unfold lOwn; split
  · exact h.set (by omega)
  · exact h
theorem NoLess.j {n : Nat} {own : Nat → Int} {st i : Int} (h : NoLess own) (hs : 0 ≤ st) : NoLess (jOwn n own st i) := by
  unfold jOwn; split
  · exact h.set (by omega)
  · exact h
theorem pSt_pos {st x : Int} (h : 0 ≤ st) : 0 ≤ pSt st x := by unfold pSt; split <;> omega

section
variable {bh g n c : Nat} {st ct : Int} {sn : Bool} {own : Nat → Int} {S : Nat → Prop} {w w' : World}
theorem hand_postB (x : Int) (fl : Bool) (h0 : 0 ≤ ct) (h1 : ct ≤ 1000000) (h : (Hnd bh g n st sn own ct).at_ S w) :
    Calls Try.prog 11 #[.pointer (some ⟨bh, 0, none⟩), .int .i64 x, .bool fl] w fun e w' => e = .returned (.bool (kn x)) ∧ Goes (Hnd bh g n (pSt st x) (pSn sn fl x) own (ct + 1)) S w w' := by
  unfold kn pSt pSn
  by_cases hx : 0 ≤ x ∧ x ≤ 4
  · rw [decide_eq_true hx, if_pos hx, if_pos hx]; exact hand_post x fl hx.1 hx.2 h0 h1 h
  · rw [decide_eq_false hx, if_neg hx, if_neg hx]; exact hand_post_no x fl hx h0 h1 h
theorem rhand_postB (x : Int) (fl : Bool) (h0 : 0 ≤ ct) (h1 : ct ≤ 1000000) (h : (RHnd bh g n c st sn own ct).at_ S w) :
    Calls Try.prog 18 #[.pointer (some ⟨bh, 0, none⟩), .int .i64 x, .bool fl] w fun e w' => e = .returned (.bool (kn x)) ∧ Goes (RHnd bh g n c (pSt st x) (pSn sn fl x) own (ct + 1)) S w w' := by
  unfold kn pSt pSn
  by_cases hx : 0 ≤ x ∧ x ≤ 4
  · rw [decide_eq_true hx, if_pos hx, if_pos hx]; exact rhand_post x fl hx.1 hx.2 h0 h1 h
  · rw [decide_eq_false hx, if_neg hx, if_neg hx]; exact rhand_post_no x fl hx h0 h1 h
theorem hand_answerB (i x : Int) (hn : n ≤ 16) (h0 : 0 ≤ ct) (h1 : ct ≤ 1000000) (h : (Hnd bh g n st sn own ct).at_ S w) :
    Calls Try.prog 12 #[.pointer (some ⟨bh, 0, none⟩), .int .i64 i, .int .i64 x] w fun e w' => e = .returned (.bool (aOk n own i x)) ∧ Goes (Hnd bh g n st sn (aOwn n own i x) (ct + 1)) S w w' := by
  unfold aOk aOwn
  by_cases hx : hSt n own i ≠ -1 ∧ 0 ≤ x ∧ x ≤ 4
  · rw [decide_eq_true hx, if_pos hx]
    obtain ⟨k, rfl, hk, ho⟩ := hSt_ne hx.1
    exact hand_answer k x hk hn ho hx.2.1 hx.2.2 h0 h1 h
  · rw [decide_eq_false hx, if_neg hx]
    exact hand_answer_no i x hn (by by_cases e : hSt n own i = -1; exact .inl e; exact .inr fun h => hx ⟨e, h⟩) h0 h1 h
theorem rhand_answerB (i x : Int) (hn : n ≤ 16) (hc : n ≤ c) (hl : NoLess own) (h0 : 0 ≤ ct) (h1 : ct ≤ 1000000) (h : (RHnd bh g n c st sn own ct).at_ S w) :
    Calls Try.prog 20 #[.pointer (some ⟨bh, 0, none⟩), .int .i64 i, .int .i64 x] w fun e w' => e = .returned (.bool (aOk n own i x)) ∧ Goes (RHnd bh g n c st sn (aOwn n own i x) (ct + 1)) S w w' := by
  unfold aOk aOwn
  by_cases hx : hSt n own i ≠ -1 ∧ 0 ≤ x ∧ x ≤ 4
  · rw [decide_eq_true hx, if_pos hx]
    obtain ⟨k, rfl, hk, ho⟩ := hSt_ne hx.1
    exact rhand_answer k x hk hn hc (by have := hl k; omega) hx.2.1 hx.2.2 h0 h1 h
  · rw [decide_eq_false hx, if_neg hx]
    exact rhand_answer_no i x hn hl (by by_cases e : hSt n own i = -1; exact .inl e; exact .inr fun h => hx ⟨e, h⟩) h0 h1 h
theorem hand_leaveB (i : Int) (hn : n ≤ 16) (h0 : 0 ≤ ct) (h1 : ct ≤ 1000000) (h : (Hnd bh g n st sn own ct).at_ S w) :
    Calls Try.prog 15 #[.pointer (some ⟨bh, 0, none⟩), .int .i64 i] w fun e w' => e = .returned (.bool (lOk n own i)) ∧ Goes (Hnd bh g n st sn (lOwn n own i) (ct + 1)) S w w' := by
  unfold lOk lOwn
  by_cases hx : hSt n own i ≠ -1
  · rw [decide_eq_true hx, if_pos hx]
    obtain ⟨k, rfl, hk, ho⟩ := hSt_ne hx
    exact hand_leave k hk hn ho h0 h1 h
  · rw [decide_eq_false hx, if_neg hx]
    exact hand_leave_no i hn (by by_cases e : hSt n own i = -1; exact e; exact absurd e hx) h0 h1 h
theorem rhand_leaveB (i : Int) (hn : n ≤ 16) (hc : n ≤ c) (hl : NoLess own) (h0 : 0 ≤ ct) (h1 : ct ≤ 1000000) (h : (RHnd bh g n c st sn own ct).at_ S w) :
    Calls Try.prog 23 #[.pointer (some ⟨bh, 0, none⟩), .int .i64 i] w fun e w' => e = .returned (.bool (lOk n own i)) ∧ Goes (RHnd bh g n c st sn (lOwn n own i) (ct + 1)) S w w' := by
  unfold lOk lOwn
  by_cases hx : hSt n own i ≠ -1
  · rw [decide_eq_true hx, if_pos hx]
    obtain ⟨k, rfl, hk, ho⟩ := hSt_ne hx
    exact rhand_leave k hk hn hc (by have := hl k; omega) h0 h1 h
  · rw [decide_eq_false hx, if_neg hx]
    exact rhand_leave_no i hn (by by_cases e : hSt n own i = -1; exact e; exact absurd e hx) h0 h1 h
theorem hand_joinB (i : Int) (hn : n ≤ 16) (h0 : 0 ≤ ct) (h1 : ct ≤ 1000000) (h : (Hnd bh g n st sn own ct).at_ S w) :
    Calls Try.prog 9 #[.pointer (some ⟨bh, 0, none⟩), .int .i64 i] w fun e w' => e = .returned (.tuple #[.int .i64 (jSt n own st i), .bool (jSn n own sn i), .bool (jOk n own i)]) ∧ Goes (Hnd bh g n st sn (jOwn n own st i) (ct + 1)) S w w' := by
  unfold jOk jOwn jSt jSn
  by_cases hx : tIn n i ∧ own i.toNat = -1
  · rw [decide_eq_true hx, if_pos hx, if_pos hx, if_pos hx]
    obtain ⟨hi, ho⟩ := hx
    obtain ⟨k, rfl⟩ : ∃ k : Nat, i = (k : Int) := ⟨i.toNat, by have := hi.1; omega⟩
    exact hand_join k (by have := hi.2; omega) hn ho h0 h1 h
  · rw [decide_eq_false hx, if_neg hx, if_neg hx, if_neg hx]
    by_cases hi : tIn n i
    · obtain ⟨k, rfl⟩ : ∃ k : Nat, i = (k : Int) := ⟨i.toNat, by have := hi.1; omega⟩
      exact hand_join_no k (by have := hi.2; omega) hn (fun e => hx ⟨hi, e⟩) h0 h1 h
    · exact hand_join_out i hi h0 h1 h
theorem rhand_joinB (i : Int) (hn : n ≤ 16) (hc : n ≤ c) (hl : NoLess own) (h0 : 0 ≤ ct) (h1 : ct ≤ 1000000) (h : (RHnd bh g n c st sn own ct).at_ S w) :
    Calls Try.prog 22 #[.pointer (some ⟨bh, 0, none⟩), .int .i64 i] w fun e w' => e = .returned (.tuple #[.int .i64 (jSt n own st i), .bool (jSn n own sn i), .bool (jOk n own i)]) ∧ Goes (RHnd bh g n c st sn (jOwn n own st i) (ct + 1)) S w w' := by
  unfold jOk jOwn jSt jSn
  by_cases hx : tIn n i ∧ own i.toNat = -1
  · rw [decide_eq_true hx, if_pos hx, if_pos hx, if_pos hx]
    obtain ⟨hi, ho⟩ := hx
    obtain ⟨k, rfl⟩ : ∃ k : Nat, i = (k : Int) := ⟨i.toNat, by have := hi.1; omega⟩
    exact rhand_join k (by have := hi.2; omega) hn hc ho h0 h1 h
  · rw [decide_eq_false hx, if_neg hx, if_neg hx, if_neg hx]
    by_cases hi : tIn n i
    · obtain ⟨k, rfl⟩ : ∃ k : Nat, i = (k : Int) := ⟨i.toNat, by have := hi.1; omega⟩
      refine rhand_join_no k (by have := hi.2; omega) hn hc ?_ h0 h1 h
      have h2 := hl k
      have h3 : own k ≠ -1 := fun e => hx ⟨hi, e⟩
      omega
    · exact rhand_join_out i hi h0 h1 h
end

set_option maxRecDepth 100000 in
set_option maxHeartbeats 1600000 in
theorem handPlays_no (m : Int) (a1 : Option Addr) (len1 cap1 : Nat) (W : World) (hl : len1 ≤ maxLen) (hm : m < 1 ∨ 16 < m) :
    Calls Try.prog 6 #[.int .i64 m, .slice a1 len1 cap1] W fun e w' => e = .returned (.bool true) ∧ Below W.heap.size W w' := by
  unfold maxLen at hl
  go_enter Try.func6, Try.ntmps6
  go_wp2_with fail
  with_reducible refine (hand_first _).mono ?_
  rintro e wa ⟨rfl, hb0⟩
  go_wp2_with fail
  with_reducible refine (hand_new_no m _ hm).mono ?_
  rintro e wb ⟨rfl, rfl⟩
  go_wp2_with fail
  with_reducible refine (rhand_new_no m _ hm).mono ?_
  rintro e wc ⟨rfl, rfl⟩
  clear hm
  by_cases hlen : (500 : Int) < len1
  · go_wp2_with fail
    with_reducible refine (hand_first _).mono ?_
    rintro e wd ⟨rfl, hb3⟩
    go_wp2_with fail
    go_ret
    exact ⟨rfl, hb0.trans (hb3.mono hb0.size)⟩
  · go_wp2_with fail
    refine wp_loop_rounds 1 ?_
    rw [rounds_succ]
    go_wp2_with fail
    with_reducible refine (hand_first _).mono ?_
    rintro e wd ⟨rfl, hb3⟩
    go_wp2_with fail
    go_ret
    exact ⟨rfl, hb0.trans (hb3.mono hb0.size)⟩

set_option maxRecDepth 100000 in
set_option maxHeartbeats 1600000 in
theorem handPlays_long (m : Int) (a1 : Option Addr) (len1 cap1 : Nat) (W : World) (hm : 1 ≤ m) (hm2 : m ≤ 16) (hlen : (500 : Int) < len1) :
    Calls Try.prog 6 #[.int .i64 m, .slice a1 len1 cap1] W fun e w' => e = .returned (.bool true) ∧ Below W.heap.size W w' := by
  go_enter Try.func6, Try.ntmps6
  go_wp2_with fail
  with_reducible refine (hand_first _).mono ?_
  rintro e wa ⟨rfl, hb0⟩
  go_wp2_with fail
  with_reducible refine (hand_newI m _ hm hm2).mono ?_
  rintro e wb ⟨bh, g, rfl, hs⟩
  have hs := hs.onward hb0
  clear hb0
  go_wp2_with fail
  with_reducible refine (rhand_newI m _ hm hm2).mono ?_
  rintro e wc ⟨bx, gx, c, hc, rfl, h2⟩
  have hb2 := hs.later h2.below
  clear h2 hs
  go_wp2_with fail
  with_reducible refine (hand_first _).mono ?_
  rintro e wd ⟨rfl, hb3⟩
  go_wp2_with fail
  go_ret
  exact ⟨rfl, (hb2.later hb3).below⟩

/-- Both hands hold the same, beside the variable that holds the operation. -/
def HPlaysAt (W : World) (bh g bx gx n c bo : Nat) (lim : Int) (cs : Array Value) (w : World) : Prop := ∃ (st : Int) (sn : Bool) (own : Nat → Int) (ct : Int), NoLess own ∧ 0 ≤ st ∧ 0 ≤ ct ∧ ct ≤ lim ∧ St W (Sep (Sep (Hnd bh g n st sn own ct) (RHnd bx gx n c st sn own ct)) (Var bo cs 48)) w
def OkHAt (ok : Value) (P : World → Prop) (w : World) : Prop := ok = .bool true ∧ P w
def OpCellsH (w : World) (bo : Nat) (i x : Int) (fl : Bool) : Prop := w.cell? ⟨bo, 1, none⟩ = some (.int .i64 i) ∧ w.cell? ⟨bo, 2, none⟩ = some (.int .i64 x) ∧ w.cell? ⟨bo, 3, none⟩ = some (.bool fl)
theorem opCellsH {W w : World} {A : Thing} {bo : Nat} {kd i x : Int} {fl : Bool} (h : St W (Sep A (Var bo #[.int .i64 kd, .int .i64 i, .int .i64 x, .bool fl] 48)) w) : OpCellsH w bo i x fl := by
  refine ⟨?_, ?_, ?_⟩ <;> (rw [h.right.blk.cell]; rfl)
theorem St.rhndCount {W w : World} {bh g n c : Nat} {st ct : Int} {sn : Bool} {own : Nat → Int} (h : St W (RHnd bh g n c st sn own ct) w) : w.cell? ⟨bh, 3, none⟩ = some (.int .i64 ct) := (rhnd_cells h.1.choose_spec.1).2.2.2.1
theorem St.andThing {W w w' : World} {A B : Thing} (h : St W A w) (h2 : St w B w') : St W (Sep A B) w' := h.more ⟨_, h2.1.choose_spec.1, h2.1.choose_spec.2⟩ h2.below

set_option maxRecDepth 100000 in
set_option maxHeartbeats 6400000 in
theorem handPlays_walk (n : Nat) (a1 : Option Addr) (len1 cap1 : Nat) (W : World) (w1 : IsStructs [false, false, false, true] W a1 len1) (hn1 : 1 ≤ (n : Int)) (hn : (n : Int) ≤ 16) (hlen : (len1 : Int) ≤ 500) :
    Calls Try.prog 6 #[.int .i64 n, .slice a1 len1 cap1] W fun e w' => e = .returned (.bool true) ∧ Below W.heap.size W w' := by
  go_enter Try.func6, Try.ntmps6
  go_wp2_with fail
  with_reducible refine (hand_first _).mono ?_
  rintro e wa ⟨rfl, hb0⟩
  go_wp2_with fail
  with_reducible refine (hand_new n _ (by omega) (by omega)).mono ?_
  rintro e wb ⟨bh, g, rfl, hs⟩
  have hs := hs.onward hb0
  clear hb0
  go_wp2_with fail
  with_reducible refine (rhand_new n _ (by omega) (by omega)).mono ?_
  rintro e wc ⟨bx, gx, c, hc, rfl, h2⟩
  have h3 := hs.andThing h2
  have hn16 : n ≤ 16 := by omega
  clear h2 hs
  go_wp2_with fail
  go_loopw [9] (fun k w => ∃ (q : Nat) (st : Int) (sn : Bool) (own : Nat → Int) (ct : Int), q ≤ len1 ∧ k = .int .i64 q ∧ NoLess own ∧ 0 ≤ st ∧ 0 ≤ ct ∧ ct ≤ q ∧ St W (Sep (Hnd bh g n st sn own ct) (RHnd bx gx n c st sn own ct)) w) (fun k _ => len1 - (intOf k).toNat)
  case atStart => exact ⟨0, 0, false, gone, 0, Nat.zero_le _, rfl, fun j => by simp [gone], by omega, by omega, by omega, h3⟩
  case round =>
    clear h3
    obtain ⟨q, st, sn, own, ct, hq, rfl, hl, hst, hct0, hct1, hs⟩ := hrel
    by_cases hlt : q < len1
    · obtain ⟨ab, off, kd, i, x, fl, rfl, hab, c0, c1, c2, c3⟩ := w1.four hlt
      have g0 := (hs.below.cell (p := ⟨ab, off + q * 4, none⟩) hab).trans c0
      have g1 := (hs.below.cell (p := ⟨ab, off + q * 4 + 1, none⟩) hab).trans c1
      have g2 := (hs.below.cell (p := ⟨ab, off + q * 4 + 2, none⟩) hab).trans c2
      have g3 := (hs.below.cell (p := ⟨ab, off + q * 4 + 3, none⟩) hab).trans c3
      have HL := Lib.hid hl
      clear hl
      go_upto_block 2 with fail
      clear g0 g1 g2 g3 c0 c1 c2 c3
      have h6 := hs.var #[.int .i64 kd, .int .i64 i, .int .i64 x, .bool fl] 48
      generalize hV : wr.alloc (.cells #[.int .i64 kd, .int .i64 i, .int .i64 x, .bool fl] 48) = w6 at h6 ⊢
      generalize hBo : wr.heap.size = bo at h6 ⊢
      clear hs hV hBo
      go_cut [11] (fun ok w => OkHAt ok (HPlaysAt W bh g bx gx n c bo (q + 1 : Int) #[.int .i64 kd, .int .i64 i, .int .i64 x, .bool fl]) w)
      case first =>
        obtain ⟨v1, v2, v3⟩ := opCellsH h6
        by_cases k0 : kd = 0
        · subst k0
          go_wp2_with fail
          have C1 : Hid (Calls Try.prog 11 #[.pointer (some ⟨bh, 0, none⟩), .int .i64 x, .bool fl] w6.drew fun e w' => e = .returned (.bool (kn x)) ∧ St W (Sep (Sep (Hnd bh g n (pSt st x) (pSn sn fl x) own (ct + 1)) (RHnd bx gx n c st sn own ct)) (Var bo #[.int .i64 0, .int .i64 i, .int .i64 x, .bool fl] 48)) w' ∧ w'.cell? ⟨bo, 2, none⟩ = some (.int .i64 x) ∧ w'.cell? ⟨bo, 3, none⟩ = some (.bool fl)) :=
            ((h6.drewN 1).call (sepL (sepL fun S h => hand_postB x fl hct0 (by omega) h))).mono fun e w' ⟨he, h⟩ => ⟨he, h, (opCellsH h).2⟩
          clear h6 v1
          go_region_held3 (fun w' => w'.cell? ⟨bo, 2, none⟩ = some (.int .i64 x) ∧ w'.cell? ⟨bo, 3, none⟩ = some (.bool fl)) (first | exact ⟨v2, v3⟩ | exact x7 | exact x8)
            (first | (go_at_call 11; refine C1.out.mono ?_; rintro e w7 ⟨rfl, h7, x7⟩) | (go_at_call 18; refine (h7.call (sepL (sepR fun S h => rhand_postB x fl hct0 (by omega) h))).mono ?_; rintro e w8 ⟨rfl, h8⟩; have x8 := (opCellsH h8).2))
          clear h7 x7 x8
          go_wp2_with fail
          go_meet
          exact ⟨rfl, _, _, _, _, HL.out, pSt_pos hst, by omega, by omega, h8⟩
        have d0 : (kd == 0) = false := by simpa using k0
        by_cases k1 : kd = 1
        · subst k1
          clear k0 d0 v1 v2 v3
          go_wp2_with fail
          with_reducible refine (h6.call (sepL (sepL fun S h => hand_look hct0 (by omega) h))).mono ?_
          rintro e w7 ⟨rfl, h7⟩
          clear h6
          go_wp2_with fail
          with_reducible refine (h7.call (sepL (sepR fun S h => rhand_look hct0 (by omega) h))).mono ?_
          rintro e w8 ⟨rfl, h8⟩
          clear h7
          go_wp2_with fail
          go_meet
          exact ⟨rfl, _, _, _, _, HL.out, hst, by omega, by omega, h8⟩
        have d1 : (kd == 1) = false := by simpa using k1
        by_cases k2 : kd = 2
        · subst k2
          clear k0 d0 k1 d1
          go_wp2_with fail
          have C1 : Hid (Calls Try.prog 12 #[.pointer (some ⟨bh, 0, none⟩), .int .i64 i, .int .i64 x] w6.drew fun e w' => e = .returned (.bool (aOk n own i x)) ∧ St W (Sep (Sep (Hnd bh g n st sn (aOwn n own i x) (ct + 1)) (RHnd bx gx n c st sn own ct)) (Var bo #[.int .i64 2, .int .i64 i, .int .i64 x, .bool fl] 48)) w' ∧ w'.cell? ⟨bo, 1, none⟩ = some (.int .i64 i) ∧ w'.cell? ⟨bo, 2, none⟩ = some (.int .i64 x)) :=
            ((h6.drewN 1).call (sepL (sepL fun S h => hand_answerB i x hn16 hct0 (by omega) h))).mono fun e w' ⟨he, h⟩ => ⟨he, h, (opCellsH h).1, (opCellsH h).2.1⟩
          clear h6 v3
          go_region_held3 (fun w' => w'.cell? ⟨bo, 1, none⟩ = some (.int .i64 i) ∧ w'.cell? ⟨bo, 2, none⟩ = some (.int .i64 x)) (first | exact ⟨v1, v2⟩ | exact x7 | exact ⟨x8.1, x8.2.1⟩)
            (first | (go_at_call 12; refine C1.out.mono ?_; rintro e w7 ⟨rfl, h7, x7⟩) | (go_at_call 20; refine (h7.call (sepL (sepR fun S h => rhand_answerB i x hn16 hc HL.out hct0 (by omega) h))).mono ?_; rintro e w8 ⟨rfl, h8⟩; have x8 := opCellsH h8))
          clear h7 x7 x8
          go_wp2_with fail
          go_meet
          exact ⟨rfl, _, _, _, _, HL.out.a, hst, by omega, by omega, h8⟩
        have d2 : (kd == 2) = false := by simpa using k2
        by_cases k3 : kd = 3
        · subst k3
          clear k0 d0 k1 d1 k2 d2
          go_wp2_with fail
          have C1 : Hid (Calls Try.prog 10 #[.pointer (some ⟨bh, 0, none⟩), .int .i64 i] w6.drew fun e w' => e = .returned (.bool (hSt n own i == -1 || hSt n own i == st)) ∧ St W (Sep (Sep (Hnd bh g n st sn own (ct + 1)) (RHnd bx gx n c st sn own ct)) (Var bo #[.int .i64 3, .int .i64 i, .int .i64 x, .bool fl] 48)) w' ∧ w'.cell? ⟨bo, 1, none⟩ = some (.int .i64 i)) :=
            ((h6.drewN 1).call (sepL (sepL fun S h => hand_poll i hn16 hct0 (by omega) h))).mono fun e w' ⟨he, h⟩ => ⟨he, h, (opCellsH h).1⟩
          have C2 : Hid (∀ w7, St W (Sep (Sep (Hnd bh g n st sn own (ct + 1)) (RHnd bx gx n c st sn own ct)) (Var bo #[.int .i64 3, .int .i64 i, .int .i64 x, .bool fl] 48)) w7 → Calls Try.prog 21 #[.pointer (some ⟨bx, 0, none⟩), .int .i64 i] w7 fun e w' => e = .returned (.bool (hSt n own i == -1 || hSt n own i == st)) ∧ St W (Sep (Sep (Hnd bh g n st sn own (ct + 1)) (RHnd bx gx n c st sn own (ct + 1))) (Var bo #[.int .i64 3, .int .i64 i, .int .i64 x, .bool fl] 48)) w') :=
            fun w7 h7 => h7.call (sepL (sepR fun S h => rhand_poll i hn16 hc HL.out hct0 (by omega) h))
          generalize (hSt n own i == -1 || hSt n own i == st) = v at C1 C2
          clear h6 v2 v3
          go_region_held3 (fun w' => w'.cell? ⟨bo, 1, none⟩ = some (.int .i64 i)) (first | exact v1 | exact x7 | exact x8)
            (first | (go_at_call 10; refine C1.out.mono ?_; rintro e w7 ⟨rfl, h7, x7⟩) | (go_at_call 21; refine (C2.out _ h7).mono ?_; rintro e w8 ⟨rfl, h8⟩; have x8 := (opCellsH h8).1))
          clear h7 x7 x8 C2
          go_wp2_with fail
          go_meet
          exact ⟨rfl, _, _, _, _, HL.out, hst, by omega, by omega, h8⟩
        have d3 : (kd == 3) = false := by simpa using k3
        by_cases k4 : kd = 4
        · subst k4
          clear k0 d0 k1 d1 k2 d2 k3 d3 v2 v3
          go_wp2_with fail
          with_reducible refine (h6.call (sepL (sepL fun S h => hand_joinB i hn16 hct0 (by omega) h))).mono ?_
          rintro e w7 ⟨rfl, h7⟩
          have y1 := (opCellsH h7).1
          clear h6 v1
          go_wp2_with fail
          with_reducible refine (h7.call (sepL (sepR fun S h => rhand_joinB i hn16 hc HL.out hct0 (by omega) h))).mono ?_
          rintro e w8 ⟨rfl, h8⟩
          clear h7 y1
          go_wp2_with fail
          go_meet
          exact ⟨rfl, _, _, _, _, HL.out.j hst, hst, by omega, by omega, h8⟩
        have d4 : (kd == 4) = false := by simpa using k4
        by_cases k5 : kd = 5
        · subst k5
          clear k0 d0 k1 d1 k2 d2 k3 d3 k4 d4
          go_wp2_with fail
          have C1 : Hid (Calls Try.prog 15 #[.pointer (some ⟨bh, 0, none⟩), .int .i64 i] w6.drew fun e w' => e = .returned (.bool (lOk n own i)) ∧ St W (Sep (Sep (Hnd bh g n st sn (lOwn n own i) (ct + 1)) (RHnd bx gx n c st sn own ct)) (Var bo #[.int .i64 5, .int .i64 i, .int .i64 x, .bool fl] 48)) w' ∧ w'.cell? ⟨bo, 1, none⟩ = some (.int .i64 i)) :=
            ((h6.drewN 1).call (sepL (sepL fun S h => hand_leaveB i hn16 hct0 (by omega) h))).mono fun e w' ⟨he, h⟩ => ⟨he, h, (opCellsH h).1⟩
          clear h6 v2 v3
          go_region_held3 (fun w' => w'.cell? ⟨bo, 1, none⟩ = some (.int .i64 i)) (first | exact v1 | exact x7 | exact x8)
            (first | (go_at_call 15; refine C1.out.mono ?_; rintro e w7 ⟨rfl, h7, x7⟩) | (go_at_call 23; refine (h7.call (sepL (sepR fun S h => rhand_leaveB i hn16 hc HL.out hct0 (by omega) h))).mono ?_; rintro e w8 ⟨rfl, h8⟩; have x8 := (opCellsH h8).1))
          clear h7 x7 x8
          go_wp2_with fail
          go_meet
          exact ⟨rfl, _, _, _, _, HL.out.l, hst, by omega, by omega, h8⟩
        have d5 : (kd == 5) = false := by simpa using k5
        clear k0 k1 k2 k3 k4 k5
        go_wp2_with fail
        go_meet
        exact ⟨rfl, _, _, _, _, HL.out, hst, by omega, by omega, h6⟩
      case rest =>
        clear h6 HL hst hct0 hct1
        obtain ⟨rfl, st, sn, own, ct, hl, hst, hct0, hct1, h9⟩ := hcut
        have v1 := (opCellsH h9).1
        have v4 := h9.left.right.rhndCount
        have HL := Lib.hid hl
        clear hl
        have A1 : Hid (∀ k, Calls Try.prog 13 #[.pointer (some ⟨bh, 0, none⟩), .int .i64 i] (wc.drewN k) fun e w'' => e = .returned (.int .i64 (hSt n own i)) ∧ ∃ m, w'' = wc.drewN m) := fun k => look_quiet ((h9.drewN k).look (lookL (lookL fun S h => hand_status i hn16 h)))
        have A2 : Hid (∀ k, Calls Try.prog 24 #[.pointer (some ⟨bx, 0, none⟩), .int .i64 i] (wc.drewN k) fun e w'' => e = .returned (.int .i64 (hSt n own i)) ∧ ∃ m, w'' = wc.drewN m) := fun k => look_quiet ((h9.drewN k).look (lookL (lookR fun S h => rhand_status i hn16 h)))
        have A3 : Hid (∀ k, Calls Try.prog 16 #[.pointer (some ⟨bh, 0, none⟩)] (wc.drewN k) fun e w'' => e = .returned (.int .i64 ct) ∧ ∃ m, w'' = wc.drewN m) := fun k => look_quiet ((h9.drewN k).look (lookL (lookL fun S h => hand_counted h)))
        have H9 := Lib.hid h9.left
        clear h9
        go_wp2_with fail
        go_quiet (first | (go_at_call 13; exact A1.out _) | (go_at_call 24; exact A2.out _) | (go_at_call 16; exact A3.out _))
        have h10 := H9.out.drewN nq
        clear H9 A1 A2 A3 v1 v4
        go_wp2_with fail
        go_round
        case rel => exact ⟨q + 1, st, sn, own, ct, by omega, by go_num, HL.out, hst, hct0, by omega, h10⟩
        case measure => simp [intOf]; omega
    · obtain rfl : q = len1 := by omega
      go_wp2_with fail
      with_reducible refine (hand_first _).mono ?_
      rintro e w7 ⟨rfl, hb7⟩
      go_wp2_with fail
      go_ret
      exact ⟨rfl, (hs.later hb7).below⟩
theorem handPlays_all (m : Int) (a1 : Option Addr) (len1 cap1 : Nat) (W : World) (w1 : IsStructs [false, false, false, true] W a1 len1) :
    Calls Try.prog 6 #[.int .i64 m, .slice a1 len1 cap1] W fun e w' => e = .returned (.bool true) ∧ Below W.heap.size W w' := by
  by_cases hm : m < 1 ∨ 16 < m
  · exact handPlays_no m a1 len1 cap1 W w1.1 hm
  by_cases hlen : (500 : Int) < len1
  · exact handPlays_long m a1 len1 cap1 W (by omega) (by omega) hlen
  obtain ⟨k, rfl⟩ : ∃ k : Nat, m = (k : Int) := ⟨m.toNat, by omega⟩
  exact handPlays_walk k a1 len1 cap1 W w1 (by omega) (by omega) (by omega)
end Go.Proofs.Ytmfnfeadpelckaa
