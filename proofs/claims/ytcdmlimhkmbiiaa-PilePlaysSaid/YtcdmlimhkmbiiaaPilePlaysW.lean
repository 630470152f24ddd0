/- The walk of PilePlays. -/
import Derived.Test.YtcdmlimhkmbiiaaRShade
import Derived.Test.YtcdmlimhkmbiiaaPileLaws
import Derived.Test.YtcdmlimhkmbiiaaArgs
import Derived.Deep.DeepCutAuto
import Derived.Deep.CutBlock
import Derived.Deep.RegionHeld3
import Derived.Deep.RegionWith
namespace Go.Proofs.Ytcdmlimhkmbiiaa
open Go.RowKit

set_option maxRecDepth 100000 in
set_option maxHeartbeats 1600000 in
theorem pilePlays_no (m : Int) (a1 : Option Addr) (len1 cap1 : Nat) (W : World) (hl : len1 ≤ maxLen) (hm : m < 1 ∨ 256 < m) :
    Calls Try.prog 4 #[.int .i64 m, .slice a1 len1 cap1] W fun e w' => e = .returned (.bool true) ∧ Below W.heap.size W w' := by
  unfold maxLen at hl
  go_enter Try.func4, Try.ntmps4
  go_wp2_with fail
  with_reducible refine (pile_first _).mono ?_
  rintro e wa ⟨rfl, hb0⟩
  go_wp2_with fail
  with_reducible refine (pile_new_no m _ hm).mono ?_
  rintro e wb ⟨rfl, rfl⟩
  go_wp2_with fail
  with_reducible refine (rshade_no_pileI 0 m _ (by omega) (by omega) hm).mono ?_
  rintro e wc ⟨rfl, hb1⟩
  have hb2 := hb0.trans (hb1.mono hb0.size)
  clear hb0 hb1 hm
  by_cases hlen : (500 : Int) < len1
  · go_wp2_with fail
    with_reducible refine (pile_first _).mono ?_
    rintro e wd ⟨rfl, hb3⟩
    go_wp2_with fail
    go_ret
    exact ⟨rfl, hb2.trans (hb3.mono hb2.size)⟩
  · go_wp2_with fail
    refine wp_loop_rounds 1 ?_
    rw [rounds_succ]
    go_wp2_with fail
    with_reducible refine (pile_first _).mono ?_
    rintro e wd ⟨rfl, hb3⟩
    go_wp2_with fail
    go_ret
    exact ⟨rfl, hb2.trans (hb3.mono hb2.size)⟩

set_option maxRecDepth 100000 in
set_option maxHeartbeats 1600000 in
theorem pilePlays_long (m : Int) (a1 : Option Addr) (len1 cap1 : Nat) (W : World) (hm : 1 ≤ m) (hm2 : m ≤ 256) (hlen : (500 : Int) < len1) :
    Calls Try.prog 4 #[.int .i64 m, .slice a1 len1 cap1] W fun e w' => e = .returned (.bool true) ∧ Below W.heap.size W w' := by
  go_enter Try.func4, Try.ntmps4
  go_wp2_with fail
  with_reducible refine (pile_first _).mono ?_
  rintro e wa ⟨rfl, hb0⟩
  go_wp2_with fail
  with_reducible refine (pile_new m _ hm hm2).mono ?_
  rintro e wb ⟨b, rfl, hP, hB⟩
  have hs := St.begin hb0 hP hB
  clear hP hB
  go_wp2_with fail
  with_reducible refine (rshade_newI 0 m _ (by omega) (by omega) hm hm2).mono ?_
  rintro e wc ⟨bx, bt, rfl, h2⟩
  have hb2 := hs.later h2.below
  clear h2 hs
  go_wp2_with fail
  with_reducible refine (pile_first _).mono ?_
  rintro e wd ⟨rfl, hb3⟩
  go_wp2_with fail
  go_ret
  exact ⟨rfl, (hb2.later hb3).below⟩

/-- Both piles hold the same, beside the variable that holds the operation. -/
def PlaysAt (W : World) (b bx : Nat) (tv : Value) (m : Int) (bo : Nat) (cs : Array Value) (w : World) : Prop :=
  ∃ xs lost, (xs.length : Int) ≤ m ∧ St W (Sep (Sep (Pile b xs m lost) (RPile bx tv xs m lost 0)) (Var bo cs 38)) w
def OkAt (ok : Value) (P : World → Prop) (w : World) : Prop := ok = .bool true ∧ P w

set_option maxRecDepth 100000 in
set_option maxHeartbeats 6400000 in
theorem pilePlays_walk (m : Int) (a1 : Option Addr) (len1 cap1 : Nat) (W : World) (w1 : IsStructs [false, false] W a1 len1) (hm : 1 ≤ m) (hm2 : m ≤ 256) (hlen : (len1 : Int) ≤ 500) :
    Calls Try.prog 4 #[.int .i64 m, .slice a1 len1 cap1] W fun e w' => e = .returned (.bool true) ∧ Below W.heap.size W w' := by
  go_enter Try.func4, Try.ntmps4
  go_wp2_with fail
  with_reducible refine (pile_first _).mono ?_
  rintro e wa ⟨rfl, hb0⟩
  go_wp2_with fail
  with_reducible refine (pile_new m _ hm hm2).mono ?_
  rintro e wb ⟨b, rfl, hP, hB⟩
  have hs := St.begin hb0 hP hB
  clear hP hB
  go_wp2_with fail
  with_reducible refine (rshade_newI 0 m _ (by omega) (by omega) hm hm2).mono ?_
  rintro e wc ⟨bx, bt, rfl, h2⟩
  have h3 := hs.more h2.right.1 h2.below
  clear h2 hs
  go_wp2_with fail
  go_loopw [9] (fun k w => ∃ (q : Nat) (xs : List Int) (lost : Bool), q ≤ len1 ∧ k = .int .i64 q ∧ (xs.length : Int) ≤ m ∧ St W (Sep (Pile b xs m lost) (RPile bx (.pointer (some ⟨bt, 0, none⟩)) xs m lost 0)) w) (fun k _ => len1 - (intOf k).toNat)
  case atStart => exact ⟨0, _, _, Nat.zero_le _, rfl, by simp; omega, h3⟩
  case round =>
    clear h3
    obtain ⟨q, xs, lost, hq, rfl, hxs, hs⟩ := hrel
    by_cases hlt : q < len1
    · obtain ⟨ab, off, kd, n, rfl, hab, c0, c1⟩ := w1.two hlt
      have g0 := (hs.below.cell (p := ⟨ab, off + q * 2, none⟩) hab).trans c0
      have g1 := (hs.below.cell (p := ⟨ab, off + q * 2 + 1, none⟩) hab).trans c1
      go_upto_block 2 with fail
      clear g0 g1 c0 c1
      have h6 := hs.var #[.int .i64 kd, .int .i64 n] 38
      generalize hV : wr.alloc (.cells #[.int .i64 kd, .int .i64 n] 38) = w6 at h6 ⊢
      generalize hBo : wr.heap.size = bo at h6 ⊢
      clear hs hV hBo
      go_cut [11] (fun ok w => OkAt ok (PlaysAt W b bx (.pointer (some ⟨bt, 0, none⟩)) m bo #[.int .i64 kd, .int .i64 n]) w)
      case first =>
        have v1 : w6.cell? ⟨bo, 1, none⟩ = some (.int .i64 n) := by rw [h6.right.blk.cell]; rfl
        by_cases k0 : kd = 0
        · subst k0
          by_cases hf : (xs.length : Int) < m
          · go_wp2_with fail
            have hx2 : ((xs ++ [n]).length : Int) ≤ m := by simp; omega
            have C1 : Hid (Calls Try.prog 18 #[.pointer (some ⟨b, 0, none⟩), .int .i64 n] w6.drew fun e w' => e = .returned (.bool true) ∧ St W (Sep (Sep (Pile b (xs ++ [n]) m lost) (RPile bx (.pointer (some ⟨bt, 0, none⟩)) xs m lost 0)) (Var bo #[.int .i64 0, .int .i64 n] 38)) w' ∧ w'.cell? ⟨bo, 1, none⟩ = some (.int .i64 n)) :=
              ((h6.drewN 1).call (sepL (sepL fun S h => pile_push_lt n h hf hm2))).mono fun e w' ⟨he, h⟩ => ⟨he, h, by rw [h.right.blk.cell]; rfl⟩
            have HF := Lib.hid hf
            clear h6 hf
            go_region_held3 (fun w' => w'.cell? ⟨bo, 1, none⟩ = some (.int .i64 n)) (first | assumption | simpa using v1 | simp [*])
              (first | (go_at_call 18; refine C1.out.mono ?_; rintro e w7 ⟨rfl, h7, v7⟩) | (go_at_call 23; refine (h7.call (sepL (sepR fun S h => rpile_push_lt n h HF.out hm2))).mono ?_; rintro e w8 ⟨rfl, h8⟩; have v8 := h8.right.blk.cell 1))
            clear h7 v7 v8
            go_wp2_with fail
            go_meet
            exact ⟨rfl, _, _, hx2, h8⟩
          · have hf2 : (xs.length : Int) = m := by omega
            clear hf
            go_wp2_with fail
            have C1 : Hid (Calls Try.prog 18 #[.pointer (some ⟨b, 0, none⟩), .int .i64 n] w6.drew fun e w' => e = .returned (.bool false) ∧ St W (Sep (Sep (Pile b xs m true) (RPile bx (.pointer (some ⟨bt, 0, none⟩)) xs m lost 0)) (Var bo #[.int .i64 0, .int .i64 n] 38)) w' ∧ w'.cell? ⟨bo, 1, none⟩ = some (.int .i64 n)) :=
              ((h6.drewN 1).call (sepL (sepL fun S h => pile_push_eq n h hf2 hm2))).mono fun e w' ⟨he, h⟩ => ⟨he, h, by rw [h.right.blk.cell]; rfl⟩
            have HF := Lib.hid hf2
            clear h6 hf2
            go_region_held3 (fun w' => w'.cell? ⟨bo, 1, none⟩ = some (.int .i64 n)) (first | assumption | simpa using v1 | simp [*])
              (first | (go_at_call 18; refine C1.out.mono ?_; rintro e w7 ⟨rfl, h7, v7⟩) | (go_at_call 23; refine (h7.call (sepL (sepR fun S h => rpile_push_eq n h HF.out))).mono ?_; rintro e w8 ⟨rfl, h8⟩; have v8 := h8.right.blk.cell 1))
            clear h7 v7 v8
            go_wp2_with fail
            go_meet
            exact ⟨rfl, _, _, hxs, h8⟩
        have d0 : (kd == 0) = false := by simpa using k0
        by_cases k1 : kd = 1
        · subst k1
          clear k0 d0 v1
          rcases List.eq_nil_or_concat xs with e | ⟨ys, y, e⟩
          · subst e
            go_wp2_with fail
            with_reducible refine (h6.look (lookL (lookL fun S h => pile_pop_none h))).mono ?_
            rintro e w7 ⟨rfl, rfl⟩
            go_wp2_with fail
            with_reducible refine (h6.look (lookL (lookR fun S h => rpile_pop_none h))).mono ?_
            rintro e w7 ⟨rfl, rfl⟩
            go_wp2_with fail
            go_meet
            exact ⟨rfl, _, _, hxs, h6⟩
          · subst e
            simp only [List.concat_eq_append] at h6 hxs
            have hy : (ys.length : Int) ≤ m ∧ ys.length ≤ 1000000 := by simp at hxs; omega
            have HY := Lib.hid hy
            clear hxs hy
            go_wp2_with fail
            with_reducible refine (h6.call (sepL (sepL fun S h => pile_pop h))).mono ?_
            rintro e w7 ⟨rfl, h7⟩
            clear h6
            go_wp2_with fail
            with_reducible refine (h7.call (sepL (sepR fun S h => rpile_pop h HY.out.2))).mono ?_
            rintro e w8 ⟨rfl, h8⟩
            clear h7
            go_wp2_with fail
            go_meet
            exact ⟨rfl, _, _, HY.out.1, h8⟩
        have d1 : (kd == 1) = false := by simpa using k1
        by_cases k2 : kd = 2
        · subst k2
          clear k0 d0 k1 d1 v1
          go_wp2_with fail
          with_reducible refine (h6.call (sepL (sepL fun S h => pile_found h))).mono ?_
          rintro e w7 ⟨rfl, h7⟩
          clear h6
          go_wp2_with fail
          with_reducible refine (h7.call (sepL (sepR fun S h => rpile_found h))).mono ?_
          rintro e w8 ⟨rfl, h8⟩
          clear h7
          go_wp2_with fail
          go_meet
          exact ⟨rfl, _, _, hxs, h8⟩
        have d2 : (kd == 2) = false := by simpa using k2
        clear k0 k1 k2 v1
        go_wp2_with fail
        go_meet
        exact ⟨rfl, _, _, hxs, h6⟩
      case rest =>
        obtain ⟨rfl, xs', lost', hxs', h7⟩ := hcut
        clear h6 hxs
        have C1 : Hid (∀ k, Calls Try.prog 21 #[.pointer (some ⟨b, 0, none⟩)] (wc.drewN k) fun e w'' => e = .returned (.bool lost') ∧ ∃ m, w'' = wc.drewN m) := fun k => look_quiet ((h7.drewN k).look (lookL (lookL fun S h => pile_lost h)))
        have C2 : Hid (∀ k, Calls Try.prog 27 #[.pointer (some ⟨bx, 0, none⟩)] (wc.drewN k) fun e w'' => e = .returned (.bool lost') ∧ ∃ m, w'' = wc.drewN m) := fun k => look_quiet ((h7.drewN k).look (lookL (lookR fun S h => rpile_lost h)))
        have C3 : Hid (∀ k, Calls Try.prog 19 #[.pointer (some ⟨b, 0, none⟩)] (wc.drewN k) fun e w'' => e = .returned (.int .i64 (xs'.length : Int)) ∧ ∃ m, w'' = wc.drewN m) := fun k => look_quiet ((h7.drewN k).look (lookL (lookL fun S h => pile_len h)))
        obtain ⟨av, cv, hcell⟩ : ∃ av cv, wc.cell? ⟨bx, 2, none⟩ = some (.slice av xs'.length cv) := by
          obtain ⟨⟨S, ⟨v, hb, ho, _⟩, _⟩, _⟩ := h7.left.right
          obtain ⟨a, c, rfl, _⟩ := slice_of_owns ho
          exact ⟨a, c, by rw [hb.cell]; rfl⟩
        have H7 := Lib.hid h7.left
        clear h7
        go_wp2_with fail
        go_quiet (first | (go_at_call 21; exact C1.out _) | (go_at_call 27; exact C2.out _) | (go_at_call 19; exact C3.out _))
        have h8 := H7.out.drewN nq
        clear H7 C1 C2 C3 hcell
        go_wp2_with fail
        go_round
        case rel => exact ⟨q + 1, xs', lost', by omega, by go_num, hxs', h8⟩
        case measure => simp [intOf]; omega
    · obtain rfl : q = len1 := by omega
      go_wp2_with fail
      with_reducible refine (pile_first _).mono ?_
      rintro e w7 ⟨rfl, hb7⟩
      go_wp2_with fail
      go_ret
      exact ⟨rfl, (hs.later hb7).below⟩
end Go.Proofs.Ytcdmlimhkmbiiaa
