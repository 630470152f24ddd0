/- The walk of TintPlays. -/
import Derived.Test.YtcdmlimhkmbiiaaRTab3
import Derived.Test.YtcdmlimhkmbiiaaArgs
import Derived.Test.YtcdmlimhkmbiiaaTintFlipsW
import Derived.Deep.DeepCutAuto
import Derived.Deep.CutBlock
import Derived.Deep.RegionHeld3
import Derived.Deep.RegionWith
namespace Go.Proofs.Ytcdmlimhkmbiiaa
open Go.RowKit

theorem rtab_newI (m : Int) (w : World) (h1 : 0 ≤ m) (h2 : m ≤ 1024) :
    Calls Try.prog 35 #[.int .i64 m] w fun e w' => ∃ b, e = .returned (.tuple #[.pointer (some ⟨b, 0, none⟩), .int .i64 0]) ∧ (∃ S, (RTab b m.toNat blank).at_ S w' ∧ ∀ k, S k → w.heap.size ≤ k) ∧ Below w.heap.size w w' := by
  have := rtab_new m.toNat w (by omega)
  rw [Int.toNat_of_nonneg h1] at this
  exact this

set_option maxRecDepth 100000 in
set_option maxHeartbeats 1600000 in
theorem tintPlays_no (m : Int) (a1 : Option Addr) (len1 cap1 : Nat) (W : World) (hl : len1 ≤ maxLen) (hm : m < 0 ∨ 1024 < m) :
    Calls Try.prog 9 #[.int .i64 m, .slice a1 len1 cap1] W fun e w' => e = .returned (.bool true) ∧ Below W.heap.size W w' := by
  unfold maxLen at hl
  go_enter Try.func9, Try.ntmps9
  go_wp2_with fail
  with_reducible refine (tint_first _).mono ?_
  rintro e wa ⟨rfl, hb0⟩
  go_wp2_with fail
  with_reducible refine (tint_new_no m _ hm).mono ?_
  rintro e wb ⟨rfl, rfl⟩
  go_wp2_with fail
  with_reducible refine (rtab_new_no m _ hm).mono ?_
  rintro e wc ⟨rfl, rfl⟩
  clear hm
  by_cases hlen : (300 : Int) < len1
  · go_wp2_with fail
    with_reducible refine (tint_first _).mono ?_
    rintro e wd ⟨rfl, hb3⟩
    go_wp2_with fail
    go_ret
    exact ⟨rfl, hb0.trans (hb3.mono hb0.size)⟩
  · go_wp2_with fail
    refine wp_loop_rounds 1 ?_
    rw [rounds_succ]
    go_wp2_with fail
    with_reducible refine (tint_first _).mono ?_
    rintro e wd ⟨rfl, hb3⟩
    go_wp2_with fail
    go_ret
    exact ⟨rfl, hb0.trans (hb3.mono hb0.size)⟩

set_option maxRecDepth 100000 in
set_option maxHeartbeats 1600000 in
theorem tintPlays_long (m : Int) (a1 : Option Addr) (len1 cap1 : Nat) (W : World) (hm : 0 ≤ m) (hm2 : m ≤ 1024) (hlen : (300 : Int) < len1) :
    Calls Try.prog 9 #[.int .i64 m, .slice a1 len1 cap1] W fun e w' => e = .returned (.bool true) ∧ Below W.heap.size W w' := by
  go_enter Try.func9, Try.ntmps9
  go_wp2_with fail
  with_reducible refine (tint_first _).mono ?_
  rintro e wa ⟨rfl, hb0⟩
  go_wp2_with fail
  with_reducible refine (tint_newI m _ hm hm2).mono ?_
  rintro e wb ⟨b, rfl, hP, hB⟩
  have hs := St.begin hb0 hP hB
  clear hP hB
  go_wp2_with fail
  with_reducible refine (rtab_newI m _ hm hm2).mono ?_
  rintro e wc ⟨bx, rfl, _, h2⟩
  have hb2 := hs.later h2
  clear h2 hs
  go_wp2_with fail
  with_reducible refine (tint_first _).mono ?_
  rintro e wd ⟨rfl, hb3⟩
  go_wp2_with fail
  go_ret
  exact ⟨rfl, (hb2.later hb3).below⟩

/-- Both tables hold the same, beside the variable that holds the operation. -/
def TPlaysAt (W : World) (b bx n bo : Nat) (cs : Array Value) (w : World) : Prop := ∃ f, St W (Sep (Sep (Tab b n f) (RTab bx n f)) (Var bo cs 56)) w
def OkTAt (ok : Value) (P : World → Prop) (w : World) : Prop := ok = .bool true ∧ P w
def OpCells (w : World) (bo : Nat) (i st : Int) (hd sn : Bool) : Prop := w.cell? ⟨bo, 1, none⟩ = some (.int .i64 i) ∧ w.cell? ⟨bo, 2, none⟩ = some (.int .i64 st) ∧ w.cell? ⟨bo, 3, none⟩ = some (.bool hd) ∧ w.cell? ⟨bo, 4, none⟩ = some (.bool sn)
theorem opCells {W w : World} {A : Thing} {bo : Nat} {kd i st : Int} {hd sn : Bool} (h : St W (Sep A (Var bo #[.int .i64 kd, .int .i64 i, .int .i64 st, .bool hd, .bool sn] 56)) w) : OpCells w bo i st hd sn := by
  refine ⟨?_, ?_, ?_, ?_⟩ <;> (rw [h.right.blk.cell]; rfl)

set_option maxRecDepth 100000 in
set_option maxHeartbeats 6400000 in
theorem tintPlays_walk (n : Nat) (a1 : Option Addr) (len1 cap1 : Nat) (W : World) (w1 : IsStructs [false, false, false, true, true] W a1 len1) (hn : (n : Int) ≤ 1024) (hlen : (len1 : Int) ≤ 300) :
    Calls Try.prog 9 #[.int .i64 n, .slice a1 len1 cap1] W fun e w' => e = .returned (.bool true) ∧ Below W.heap.size W w' := by
  go_enter Try.func9, Try.ntmps9
  go_wp2_with fail
  with_reducible refine (tint_first _).mono ?_
  rintro e wa ⟨rfl, hb0⟩
  go_wp2_with fail
  with_reducible refine (tint_new n _ (by omega)).mono ?_
  rintro e wb ⟨b, rfl, hP, hB⟩
  have hs := St.begin hb0 hP hB
  clear hP hB
  go_wp2_with fail
  with_reducible refine (rtab_new n _ (by omega)).mono ?_
  rintro e wc ⟨bx, rfl, hP, h2⟩
  have h3 := hs.more hP h2
  clear h2 hs hP
  go_wp2_with fail
  go_loopw [9] (fun k w => ∃ (q : Nat) (f : Nat → One), q ≤ len1 ∧ k = .int .i64 q ∧ St W (Sep (Tab b n f) (RTab bx n f)) w) (fun k _ => len1 - (intOf k).toNat)
  case atStart => exact ⟨0, _, Nat.zero_le _, rfl, h3⟩
  case round =>
    clear h3
    obtain ⟨q, f, hq, rfl, hs⟩ := hrel
    by_cases hlt : q < len1
    · obtain ⟨ab, off, kd, i, st, hd, sn, rfl, hab, c0, c1, c2, c3, c4⟩ := w1.five hlt
      have g0 := (hs.below.cell (p := ⟨ab, off + q * 5, none⟩) hab).trans c0
      have g1 := (hs.below.cell (p := ⟨ab, off + q * 5 + 1, none⟩) hab).trans c1
      have g2 := (hs.below.cell (p := ⟨ab, off + q * 5 + 2, none⟩) hab).trans c2
      have g3 := (hs.below.cell (p := ⟨ab, off + q * 5 + 3, none⟩) hab).trans c3
      have g4 := (hs.below.cell (p := ⟨ab, off + q * 5 + 4, none⟩) hab).trans c4
      go_upto_block 2 with fail
      clear g0 g1 g2 g3 g4 c0 c1 c2 c3 c4
      have h6 := hs.var #[.int .i64 kd, .int .i64 i, .int .i64 st, .bool hd, .bool sn] 56
      generalize hV : wr.alloc (.cells #[.int .i64 kd, .int .i64 i, .int .i64 st, .bool hd, .bool sn] 56) = w6 at h6 ⊢
      generalize hBo : wr.heap.size = bo at h6 ⊢
      clear hs hV hBo
      go_cut [11] (fun ok w => OkTAt ok (TPlaysAt W b bx n bo #[.int .i64 kd, .int .i64 i, .int .i64 st, .bool hd, .bool sn]) w)
      case first =>
        obtain ⟨v1, v2, v3, v4⟩ := opCells h6
        by_cases k0 : kd = 0
        · subst k0
          go_wp2_with fail
          have C1 : Hid (Calls Try.prog 30 #[.pointer (some ⟨b, 0, none⟩), .int .i64 i, .int .i64 st, .bool hd, .bool sn] w6.drew fun e w' => e = .returned (.bool (tSets n i st)) ∧ St W (Sep (Sep (Tab b n (tSet n f i st hd sn)) (RTab bx n f)) (Var bo #[.int .i64 0, .int .i64 i, .int .i64 st, .bool hd, .bool sn] 56)) w' ∧ w'.cell? ⟨bo, 1, none⟩ = some (.int .i64 i) ∧ w'.cell? ⟨bo, 2, none⟩ = some (.int .i64 st) ∧ w'.cell? ⟨bo, 3, none⟩ = some (.bool hd) ∧ w'.cell? ⟨bo, 4, none⟩ = some (.bool sn)) :=
            ((h6.drewN 1).call (sepL (sepL fun S h => tint_set i st hd sn h))).mono fun e w' ⟨he, h⟩ => ⟨he, h, opCells h⟩
          clear h6
          go_region_held3 (fun w' => w'.cell? ⟨bo, 1, none⟩ = some (.int .i64 i) ∧ w'.cell? ⟨bo, 2, none⟩ = some (.int .i64 st) ∧ w'.cell? ⟨bo, 3, none⟩ = some (.bool hd) ∧ w'.cell? ⟨bo, 4, none⟩ = some (.bool sn)) (first | exact ⟨v1, v2, v3, v4⟩ | exact x7 | exact x8)
            (first | (go_at_call 30; refine C1.out.mono ?_; rintro e w7 ⟨rfl, h7, x7⟩) | (go_at_call 36; refine (h7.call (sepL (sepR fun S h => rtab_set i st hd sn h))).mono ?_; rintro e w8 ⟨rfl, h8⟩; have x8 := opCells h8))
          clear h7 x7 x8
          go_wp2_with fail
          go_meet
          exact ⟨rfl, _, h8⟩
        have d0 : (kd == 0) = false := by simpa using k0
        by_cases k1 : kd = 1
        · subst k1
          clear k0 d0
          go_wp2_with fail
          have C1 : Hid (Calls Try.prog 37 #[.pointer (some ⟨b, 0, none⟩), .int .i64 i] w6.drew fun e w' => e = .returned (.bool (tBears n f i)) ∧ St W (Sep (Sep (Tab b n (tBorn n f i)) (RTab bx n f)) (Var bo #[.int .i64 1, .int .i64 i, .int .i64 st, .bool hd, .bool sn] 56)) w' ∧ w'.cell? ⟨bo, 1, none⟩ = some (.int .i64 i)) :=
            ((h6.drewN 1).call (sepL (sepL fun S h => tint_born i h))).mono fun e w' ⟨he, h⟩ => ⟨he, h, (opCells h).1⟩
          clear h6
          go_region_held3 (fun w' => w'.cell? ⟨bo, 1, none⟩ = some (.int .i64 i)) (first | exact v1 | exact x7 | exact x8)
            (first | (go_at_call 37; refine C1.out.mono ?_; rintro e w7 ⟨rfl, h7, x7⟩) | (go_at_call 38; refine (h7.call (sepL (sepR fun S h => rtab_born i h))).mono ?_; rintro e w8 ⟨rfl, h8⟩; have x8 := (opCells h8).1))
          clear h7 x7 x8
          go_wp2_with fail
          go_meet
          exact ⟨rfl, _, h8⟩
        have d1 : (kd == 1) = false := by simpa using k1
        by_cases k2 : kd = 2
        · subst k2
          clear k0 d0 k1 d1
          go_wp2_with fail
          have C1 : Hid (Calls Try.prog 33 #[.pointer (some ⟨b, 0, none⟩), .int .i64 i, .bool sn] w6.drew fun e w' => e = .returned (.bool (tMarks n f i sn)) ∧ St W (Sep (Sep (Tab b n (tMark n f i sn)) (RTab bx n f)) (Var bo #[.int .i64 2, .int .i64 i, .int .i64 st, .bool hd, .bool sn] 56)) w' ∧ w'.cell? ⟨bo, 1, none⟩ = some (.int .i64 i) ∧ w'.cell? ⟨bo, 4, none⟩ = some (.bool sn)) :=
            ((h6.drewN 1).call (sepL (sepL fun S h => tint_mark i sn h))).mono fun e w' ⟨he, h⟩ => ⟨he, h, (opCells h).1, (opCells h).2.2.2⟩
          clear h6
          go_region_held3 (fun w' => w'.cell? ⟨bo, 1, none⟩ = some (.int .i64 i) ∧ w'.cell? ⟨bo, 4, none⟩ = some (.bool sn)) (first | exact ⟨v1, v4⟩ | exact x7 | exact ⟨x8.1, x8.2.2.2⟩)
            (first | (go_at_call 33; refine C1.out.mono ?_; rintro e w7 ⟨rfl, h7, x7⟩) | (go_at_call 39; refine (h7.call (sepL (sepR fun S h => rtab_mark i sn h))).mono ?_; rintro e w8 ⟨rfl, h8⟩; have x8 := opCells h8))
          clear h7 x7 x8
          go_wp2_with fail
          go_meet
          exact ⟨rfl, _, h8⟩
        have d2 : (kd == 2) = false := by simpa using k2
        clear k0 k1 k2
        go_wp2_with fail
        go_meet
        exact ⟨rfl, _, h6⟩
      case rest =>
        obtain ⟨rfl, f', h7⟩ := hcut
        clear h6
        go_wp2_with fail
        with_reducible refine (h7.call (sepL (sepL fun S h => (tint_counts h).mono fun _ _ ⟨he, hb⟩ => ⟨he, Goes.later h hb⟩))).mono ?_
        rintro e w8 ⟨rfl, h8⟩
        clear h7
        go_wp2_with fail
        with_reducible refine (h8.call (sepL (sepR fun S h => rtab_counts h))).mono ?_
        rintro e w9 ⟨rfl, h9⟩
        clear h8
        have v1 := (opCells h9).1
        have A1 : Hid (∀ k, Calls Try.prog 34 #[.pointer (some ⟨b, 0, none⟩), .int .i64 i] (w9.drewN k) fun e w'' => e = .returned (.int .i64 (tState n f' i : Int)) ∧ ∃ m, w'' = w9.drewN m) := fun k => look_quiet ((h9.drewN k).look (lookL (lookL fun S h => tint_state i h)))
        have A2 : Hid (∀ k, Calls Try.prog 42 #[.pointer (some ⟨bx, 0, none⟩), .int .i64 i] (w9.drewN k) fun e w'' => e = .returned (.int .i64 (tState n f' i : Int)) ∧ ∃ m, w'' = w9.drewN m) := fun k => look_quiet ((h9.drewN k).look (lookL (lookR fun S h => rtab_state i h)))
        have A3 : Hid (∀ k, Calls Try.prog 32 #[.pointer (some ⟨b, 0, none⟩), .int .i64 i] (w9.drewN k) fun e w'' => e = .returned (.bool (tHead n f' i)) ∧ ∃ m, w'' = w9.drewN m) := fun k => look_quiet ((h9.drewN k).look (lookL (lookL fun S h => tint_head i h)))
        have A4 : Hid (∀ k, Calls Try.prog 43 #[.pointer (some ⟨bx, 0, none⟩), .int .i64 i] (w9.drewN k) fun e w'' => e = .returned (.bool (tHead n f' i)) ∧ ∃ m, w'' = w9.drewN m) := fun k => look_quiet ((h9.drewN k).look (lookL (lookR fun S h => rtab_head i h)))
        have A5 : Hid (∀ (s : Bool) k, Calls Try.prog 31 #[.pointer (some ⟨b, 0, none⟩), .int .i64 i, .bool s] (w9.drewN k) fun e w'' => e = .returned (.bool (tBlack n f' i s)) ∧ ∃ m, w'' = w9.drewN m) := fun s k => look_quiet ((h9.drewN k).look (lookL (lookL fun S h => tint_black i s h)))
        have A6 : Hid (∀ (s : Bool) k, Calls Try.prog 44 #[.pointer (some ⟨bx, 0, none⟩), .int .i64 i, .bool s] (w9.drewN k) fun e w'' => e = .returned (.bool (tBlack n f' i s)) ∧ ∃ m, w'' = w9.drewN m) := fun s k => look_quiet ((h9.drewN k).look (lookL (lookR fun S h => rtab_black i s h)))
        have H9 := Lib.hid h9.left
        clear h9
        go_wp2_with fail
        go_quiet (first | (go_at_call 34; exact A1.out _) | (go_at_call 42; exact A2.out _) | (go_at_call 32; exact A3.out _) | (go_at_call 43; exact A4.out _) | (go_at_call 31; exact A5.out _ _) | (go_at_call 44; exact A6.out _ _))
        have h10 := H9.out.drewN nq
        clear H9 A1 A2 A3 A4 A5 A6 v1
        go_wp2_with fail
        go_round
        case rel => exact ⟨q + 1, f', by omega, by go_num, h10⟩
        case measure => simp [intOf]; omega
    · obtain rfl : q = len1 := by omega
      go_wp2_with fail
      with_reducible refine (tint_first _).mono ?_
      rintro e w7 ⟨rfl, hb7⟩
      go_wp2_with fail
      go_ret
      exact ⟨rfl, (hs.later hb7).below⟩
end Go.Proofs.Ytcdmlimhkmbiiaa
