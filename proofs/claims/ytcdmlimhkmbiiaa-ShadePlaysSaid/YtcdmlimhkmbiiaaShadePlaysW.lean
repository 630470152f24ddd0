/- The walk of ShadePlays. -/
import Derived.Test.YtcdmlimhkmbiiaaRShade2
import Derived.Test.YtcdmlimhkmbiiaaArgs
import Derived.Deep.CutBlock
import Derived.Deep.DeepCutAuto
import Derived.Deep.RegionHeld3
import Derived.Deep.RegionWith
namespace Go.Proofs.Ytcdmlimhkmbiiaa
open Go.RowKit
set_option linter.unusedVariables false
set_option linter.unusedSimpArgs false

theorem St.andThing {W w w' : World} {A B : Thing} (h : St W A w) (h2 : St w B w') : St W (Sep A B) w' := h.more ⟨_, h2.1.choose_spec.1, h2.1.choose_spec.2⟩ h2.below

set_option maxRecDepth 100000 in
set_option maxHeartbeats 1600000 in
theorem shadePlays_no (n m : Int) (a2 : Option Addr) (len2 cap2 : Nat) (W : World) (hl : len2 ≤ maxLen) (hm : n < 0 ∨ 1024 < n) :
    Calls Try.prog 15 #[.int .i64 n, .int .i64 m, .slice a2 len2 cap2] W fun e w' => e = .returned (.bool true) ∧ Below W.heap.size W w' := by
  unfold maxLen at hl
  go_enter Try.func15, Try.ntmps15
  go_wp2_with fail
  with_reducible refine (shade_first _).mono ?_
  rintro e wa ⟨rfl, hb0⟩
  go_wp2_with fail
  with_reducible refine (shade_no_table n m _ hm).mono ?_
  rintro e wb ⟨rfl, rfl⟩
  go_wp2_with fail
  with_reducible refine (rshade_no_table n m _ hm).mono ?_
  rintro e wc ⟨rfl, rfl⟩
  clear hm
  by_cases hlen : (500 : Int) < len2
  all_goals
    go_wp2_with fail
    with_reducible refine (shade_first _).mono ?_
    rintro e wd ⟨rfl, hb3⟩
    go_wp2_with fail
    go_ret
    exact ⟨rfl, hb0.trans (hb3.mono hb0.size)⟩
set_option maxRecDepth 100000 in
set_option maxHeartbeats 1600000 in
theorem shadePlays_nopile (n : Nat) (m : Int) (a2 : Option Addr) (len2 cap2 : Nat) (W : World) (hl : len2 ≤ maxLen) (hn : n ≤ 1024) (hm : m < 1 ∨ 256 < m) :
    Calls Try.prog 15 #[.int .i64 n, .int .i64 m, .slice a2 len2 cap2] W fun e w' => e = .returned (.bool true) ∧ Below W.heap.size W w' := by
  unfold maxLen at hl
  go_enter Try.func15, Try.ntmps15
  go_wp2_with fail
  with_reducible refine (shade_first _).mono ?_
  rintro e wa ⟨rfl, hb0⟩
  go_wp2_with fail
  with_reducible refine (shade_no_pile n m _ hn hm).mono ?_
  rintro e wb ⟨rfl, hb1⟩
  go_wp2_with fail
  with_reducible refine (rshade_no_pile n m _ hn hm).mono ?_
  rintro e wc ⟨rfl, hb2⟩
  have hb4 := (hb0.trans (hb1.mono hb0.size)).trans (hb2.mono (hb0.trans (hb1.mono hb0.size)).size)
  clear hm hb0 hb1 hb2
  by_cases hlen : (500 : Int) < len2
  all_goals
    go_wp2_with fail
    with_reducible refine (shade_first _).mono ?_
    rintro e wd ⟨rfl, hb3⟩
    go_wp2_with fail
    go_ret
    exact ⟨rfl, hb4.trans (hb3.mono hb4.size)⟩
set_option maxRecDepth 100000 in
set_option maxHeartbeats 1600000 in
theorem shadePlays_long (n : Nat) (m : Int) (a2 : Option Addr) (len2 cap2 : Nat) (W : World) (hn : n ≤ 1024) (hm : 1 ≤ m) (hm2 : m ≤ 256) (hlen : (500 : Int) < len2) :
    Calls Try.prog 15 #[.int .i64 n, .int .i64 m, .slice a2 len2 cap2] W fun e w' => e = .returned (.bool true) ∧ Below W.heap.size W w' := by
  go_enter Try.func15, Try.ntmps15
  go_wp2_with fail
  with_reducible refine (shade_first _).mono ?_
  rintro e wa ⟨rfl, hb0⟩
  go_wp2_with fail
  with_reducible refine (shade_new n m _ hn hm hm2).mono ?_
  rintro e wb ⟨bs, bt, bp, rfl, hs⟩
  have hs := hs.onward hb0
  clear hb0
  go_wp2_with fail
  with_reducible refine (rshade_new n m _ hn hm hm2).mono ?_
  rintro e wc ⟨bx, bu, rfl, h2⟩
  have hb2 := hs.later h2.below
  clear h2 hs
  go_wp2_with fail
  with_reducible refine (shade_first _).mono ?_
  rintro e wd ⟨rfl, hb3⟩
  go_wp2_with fail
  go_ret
  exact ⟨rfl, (hb2.later hb3).below⟩

/-- Both shades hold the same, beside the variable that holds the operation. -/
def ShPlaysAt (W : World) (bs bt bp bx bu n bo : Nat) (m lim : Int) (cs : Array Value) (ok : Value) (w : World) : Prop := ok = .bool true ∧ ∃ (f : Nat → One) (xs : List Int) (lost : Bool) (ct : Int), HeadsUsed f ∧ (xs.length : Int) ≤ m ∧ 0 ≤ ct ∧ ct ≤ lim ∧
  St W (Sep (Sep (Shade bs bt bp n f xs m lost ct) (RSh bx bu n f xs m lost ct)) (Var bo cs 72)) w
theorem opCellS {W w : World} {A : Thing} {bo : Nat} {kd i st : Int} {hd sn : Bool} (h : St W (Sep A (Var bo #[.int .i64 kd, .int .i64 i, .int .i64 st, .bool hd, .bool sn] 72)) w) : w.cell? ⟨bo, 1, none⟩ = some (.int .i64 i) ∧ w.cell? ⟨bo, 2, none⟩ = some (.int .i64 st) ∧ w.cell? ⟨bo, 3, none⟩ = some (.bool hd) ∧ w.cell? ⟨bo, 4, none⟩ = some (.bool sn) := by
  refine ⟨?_, ?_, ?_, ?_⟩ <;> (rw [h.right.blk.cell]; rfl)
theorem rshPtr {W w : World} {bx bu n : Nat} {f : Nat → One} {xs : List Int} {m : Int} {lost : Bool} {ct : Int} (h : St W (RSh bx bu n f xs m lost ct) w) : w.cell? ⟨bx, 0, none⟩ = some (.pointer (some ⟨bu, 0, none⟩)) := (rsh_cells h.1.choose_spec.1).1

set_option maxRecDepth 100000 in
set_option maxHeartbeats 25600000 in
theorem shadePlays_walk (n : Nat) (m : Int) (a2 : Option Addr) (len2 cap2 : Nat) (W : World) (w2 : IsStructs [false, false, false, true, true] W a2 len2) (hn : n ≤ 1024) (hm : 1 ≤ m) (hm2 : m ≤ 256) (hlen : (len2 : Int) ≤ 500) :
    Calls Try.prog 15 #[.int .i64 n, .int .i64 m, .slice a2 len2 cap2] W fun e w' => e = .returned (.bool true) ∧ Below W.heap.size W w' := by
  go_enter Try.func15, Try.ntmps15
  go_wp2_with fail
  with_reducible refine (shade_first _).mono ?_
  rintro e wa ⟨rfl, hb0⟩
  go_wp2_with fail
  with_reducible refine (shade_new n m _ hn hm hm2).mono ?_
  rintro e wb ⟨bs, bt, bp, rfl, hs⟩
  have hs := hs.onward hb0
  clear hb0
  go_wp2_with fail
  with_reducible refine (rshade_new n m _ hn hm hm2).mono ?_
  rintro e wc ⟨bx, bu, rfl, h2⟩
  have h3 := hs.andThing h2
  have c0 := h3.left.shade0
  clear h2 hs
  go_wp2_with fail
  with_reducible refine (shade_table bt _).mono ?_
  rintro e wd ⟨rfl, hb4⟩
  have h4 := h3.later hb4
  clear h3 c0 hb4
  go_wp2_with fail
  go_loopw [12] (fun k w => ∃ (q : Nat) (f : Nat → One) (xs : List Int) (lost : Bool) (ct : Int), q ≤ len2 ∧ k = .int .i64 q ∧ Hid (HeadsUsed f) ∧ (xs.length : Int) ≤ m ∧ 0 ≤ ct ∧ ct ≤ q ∧ St W (Sep (Shade bs bt bp n f xs m lost ct) (RSh bx bu n f xs m lost ct)) w) (fun k _ => len2 - (intOf k).toNat)
  case atStart => exact ⟨0, blank, [], false, 0, Nat.zero_le _, rfl, Lib.hid heads_blank, by simp; omega, by omega, by omega, h4⟩
  case round =>
    clear h4
    obtain ⟨q, f, xs, lost, ct, hq, rfl, hu, hxl, hct0, hct1, hs⟩ := hrel
    by_cases hlt : q < len2
    · obtain ⟨ab, off, kd, i, st, hd, sn, rfl, hab, c0, c1, c2, c3, c4⟩ := w2.five hlt
      have g0 := (hs.below.cell (p := ⟨ab, off + q * 5, none⟩) hab).trans c0
      have g1 := (hs.below.cell (p := ⟨ab, off + q * 5 + 1, none⟩) hab).trans c1
      have g2 := (hs.below.cell (p := ⟨ab, off + q * 5 + 2, none⟩) hab).trans c2
      have g3 := (hs.below.cell (p := ⟨ab, off + q * 5 + 3, none⟩) hab).trans c3
      have g4 := (hs.below.cell (p := ⟨ab, off + q * 5 + 4, none⟩) hab).trans c4
      have HXL := Lib.hid hxl
      clear hxl
      go_upto_block 2 with fail
      clear g0 g1 g2 g3 g4 c0 c1 c2 c3 c4
      have h6 := hs.var #[.int .i64 kd, .int .i64 i, .int .i64 st, .bool hd, .bool sn] 72
      generalize hV : wr.alloc (.cells #[.int .i64 kd, .int .i64 i, .int .i64 st, .bool hd, .bool sn] 72) = w6 at h6 ⊢
      generalize hBo : wr.heap.size = bo at h6 ⊢
      clear hs hV hBo
      go_cut [14] (fun ok w => ShPlaysAt W bs bt bp bx bu n bo m (q + 1 : Int) #[.int .i64 kd, .int .i64 i, .int .i64 st, .bool hd, .bool sn] ok w)
      case first =>
        obtain ⟨v1, v2, v3, v4⟩ := opCellS h6
        have vx := rshPtr h6.left.right
        by_cases k0 : kd = 0
        · as_aux_lemma =>
          subst k0
          go_wp2_with fail
          have C1 : Hid (Calls Try.prog 30 #[.pointer (some ⟨bt, 0, none⟩), .int .i64 i, .int .i64 st, .bool hd, .bool sn] w6.drew fun e w' => e = .returned (.bool (tSets n i st)) ∧ St W (Sep (Sep (Shade bs bt bp n (tSet n f i st hd sn) xs m lost ct) (RSh bx bu n f xs m lost ct)) (Var bo #[.int .i64 0, .int .i64 i, .int .i64 st, .bool hd, .bool sn] 72)) w' ∧ w'.cell? ⟨bo, 1, none⟩ = some (.int .i64 i) ∧ w'.cell? ⟨bo, 2, none⟩ = some (.int .i64 st) ∧ w'.cell? ⟨bo, 3, none⟩ = some (.bool hd) ∧ w'.cell? ⟨bo, 4, none⟩ = some (.bool sn) ∧ w'.cell? ⟨bx, 0, none⟩ = some (.pointer (some ⟨bu, 0, none⟩))) :=
            ((h6.drewN 1).call (sepL (sepL (sepR (sepL fun S h => tint_set i st hd sn h))))).mono fun e w' ⟨he, h⟩ => ⟨he, h, (opCellS h).1, (opCellS h).2.1, (opCellS h).2.2.1, (opCellS h).2.2.2, rshPtr h.left.right⟩
          have C2 : Hid (∀ w7, St W (Sep (Sep (Shade bs bt bp n (tSet n f i st hd sn) xs m lost ct) (RSh bx bu n f xs m lost ct)) (Var bo #[.int .i64 0, .int .i64 i, .int .i64 st, .bool hd, .bool sn] 72)) w7 → Calls Try.prog 36 #[.pointer (some ⟨bu, 0, none⟩), .int .i64 i, .int .i64 st, .bool hd, .bool sn] w7 fun e w' => e = .returned (.bool (tSets n i st)) ∧ St W (Sep (Sep (Shade bs bt bp n (tSet n f i st hd sn) xs m lost ct) (RSh bx bu n (tSet n f i st hd sn) xs m lost ct)) (Var bo #[.int .i64 0, .int .i64 i, .int .i64 st, .bool hd, .bool sn] 72)) w') :=
            fun w7 h7 => h7.call (sepL (sepR (sepL fun S h => rtab_set i st hd sn h)))
          clear h6
          go_region_held3 (fun w' => w'.cell? ⟨bo, 1, none⟩ = some (.int .i64 i) ∧ w'.cell? ⟨bo, 2, none⟩ = some (.int .i64 st) ∧ w'.cell? ⟨bo, 3, none⟩ = some (.bool hd) ∧ w'.cell? ⟨bo, 4, none⟩ = some (.bool sn) ∧ w'.cell? ⟨bx, 0, none⟩ = some (.pointer (some ⟨bu, 0, none⟩))) (first | exact ⟨v1, v2, v3, v4, vx⟩ | exact x7 | exact x8)
            (first | (go_at_call 30; refine C1.out.mono ?_; rintro e w7 ⟨rfl, h7, x7⟩) | (go_at_call 36; refine (C2.out _ h7).mono ?_; rintro e w8 ⟨rfl, h8⟩; have x8 := (⟨(opCellS h8).1, (opCellS h8).2.1, (opCellS h8).2.2.1, (opCellS h8).2.2.2, rshPtr h8.left.right⟩ : _ ∧ _ ∧ _ ∧ _ ∧ _)))
          all_goals
            clear h7 x7 x8 C2
            go_wp2_with fail
            go_meet
            exact ⟨rfl, _, xs, lost, ct, heads_set hu.out, HXL.out, hct0, by omega, h8⟩
        have d0 : (kd == 0) = false := by simpa using k0
        by_cases k1 : kd = 1
        · as_aux_lemma =>
          subst k1
          clear k0 d0 v2 v3 vx
          go_wp2_with fail
          have C1 : Hid (Calls Try.prog 49 #[.pointer (some ⟨bs, 0, none⟩), .int .i64 i, .bool sn] w6.drew fun e w' => e = .returned (.bool (sWhite n f i sn)) ∧ St W (Sep (Sep (Shade bs bt bp n (gyF n f i sn) (gyX n f xs m i sn) m (gyL n f xs m lost i sn) (ct + 1)) (RSh bx bu n f xs m lost ct)) (Var bo #[.int .i64 1, .int .i64 i, .int .i64 st, .bool hd, .bool sn] 72)) w' ∧ w'.cell? ⟨bo, 1, none⟩ = some (.int .i64 i) ∧ w'.cell? ⟨bo, 4, none⟩ = some (.bool sn)) :=
            ((h6.drewN 1).call (sepL (sepL fun S h => shade_grey i sn h hct0 (by omega) HXL.out hm2))).mono fun e w' ⟨he, h⟩ => ⟨he, h, (opCellS h).1, (opCellS h).2.2.2⟩
          have C2 : Hid (∀ w7, St W (Sep (Sep (Shade bs bt bp n (gyF n f i sn) (gyX n f xs m i sn) m (gyL n f xs m lost i sn) (ct + 1)) (RSh bx bu n f xs m lost ct)) (Var bo #[.int .i64 1, .int .i64 i, .int .i64 st, .bool hd, .bool sn] 72)) w7 → Calls Try.prog 55 #[.pointer (some ⟨bx, 0, none⟩), .int .i64 i, .bool sn] w7 fun e w' => e = .returned (.bool (sWhite n f i sn)) ∧ St W (Sep (Sep (Shade bs bt bp n (gyF n f i sn) (gyX n f xs m i sn) m (gyL n f xs m lost i sn) (ct + 1)) (RSh bx bu n (gyF n f i sn) (gyX n f xs m i sn) m (gyL n f xs m lost i sn) (ct + 1))) (Var bo #[.int .i64 1, .int .i64 i, .int .i64 st, .bool hd, .bool sn] 72)) w') :=
            fun w7 h7 => h7.call (sepL (sepR fun S h => rsh_grey i sn hu.out h hct0 (by omega) HXL.out hm2))
          clear h6
          go_region_held3 (fun w' => w'.cell? ⟨bo, 1, none⟩ = some (.int .i64 i) ∧ w'.cell? ⟨bo, 4, none⟩ = some (.bool sn)) (first | exact ⟨v1, v4⟩ | exact x7 | exact x8)
            (first | (go_at_call 49; refine C1.out.mono ?_; rintro e w7 ⟨rfl, h7, x7⟩) | (go_at_call 55; refine (C2.out _ h7).mono ?_; rintro e w8 ⟨rfl, h8⟩; have x8 := (⟨(opCellS h8).1, (opCellS h8).2.2.2⟩ : _ ∧ _)))
          all_goals
            clear h7 x7 x8 C2
            go_wp2_with fail
            go_meet
            exact ⟨rfl, _, _, _, _, heads_gy hu.out, gyX_len HXL.out, by omega, by omega, h8⟩
        have d1 : (kd == 1) = false := by simpa using k1
        by_cases k2 : kd = 2
        · as_aux_lemma =>
          subst k2
          clear k0 d0 k1 d1 v2 v3 vx
          go_wp2_with fail
          have C1 : Hid (Calls Try.prog 48 #[.pointer (some ⟨bs, 0, none⟩), .int .i64 i, .bool sn] w6.drew fun e w' => e = .returned (.bool (tHead n f i && tBlack n f i sn)) ∧ St W (Sep (Sep (Shade bs bt bp n f xs m lost (ct + 1)) (RSh bx bu n f xs m lost ct)) (Var bo #[.int .i64 2, .int .i64 i, .int .i64 st, .bool hd, .bool sn] 72)) w' ∧ w'.cell? ⟨bo, 1, none⟩ = some (.int .i64 i) ∧ w'.cell? ⟨bo, 4, none⟩ = some (.bool sn)) :=
            ((h6.drewN 1).call (sepL (sepL fun S h => shade_black i sn h hct0 (by omega)))).mono fun e w' ⟨he, h⟩ => ⟨he, h, (opCellS h).1, (opCellS h).2.2.2⟩
          have C2 : Hid (∀ w7, St W (Sep (Sep (Shade bs bt bp n f xs m lost (ct + 1)) (RSh bx bu n f xs m lost ct)) (Var bo #[.int .i64 2, .int .i64 i, .int .i64 st, .bool hd, .bool sn] 72)) w7 → Calls Try.prog 56 #[.pointer (some ⟨bx, 0, none⟩), .int .i64 i, .bool sn] w7 fun e w' => e = .returned (.bool (tHead n f i && tBlack n f i sn)) ∧ St W (Sep (Sep (Shade bs bt bp n f xs m lost (ct + 1)) (RSh bx bu n f xs m lost (ct + 1))) (Var bo #[.int .i64 2, .int .i64 i, .int .i64 st, .bool hd, .bool sn] 72)) w') :=
            fun w7 h7 => h7.call (sepL (sepR fun S h => rsh_black i sn h hct0 (by omega)))
          generalize (tHead n f i && tBlack n f i sn) = vb at C1 C2
          clear h6
          go_region_held3 (fun w' => w'.cell? ⟨bo, 1, none⟩ = some (.int .i64 i) ∧ w'.cell? ⟨bo, 4, none⟩ = some (.bool sn)) (first | exact ⟨v1, v4⟩ | exact x7 | exact x8)
            (first | (go_at_call 48; refine C1.out.mono ?_; rintro e w7 ⟨rfl, h7, x7⟩) | (go_at_call 56; refine (C2.out _ h7).mono ?_; rintro e w8 ⟨rfl, h8⟩; have x8 := (⟨(opCellS h8).1, (opCellS h8).2.2.2⟩ : _ ∧ _)))
          all_goals
            clear h7 x7 x8 C2
            go_wp2_with fail
            go_meet
            exact ⟨rfl, _, _, _, _, hu.out, HXL.out, by omega, by omega, h8⟩
        have d2 : (kd == 2) = false := by simpa using k2
        by_cases k3 : kd = 3
        · as_aux_lemma =>
          subst k3
          clear k0 d0 k1 d1 k2 d2 v2 v3 vx
          go_wp2_with fail
          have C1 : Hid (Calls Try.prog 53 #[.pointer (some ⟨bs, 0, none⟩), .int .i64 i, .bool sn] w6.drew fun e w' => e = .returned (.bool (tMarks n f i sn)) ∧ St W (Sep (Sep (Shade bs bt bp n (tMark n f i sn) xs m lost (ct + 1)) (RSh bx bu n f xs m lost ct)) (Var bo #[.int .i64 3, .int .i64 i, .int .i64 st, .bool hd, .bool sn] 72)) w' ∧ w'.cell? ⟨bo, 1, none⟩ = some (.int .i64 i) ∧ w'.cell? ⟨bo, 4, none⟩ = some (.bool sn)) :=
            ((h6.drewN 1).call (sepL (sepL fun S h => shade_part i sn h hct0 (by omega)))).mono fun e w' ⟨he, h⟩ => ⟨he, h, (opCellS h).1, (opCellS h).2.2.2⟩
          have C2 : Hid (∀ w7, St W (Sep (Sep (Shade bs bt bp n (tMark n f i sn) xs m lost (ct + 1)) (RSh bx bu n f xs m lost ct)) (Var bo #[.int .i64 3, .int .i64 i, .int .i64 st, .bool hd, .bool sn] 72)) w7 → Calls Try.prog 57 #[.pointer (some ⟨bx, 0, none⟩), .int .i64 i, .bool sn] w7 fun e w' => e = .returned (.bool (tMarks n f i sn)) ∧ St W (Sep (Sep (Shade bs bt bp n (tMark n f i sn) xs m lost (ct + 1)) (RSh bx bu n (tMark n f i sn) xs m lost (ct + 1))) (Var bo #[.int .i64 3, .int .i64 i, .int .i64 st, .bool hd, .bool sn] 72)) w') :=
            fun w7 h7 => h7.call (sepL (sepR fun S h => rsh_part i sn h hct0 (by omega)))
          clear h6
          go_region_held3 (fun w' => w'.cell? ⟨bo, 1, none⟩ = some (.int .i64 i) ∧ w'.cell? ⟨bo, 4, none⟩ = some (.bool sn)) (first | exact ⟨v1, v4⟩ | exact x7 | exact x8)
            (first | (go_at_call 53; refine C1.out.mono ?_; rintro e w7 ⟨rfl, h7, x7⟩) | (go_at_call 57; refine (C2.out _ h7).mono ?_; rintro e w8 ⟨rfl, h8⟩; have x8 := (⟨(opCellS h8).1, (opCellS h8).2.2.2⟩ : _ ∧ _)))
          all_goals
            clear h7 x7 x8 C2
            go_wp2_with fail
            go_meet
            exact ⟨rfl, _, _, _, _, heads_mark hu.out, HXL.out, by omega, by omega, h8⟩
        have d3 : (kd == 3) = false := by simpa using k3
        by_cases k4 : kd = 4
        · as_aux_lemma =>
          subst k4
          clear k0 d0 k1 d1 k2 d2 k3 d3 v1 v2 v3 v4 vx
          rcases List.eq_nil_or_concat xs with rfl | ⟨ys, y, rfl⟩
          · go_wp2_with fail
            with_reducible refine (h6.call (sepL (sepL fun S h => shade_next_none h hct0 (by omega)))).mono ?_
            rintro e w7 ⟨rfl, h7⟩
            clear h6
            go_wp2_with fail
            with_reducible refine (h7.call (sepL (sepR fun S h => rsh_next_none h hct0 (by omega)))).mono ?_
            rintro e w8 ⟨rfl, h8⟩
            clear h7
            go_wp2_with fail
            go_meet
            exact ⟨rfl, f, [], lost, ct + 1, hu.out, HXL.out, by omega, by omega, h8⟩
          · rw [List.concat_eq_append] at h6
            have hyl : (ys.length : Int) ≤ m := by have := HXL.out; simp at this; omega
            have hys : ys.length ≤ 1000000 := by omega
            have HYL := Lib.hid hyl
            clear HXL hyl
            go_wp2_with fail
            with_reducible refine (h6.call (sepL (sepL fun S h => shade_next h hct0 (by omega)))).mono ?_
            rintro e w7 ⟨rfl, h7⟩
            clear h6
            go_wp2_with fail
            with_reducible refine (h7.call (sepL (sepR fun S h => rsh_next h hys hct0 (by omega)))).mono ?_
            rintro e w8 ⟨rfl, h8⟩
            clear h7
            go_wp2_with fail
            go_meet
            exact ⟨rfl, f, ys, lost, ct + 1, hu.out, HYL.out, by omega, by omega, h8⟩
        have d4 : (kd == 4) = false := by simpa using k4
        by_cases k5 : kd = 5
        · as_aux_lemma =>
          subst k5
          clear k0 d0 k1 d1 k2 d2 k3 d3 k4 d4 v1 v2 v3 v4 vx
          go_wp2_with fail
          with_reducible refine (h6.call (sepL (sepL fun S h => shade_lost h hct0 (by omega)))).mono ?_
          rintro e w7 ⟨rfl, h7⟩
          clear h6
          go_wp2_with fail
          with_reducible refine (h7.call (sepL (sepR fun S h => rsh_lost h hct0 (by omega)))).mono ?_
          rintro e w8 ⟨rfl, h8⟩
          clear h7
          go_wp2_with fail
          go_meet
          exact ⟨rfl, f, xs, false, ct + 1, hu.out, HXL.out, by omega, by omega, h8⟩
        have d5 : (kd == 5) = false := by simpa using k5
        by_cases k6 : kd = 6
        · as_aux_lemma =>
          subst k6
          clear k0 d0 k1 d1 k2 d2 k3 d3 k4 d4 k5 d5 v2 v3 v4
          go_wp2_with fail
          have C1 : Hid (Calls Try.prog 37 #[.pointer (some ⟨bt, 0, none⟩), .int .i64 i] w6.drew fun e w' => e = .returned (.bool (tBears n f i)) ∧ St W (Sep (Sep (Shade bs bt bp n (tBorn n f i) xs m lost ct) (RSh bx bu n f xs m lost ct)) (Var bo #[.int .i64 6, .int .i64 i, .int .i64 st, .bool hd, .bool sn] 72)) w' ∧ w'.cell? ⟨bo, 1, none⟩ = some (.int .i64 i) ∧ w'.cell? ⟨bx, 0, none⟩ = some (.pointer (some ⟨bu, 0, none⟩))) :=
            ((h6.drewN 1).call (sepL (sepL (sepR (sepL fun S h => tint_born i h))))).mono fun e w' ⟨he, h⟩ => ⟨he, h, (opCellS h).1, rshPtr h.left.right⟩
          have C2 : Hid (∀ w7, St W (Sep (Sep (Shade bs bt bp n (tBorn n f i) xs m lost ct) (RSh bx bu n f xs m lost ct)) (Var bo #[.int .i64 6, .int .i64 i, .int .i64 st, .bool hd, .bool sn] 72)) w7 → Calls Try.prog 38 #[.pointer (some ⟨bu, 0, none⟩), .int .i64 i] w7 fun e w' => e = .returned (.bool (tBears n f i)) ∧ St W (Sep (Sep (Shade bs bt bp n (tBorn n f i) xs m lost ct) (RSh bx bu n (tBorn n f i) xs m lost ct)) (Var bo #[.int .i64 6, .int .i64 i, .int .i64 st, .bool hd, .bool sn] 72)) w') :=
            fun w7 h7 => h7.call (sepL (sepR (sepL fun S h => rtab_born i h)))
          clear h6
          go_region_held3 (fun w' => w'.cell? ⟨bo, 1, none⟩ = some (.int .i64 i) ∧ w'.cell? ⟨bx, 0, none⟩ = some (.pointer (some ⟨bu, 0, none⟩))) (first | exact ⟨v1, vx⟩ | exact x7 | exact x8)
            (first | (go_at_call 37; refine C1.out.mono ?_; rintro e w7 ⟨rfl, h7, x7⟩) | (go_at_call 38; refine (C2.out _ h7).mono ?_; rintro e w8 ⟨rfl, h8⟩; have x8 := (⟨(opCellS h8).1, rshPtr h8.left.right⟩ : _ ∧ _)))
          all_goals
            clear h7 x7 x8 C2
            go_wp2_with fail
            go_meet
            exact ⟨rfl, _, xs, lost, ct, heads_born hu.out, HXL.out, hct0, by omega, h8⟩
        have d6 : (kd == 6) = false := by simpa using k6
        clear k0 k1 k2 k3 k4 k5 k6 v1 v2 v3 v4 vx
        go_wp2_with fail
        go_meet
        exact ⟨rfl, f, xs, lost, ct, hu.out, HXL.out, hct0, by omega, h6⟩
      case rest =>
        as_aux_lemma =>
        clear h6 hu HXL hct0 hct1
        obtain ⟨rfl, f, xs, lost, ct, hu, hxl, hct0, hct1, h9⟩ := hcut
        have HU := Lib.hid hu
        have HXL := Lib.hid hxl
        obtain ⟨v1, -, -, v4⟩ := opCellS h9
        obtain ⟨x0, -, x4, ⟨xa, xc, x2⟩, -, -⟩ := rsh_cells h9.left.right.1.choose_spec.1
        have A1 : Hid (∀ k, Calls Try.prog 52 #[.pointer (some ⟨bs, 0, none⟩)] (wc.drewN k) fun e w'' => e = .returned (.int .i64 (xs.length : Int)) ∧ ∃ m, w'' = wc.drewN m) := fun k => look_quiet ((h9.drewN k).look (lookL (lookL fun S h => shade_len h)))
        have A2 : Hid (∀ k, Calls Try.prog 54 #[.pointer (some ⟨bs, 0, none⟩)] (wc.drewN k) fun e w'' => e = .returned (.int .i64 ct) ∧ ∃ m, w'' = wc.drewN m) := fun k => look_quiet ((h9.drewN k).look (lookL (lookL fun S h => shade_counted h)))
        have A3 : Hid (∀ k, Calls Try.prog 31 #[.pointer (some ⟨bt, 0, none⟩), .int .i64 i, .bool sn] (wc.drewN k) fun e w'' => e = .returned (.bool (tBlack n f i sn)) ∧ ∃ m, w'' = wc.drewN m) := fun k => look_quiet ((h9.drewN k).look (lookL (lookL (lookR (lookL fun S h => tint_black i sn h)))))
        have A4 : Hid (∀ k, Calls Try.prog 44 #[.pointer (some ⟨bu, 0, none⟩), .int .i64 i, .bool sn] (wc.drewN k) fun e w'' => e = .returned (.bool (tBlack n f i sn)) ∧ ∃ m, w'' = wc.drewN m) := fun k => look_quiet ((h9.drewN k).look (lookL (lookR (lookL fun S h => rtab_black i sn h))))
        have H9 := Lib.hid h9.left
        clear h9 hu hxl
        generalize tBlack n f i sn = vb at *
        generalize hL : xs.length = L at A1 x2
        clear hL
        go_wp2_with fail
        go_quiet (first | (go_at_call 52; with_reducible exact A1.out _) | (go_at_call 54; with_reducible exact A2.out _) | (go_at_call 31; with_reducible exact A3.out _) | (go_at_call 44; with_reducible exact A4.out _))
        have h10 := H9.out.drewN nq
        clear H9 A1 A2 A3 A4 v1 v4 x0 x2 x4
        go_wp2_with fail
        go_round
        case rel => exact ⟨q + 1, f, xs, lost, ct, by omega, by go_num, HU, HXL.out, hct0, by omega, h10⟩
        case measure => simp [intOf]; omega
    · obtain rfl : q = len2 := by omega
      go_wp2_with fail
      with_reducible refine (shade_first _).mono ?_
      rintro e w7 ⟨rfl, hb7⟩
      go_wp2_with fail
      go_ret
      exact ⟨rfl, (hs.later hb7).below⟩
theorem shadePlays_all (n m : Int) (a2 : Option Addr) (len2 cap2 : Nat) (W : World) (w2 : IsStructs [false, false, false, true, true] W a2 len2) :
    Calls Try.prog 15 #[.int .i64 n, .int .i64 m, .slice a2 len2 cap2] W fun e w' => e = .returned (.bool true) ∧ Below W.heap.size W w' := by
  by_cases hn : n < 0 ∨ 1024 < n
  · exact shadePlays_no n m a2 len2 cap2 W w2.1 hn
  obtain ⟨k, rfl⟩ : ∃ k : Nat, n = (k : Int) := ⟨n.toNat, by omega⟩
  by_cases hm : m < 1 ∨ 256 < m
  · exact shadePlays_nopile k m a2 len2 cap2 W w2.1 (by omega) hm
  by_cases hlen : (500 : Int) < len2
  · exact shadePlays_long k m a2 len2 cap2 W (by omega) (by omega) (by omega) hlen
  exact shadePlays_walk k m a2 len2 cap2 W w2 (by omega) (by omega) (by omega) (by omega)
end Go.Proofs.Ytcdmlimhkmbiiaa
