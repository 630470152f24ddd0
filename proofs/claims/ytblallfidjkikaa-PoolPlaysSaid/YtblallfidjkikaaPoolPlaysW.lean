/- The walk of PoolPlays. -/
import Derived.Test.YtblallfidjkikaaRPool
import Derived.Test.YtblallfidjkikaaPoolOnceW
import Derived.Test.YtblallfidjkikaaArgs
import Derived.Deep.CutBlock
namespace Go.Proofs.Ytblallfidjkikaa
open Go.RowKit
set_option linter.unusedVariables false
set_option linter.unusedSimpArgs false

theorem St.andThing {W w w' : World} {A B : Thing} (h : St W A w) (h2 : St w B w') : St W (Sep A B) w' := h.more ⟨_, h2.1.choose_spec.1, h2.1.choose_spec.2⟩ h2.below
/-- The second one to the front. -/
theorem St.turn {W w : World} {A B C D : Thing} (h : St W (Sep (Sep A (Sep B C)) D) w) : St W (Sep B (Sep C (Sep D A))) w := h.swap.assoc'.swap.assoc
theorem St.back {W w : World} {A B C D E : Thing} (h : St W (Sep (Sep B (Sep C (Sep D A))) E) w) : St W (Sep A (Sep B C)) w := h.left.assoc'.swap.assoc.right

set_option maxRecDepth 100000 in
set_option maxHeartbeats 1600000 in
theorem poolPlays_no (m : Int) (a1 : Option Addr) (len1 cap1 : Nat) (W : World) (hl : len1 ≤ maxLen) (hm : m < 0 ∨ 1024 < m) :
    Calls Try.prog 4 #[.int .i64 m, .slice a1 len1 cap1] W fun e w' => e = .returned (.bool true) ∧ Below W.heap.size W w' := by
  unfold maxLen at hl
  go_enter Try.func4, Try.ntmps4
  go_wp2_with fail
  with_reducible refine (pool_first _).mono ?_
  rintro e wa ⟨rfl, hb0⟩
  go_wp2_with fail
  with_reducible refine (pool_new_no m _ hm).mono ?_
  rintro e wb ⟨rfl, rfl⟩
  go_wp2_with fail
  with_reducible refine (rpool_new_no m _ hm).mono ?_
  rintro e wc ⟨rfl, rfl⟩
  clear hm
  by_cases hlen : (300 : Int) < len1
  · go_wp2_with fail
    with_reducible refine (pool_first _).mono ?_
    rintro e wd ⟨rfl, hb3⟩
    go_wp2_with fail
    go_ret
    exact ⟨rfl, hb0.trans (hb3.mono hb0.size)⟩
  · go_wp2_with fail
    refine wp_loop_rounds 1 ?_
    rw [rounds_succ]
    go_wp2_with fail
    with_reducible refine (pool_first _).mono ?_
    rintro e wd ⟨rfl, hb3⟩
    go_wp2_with fail
    go_ret
    exact ⟨rfl, hb0.trans (hb3.mono hb0.size)⟩
set_option maxRecDepth 100000 in
set_option maxHeartbeats 1600000 in
theorem poolPlays_long (m : Int) (a1 : Option Addr) (len1 cap1 : Nat) (W : World) (hm : 0 ≤ m) (hm2 : m ≤ 1024) (hlen : (300 : Int) < len1) :
    Calls Try.prog 4 #[.int .i64 m, .slice a1 len1 cap1] W fun e w' => e = .returned (.bool true) ∧ Below W.heap.size W w' := by
  go_enter Try.func4, Try.ntmps4
  go_wp2_with fail
  with_reducible refine (pool_first _).mono ?_
  rintro e wa ⟨rfl, hb0⟩
  go_wp2_with fail
  with_reducible refine (pool_newI m _ hm hm2).mono ?_
  rintro e wb ⟨b, g, rfl, hs⟩
  have hs := hs.onward hb0
  clear hb0
  go_wp2_with fail
  with_reducible refine (rpool_newI m _ hm hm2).mono ?_
  rintro e wc ⟨bx, gx, rfl, h2⟩
  have hb2 := hs.later h2.below
  clear h2 hs
  go_wp2_with fail
  with_reducible refine (pool_first _).mono ?_
  rintro e wd ⟨rfl, hb3⟩
  go_wp2_with fail
  go_ret
  exact ⟨rfl, (hb2.later hb3).below⟩

/-- Both pools hold the same, beside the variable that holds the operation. -/
def PPlaysAt (W : World) (b g bx gx n bo : Nat) (kd N : Int) (ok : Value) (w : World) : Prop := ok = .bool true ∧ ∃ f : Nat → Bool, St W (Sep (Pool b g n f) (Sep (RPool bx gx n f) (Var bo #[.int .i64 kd, .int .i64 N] 30))) w

set_option maxRecDepth 100000 in
set_option maxHeartbeats 25600000 in
theorem poolPlays_walk (n : Nat) (a1 : Option Addr) (len1 cap1 : Nat) (W : World) (w1 : IsStructs [false, false] W a1 len1) (hn : (n : Int) ≤ 1024) (hlen : (len1 : Int) ≤ 300) :
    Calls Try.prog 4 #[.int .i64 n, .slice a1 len1 cap1] W fun e w' => e = .returned (.bool true) ∧ Below W.heap.size W w' := by
  have hn4 : n ≤ 1024 := by omega
  go_enter Try.func4, Try.ntmps4
  go_wp2_with fail
  with_reducible refine (pool_first _).mono ?_
  rintro e wa ⟨rfl, hb0⟩
  go_wp2_with fail
  with_reducible refine (pool_new n _ (by omega)).mono ?_
  rintro e wb ⟨b, g, rfl, hs⟩
  have hs := hs.onward hb0
  clear hb0
  go_wp2_with fail
  with_reducible refine (rpool_new n _ (by omega)).mono ?_
  rintro e wc ⟨bx, gx, rfl, h2⟩
  have h3 := hs.andThing h2
  clear h2 hs
  go_wp2_with fail
  go_loopw [9] (fun k w => ∃ (q : Nat) (f : Nat → Bool), q ≤ len1 ∧ k = .int .i64 q ∧ St W (Sep (Pool b g n f) (RPool bx gx n f)) w) (fun k _ => len1 - (intOf k).toNat)
  case atStart => exact ⟨0, full, Nat.zero_le _, rfl, h3⟩
  case round =>
    clear h3
    obtain ⟨q, f, hq, rfl, hs⟩ := hrel
    by_cases hlt : q < len1
    · obtain ⟨ab, off, kd, N, rfl, hab, c0, c1⟩ := w1.two hlt
      have g0 := (hs.below.cell (p := ⟨ab, off + q * 2, none⟩) hab).trans c0
      have g1 := (hs.below.cell (p := ⟨ab, off + q * 2 + 1, none⟩) hab).trans c1
      go_upto_block 2 with fail
      clear g0 g1 c0 c1
      have h6 := (hs.var #[.int .i64 kd, .int .i64 N] 30).assoc
      generalize hV : wr.alloc (.cells #[.int .i64 kd, .int .i64 N] 30) = w6 at h6 ⊢
      generalize hBo : wr.heap.size = bo at h6 ⊢
      clear hs hV hBo
      go_cut [11] (fun ok w => PPlaysAt W b g bx gx n bo kd N ok w)
      case first =>
        obtain ⟨v0, v1⟩ := opCell h6.right.right
        by_cases k0 : kd = 0
        · as_aux_lemma =>
          subst k0
          go_wp2_with fail
          clear v0
          have hlx : (tkL n f N).length ≤ 1000000 := by have := (took_take n f N).2.2.2; have := cnt_le n f; omega
          have HLX := Lib.hid hlx
          clear hlx
          with_reducible refine (pool_take N hn4 h6).mono ?_
          rintro e w7 ⟨v, rfl, h7⟩
          have v1 := (opCell h7.left.right.right).2
          have h7 := h7.turn
          clear h6
          go_wp2_with fail
          with_reducible refine (rpool_take N hn4 h7).mono ?_
          rintro e w8 ⟨u, rfl, h8⟩
          have HI := Lib.hid (ints_eq (isInts_row h8.left.right.right.left.row) (isInts_row h8.right.row) HLX.out)
          have H8 := Lib.hid h8.back
          clear h7 v1 h8
          go_wp2_with fail
          have HI2 := HI.out
          simp only [decide_true] at HI2
          refine HI2.mono ?_
          rintro e w9 ⟨rfl, m, rfl⟩
          clear HI HI2
          go_wp2_with fail
          go_meet
          exact ⟨rfl, _, H8.out.drewN m⟩
        have d0 : (kd == 0) = false := by simpa using k0
        by_cases k1 : kd = 1
        · as_aux_lemma =>
          subst k1
          clear k0 d0
          go_wp2_with fail
          clear v0
          have hlx : (lowL f N.toNat n).length ≤ 1000000 := by rw [lowL_len]; have := cnt_le n f; omega
          have HLX := Lib.hid hlx
          clear hlx
          have C1 : Hid (Calls Try.prog 10 #[.pointer (some ⟨b, 0, none⟩), .int .i64 N] w6.drew fun e w' => ∃ v, e = .returned v ∧ St W (Sep (Sep (Pool b g n (lowF f N.toNat n)) (Sep (RPool bx gx n f) (Var bo #[.int .i64 1, .int .i64 N] 30))) (RowT v (lowL f N.toNat n))) w' ∧ w'.cell? ⟨bo, 1, none⟩ = some (.int .i64 N)) :=
            (pool_low N hn4 (h6.drewN 1)).mono fun e w' ⟨v, he, h⟩ => ⟨v, he, h, (opCell h.left.right.right).2⟩
          clear h6
          go_region_held3 (fun w' => w'.cell? ⟨bo, 1, none⟩ = some (.int .i64 N)) (first | exact v1 | exact x7 | exact x8 | exact x9)
            (first | (go_at_call 10; refine C1.out.mono ?_; rintro e w7 ⟨v7, rfl, h7, x7⟩) | (go_at_call 16; refine (rpool_low N hn4 h7.turn).mono ?_; rintro e w8 ⟨v8, rfl, h8⟩; have x8 := (opCell h8.left.right.left).2) | (go_at_call 15; refine (ints_eq (isInts_row h8.left.right.right.left.row) (isInts_row h8.right.row) HLX.out).mono ?_; rintro e w9 ⟨rfl, m9, rfl⟩; have h9 := h8.back.drewN m9; have x9 := (opCell h9.right.right).2))
          all_goals
            clear h7 h8 x7 x8 x9
            go_wp2_with fail
            go_meet
            exact ⟨by simp, _, h9⟩
        have d1 : (kd == 1) = false := by simpa using k1
        by_cases k2 : kd = 2
        · as_aux_lemma =>
          subst k2
          clear k0 d0 k1 d1
          go_wp2_with fail
          clear v0
          have C1 : Hid (Calls Try.prog 11 #[.pointer (some ⟨b, 0, none⟩), .int .i64 N] w6.drew fun e w' => e = .returned (.bool (gB n f N)) ∧ St W (Sep (Pool b g n (gF n f N)) (Sep (RPool bx gx n f) (Var bo #[.int .i64 2, .int .i64 N] 30))) w' ∧ w'.cell? ⟨bo, 1, none⟩ = some (.int .i64 N)) :=
            ((h6.drewN 1).call (sepL fun S h => pool_give N hn4 h)).mono fun e w' ⟨he, h⟩ => ⟨he, h, (opCell h.right.right).2⟩
          clear h6
          go_region_held3 (fun w' => w'.cell? ⟨bo, 1, none⟩ = some (.int .i64 N)) (first | exact v1 | exact x7 | exact x8)
            (first | (go_at_call 11; refine C1.out.mono ?_; rintro e w7 ⟨rfl, h7, x7⟩) | (go_at_call 17; refine (h7.call (sepR (sepL fun S h => rpool_give N hn4 h))).mono ?_; rintro e w8 ⟨rfl, h8⟩; have x8 := (opCell h8.right.right).2))
          all_goals
            clear h7 x7 x8
            go_wp2_with fail
            go_meet
            exact ⟨rfl, _, h8⟩
        have d2 : (kd == 2) = false := by simpa using k2
        clear k0 k1 k2 v1
        go_wp2_with fail
        go_meet
        exact ⟨rfl, _, h6⟩
      case rest =>
        as_aux_lemma =>
        clear h6
        obtain ⟨rfl, f, h9⟩ := hcut
        have v1 := (opCell h9.right.right).2
        have C1 := Lib.hid (h9.look (lookL fun S h => pool_run N hn4 h))
        have C2 := Lib.hid (h9.look (lookR (lookL fun S h => rpool_run N hn4 h)))
        have A1 : Hid (∀ k, Calls Try.prog 12 #[.pointer (some ⟨b, 0, none⟩)] (wc.drewN k) fun e w'' => e = .returned (.int .i64 (cnt n f)) ∧ ∃ m, w'' = wc.drewN m) := fun k => look_quiet ((h9.drewN k).look (lookL fun S h => pool_free h))
        have A2 : Hid (∀ k, Calls Try.prog 20 #[.pointer (some ⟨bx, 0, none⟩)] (wc.drewN k) fun e w'' => e = .returned (.int .i64 (cnt n f)) ∧ ∃ m, w'' = wc.drewN m) := fun k => look_quiet ((h9.drewN k).look (lookR (lookL fun S h => rpool_free hn4 h)))
        have A3 : Hid (∀ k, Calls Try.prog 21 #[.pointer (some ⟨b, 0, none⟩), .int .i64 N] (wc.drewN k) fun e w'' => e = .returned (.bool (pH n f N)) ∧ ∃ m, w'' = wc.drewN m) := fun k => look_quiet ((h9.drewN k).look (lookL fun S h => pool_has N hn4 h))
        have A4 : Hid (∀ k, Calls Try.prog 22 #[.pointer (some ⟨bx, 0, none⟩), .int .i64 N] (wc.drewN k) fun e w'' => e = .returned (.bool (pH n f N)) ∧ ∃ m, w'' = wc.drewN m) := fun k => look_quiet ((h9.drewN k).look (lookR (lookL fun S h => rpool_has N hn4 h)))
        have H9 := Lib.hid h9.assoc'.left
        clear h9
        generalize rV n f N = rv at *
        generalize rB n f N = rb at *
        generalize cnt n f = ct at *
        generalize pH n f N = ph at *
        go_wp2_with fail
        with_reducible refine C1.out.mono ?_
        rintro e w10 ⟨rfl, rfl⟩
        clear C1
        go_wp2_with fail
        with_reducible refine C2.out.mono ?_
        rintro e w10 ⟨rfl, rfl⟩
        clear C2
        go_wp2_with fail
        go_quiet (first | (go_at_call 12; with_reducible exact A1.out _) | (go_at_call 20; with_reducible exact A2.out _) | (go_at_call 21; with_reducible exact A3.out _) | (go_at_call 22; with_reducible exact A4.out _))
        have h10 := H9.out.drewN nq
        clear H9 A1 A2 A3 A4 v1
        go_wp2_with fail
        go_round
        case rel => exact ⟨q + 1, f, by omega, by go_num, h10⟩
        case measure => simp [intOf]; omega
    · obtain rfl : q = len1 := by omega
      go_wp2_with fail
      with_reducible refine (pool_first _).mono ?_
      rintro e w7 ⟨rfl, hb7⟩
      go_wp2_with fail
      go_ret
      exact ⟨rfl, (hs.later hb7).below⟩
theorem poolPlays_all (n : Int) (a1 : Option Addr) (len1 cap1 : Nat) (W : World) (w1 : IsStructs [false, false] W a1 len1) :
    Calls Try.prog 4 #[.int .i64 n, .slice a1 len1 cap1] W fun e w' => e = .returned (.bool true) ∧ Below W.heap.size W w' := by
  by_cases hm : n < 0 ∨ 1024 < n
  · exact poolPlays_no n a1 len1 cap1 W w1.1 hm
  by_cases hlen : (300 : Int) < len1
  · exact poolPlays_long n a1 len1 cap1 W (by omega) (by omega) hlen
  obtain ⟨k, rfl⟩ : ∃ k : Nat, n = (k : Int) := ⟨n.toNat, by omega⟩
  exact poolPlays_walk k a1 len1 cap1 W w1 (by omega) (by omega)
end Go.Proofs.Ytblallfidjkikaa
