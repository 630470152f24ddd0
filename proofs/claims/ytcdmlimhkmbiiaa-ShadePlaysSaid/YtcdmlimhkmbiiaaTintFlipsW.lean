/- The walk of TintFlips. -/
import Derived.Test.YtcdmlimhkmbiiaaTintSetsW
import Derived.Test.YtcdmlimhkmbiiaaSep
import Derived.LoopTactic
import Derived.Deep.QuietTactic
import Derived.BigQuiet
import Derived.Deep.RegionWith
namespace Go.Proofs.Ytcdmlimhkmbiiaa
open Go.RowKit

theorem cnt_congr {f f' : Nat → One} {s : Nat} : ∀ n, (∀ k, k < n → f k = f' k) → cnt f s n = cnt f' s n
  | 0, _ => rfl
  | n + 1, h => by simp only [cnt]; rw [cnt_congr n (fun k hk => h k (by omega)), h n (by omega)]
theorem tab_congr {b n : Nat} {f f' : Nat → One} (h : ∀ k, k < n → f k = f' k) {S : Nat → Prop} {w : World} (ht : (Tab b n f).at_ S w) : (Tab b n f').at_ S w := by
  obtain ⟨g, cs, h1, h2, h3, h4, h5, h6, h7, h8, h9⟩ := ht
  refine ⟨g, cs, by rw [← cnt_congr n h, ← cnt_congr n h, ← cnt_congr n h]; exact h1, h2, ⟨h3.1, fun i hi => by rw [← h i hi]; exact h3.2 i hi⟩, h4, h5, h6, fun i hi => by rw [← h i hi]; exact h7 i hi, h8, h9⟩
theorem St.conv {W w : World} {A B : Thing} (h : St W A w) (hc : ∀ S w, A.at_ S w → B.at_ S w) : St W B w := ⟨⟨_, hc _ _ h.1.choose_spec.1, h.1.choose_spec.2⟩, h.2⟩
theorem Try.info4 : (Try.prog.info? 4).map (fun i => (i.zero, i.size, i.bytes)) = some (some (.bool false), 1, 1) := by kernel_rfl
theorem make_bools (n : Nat) (hn : n ≤ 1024) (w : World) : (Instr.makeSlice 49 (.int .i64 n) (.int .i64 n)).run Try.prog w = .ok (.slice (some ⟨w.heap.size, 0, none⟩) n n) (w.alloc (.cells (madeCells #[.bool false] n) 4)) := by
  obtain ⟨i0, hi, hz0, hz1, hz2⟩ := info_parts Try.info4
  have := run_make (P := Try.prog) w 49 4 i0 _ Try.underlying49 hi hz0 .i64 .i64 n n (by omega) (by omega) (by rw [hz2]; omega) (by omega)
  rw [this, hz1]; simp [Value.cells]

set_option maxHeartbeats 800000 in
theorem tintFlips_no (n : Int) (a1 : Option Addr) (len1 cap1 : Nat) (W : World) (hm : n < 0 ∨ 1024 < n) :
    Calls Try.prog 7 #[.int .i64 n, .slice a1 len1 cap1] W fun e w' => e = .returned (.bool true) ∧ Below W.heap.size W w' := by
  go_enter Try.func7, Try.ntmps7
  go_wp2_with fail
  with_reducible refine (tint_first _).mono ?_
  rintro e wa ⟨rfl, hb0⟩
  go_wp2_with fail
  with_reducible refine (tint_new_no n _ hm).mono ?_
  rintro e wb ⟨rfl, rfl⟩
  clear hm
  go_wp2_with fail
  with_reducible refine (tint_first _).mono ?_
  rintro e wa ⟨rfl, hb1⟩
  go_wp2_with fail
  go_ret
  exact ⟨rfl, hb0.trans (hb1.mono hb0.size)⟩

set_option maxHeartbeats 1600000 in
theorem tintFlips_out (n : Int) (a1 : Option Addr) (len1 cap1 : Nat) (W : World) (h0 : 0 ≤ n) (h1 : n ≤ 1024) (hm : 100 < n ∨ (200 : Int) < len1) :
    Calls Try.prog 7 #[.int .i64 n, .slice a1 len1 cap1] W fun e w' => e = .returned (.bool true) ∧ Below W.heap.size W w' := by
  go_enter Try.func7, Try.ntmps7
  go_wp2_with fail
  with_reducible refine (tint_first _).mono ?_
  rintro e wa ⟨rfl, hb0⟩
  go_wp2_with fail
  with_reducible refine (tint_newI n _ h0 h1).mono ?_
  rintro e wb ⟨b, rfl, hP, hB⟩
  have hs := St.begin hb0 hP hB
  clear hP hB
  go_wp2_with fail
  all_goals
    with_reducible refine (tint_first _).mono ?_
    rintro e wa ⟨rfl, hb1⟩
    go_wp2_with fail
    go_ret
    exact ⟨rfl, (hs.later hb1).below⟩

/-- Whether a number is even, as the program reckons it. -/
def par (q : Nat) : Bool := bits BinOp.and IntKind.i64 (q : Int) 1 == 0
/-- The first q set; all set, those of m marked. -/
def fSet (q : Nat) : Nat → One := fun k => if k < q then ⟨2, par k, true⟩ else blank k
def fMark (m : Nat → Bool) : Nat → One := fun k => ⟨2, par k, !m k⟩

theorem fSet_step {n q : Nat} (h : q < n) : tSet n (fSet q) (q : Int) 2 (par q) true = fSet (q + 1) := by
  rw [tSet_yes h (by omega) (by omega)]
  funext k
  by_cases e : k = q
  · subst e; rw [upd_same]; simp [fSet]
  · rw [upd_other _ _ e]
    have : (k < q + 1) ↔ (k < q) := by omega
    simp [fSet, this]
theorem fSet_black {n q : Nat} (h : q < n) (s : Bool) : tBlack n (fSet n) (q : Int) s = s := by
  rw [tBlack_in h]; simp [fSet, h]
theorem fSet_head {n q : Nat} (h : q < n) : tHead n (fSet n) (q : Int) = par q := by
  rw [tHead_in h]; simp [fSet, h]
theorem fMark_marks {n q : Nat} (m : Nat → Bool) (h : q < n) : tMarks n (fMark m) (q : Int) false = !m q := by
  unfold tMarks; rw [tState_in h, tBlack_in h]; simp [fMark]
theorem fMark_mark {n q : Nat} (m : Nat → Bool) (h : q < n) : tMark n (fMark m) (q : Int) false = fMark (setB m q true) := by
  unfold tMark; rw [fMark_marks m h]
  cases hm : m q with
  | false =>
    simp only [Bool.not_false, if_true, Int.toNat_natCast]
    funext k
    by_cases e : k = q
    · subst e; rw [upd_same]; simp [fMark, setB]
    · rw [upd_other _ _ e]; simp [fMark, setB, e]
  | true =>
    simp only [Bool.not_true, Bool.false_eq_true, if_false]
    funext k
    by_cases e : k = q
    · subst e; simp [fMark, setB, hm]
    · simp [fMark, setB, e]
theorem fMark_out {n : Nat} {i : Int} (m : Nat → Bool) (h : ¬ tIn n i) (s : Bool) : tMarks n (fMark m) i s = false ∧ tMark n (fMark m) i s = fMark m := by
  have : tMarks n (fMark m) i s = false := by unfold tMarks; rw [tState_out h]; rfl
  exact ⟨this, by unfold tMark; rw [this]; rfl⟩
theorem fMark_black {n q : Nat} (m : Nat → Bool) (h : q < n) (s : Bool) : tBlack n (fMark m) (q : Int) s = (s != m q) := by
  rw [tBlack_in h]; simp [fMark]; cases s <;> cases m q <;> rfl
theorem look_quiet {P : Program} {f : FuncId} {args : Array Value} {w : World} {n : Nat} {v : Value}
    (h : Calls P f args (w.drewN n) fun e w' => e = .returned v ∧ w.drewN n = w') : Calls P f args (w.drewN n) fun e w'' => e = .returned v ∧ ∃ m, w'' = w.drewN m :=
  Calls.quiet_of_same (h.mono fun _ _ ⟨he, hw⟩ => ⟨he, hw.symm⟩)
theorem St.drewN {W w : World} {A : Thing} (h : St W A w) (n : Nat) : St W A (w.drewN n) := h.later (below_drewN (Below.refl _ _) n)

set_option maxRecDepth 100000 in
set_option maxHeartbeats 3200000 in
theorem tintFlips_walk (n : Nat) (a1 : Option Addr) (len1 cap1 : Nat) (z1 : List Int) (W : World) (w1 : IsRow .i64 W a1 len1 cap1 z1) (h2 : (n : Int) ≤ 100) (h3 : (len1 : Int) ≤ 200) :
    Calls Try.prog 7 #[.int .i64 n, .slice a1 len1 cap1] W fun e w' => e = .returned (.bool true) ∧ Below W.heap.size W w' := by
  go_enter Try.func7, Try.ntmps7
  go_wp2_with fail
  with_reducible refine (tint_first _).mono ?_
  rintro e wa ⟨rfl, hb0⟩
  go_wp2_with fail
  with_reducible refine (tint_new n _ (by omega)).mono ?_
  rintro e wb ⟨b, rfl, hP, hB⟩
  have hs := St.begin hb0 hP hB
  clear hP hB
  go_wp2_with fail
  go_loopw [7] (fun k w => ∃ q : Nat, q ≤ n ∧ k = .int .i64 q ∧ St W (Tab b n (fSet q)) w) (fun k _ => n - (intOf k).toNat)
  case atStart => exact ⟨0, Nat.zero_le _, rfl, hs.conv fun _ _ h => tab_congr (fun k _ => by simp [fSet]) h⟩
  case round =>
    clear hs
    obtain ⟨q, hq, rfl, hs⟩ := hrel
    by_cases hlt : q < n
    · go_wp2_with fail
      with_reducible refine (hs.call fun S h => tint_set q 2 _ true h).mono ?_
      rintro e w2 ⟨rfl, h5⟩
      have h6 : St W (Tab b n (fSet (q + 1))) w2 := by rw [← fSet_step hlt]; exact h5
      clear hs h5
      go_wp2_with fail
      go_round
      case rel => exact ⟨q + 1, by omega, by go_num, h6⟩
      case measure => simp [intOf]; omega
    · obtain rfl : q = n := by omega
      go_wp2_with fail
      go_loopw [8] (fun k w => ∃ r : Nat, r ≤ q ∧ k = .int .i64 r ∧ St W (Tab b q (fSet q)) w) (fun k _ => q - (intOf k).toNat)
      case atStart => exact ⟨0, Nat.zero_le _, rfl, hs⟩
      case round =>
        clear hs
        obtain ⟨r, hr, rfl, hs⟩ := hrel
        by_cases hlt : r < q
        · have G := Lib.hid (fSet_head hlt)
          unfold par at G
          go_wp2_with fail
          with_reducible refine (hs.look fun S h => tint_black r true h).mono ?_
          rintro e w7 ⟨rfl, rfl⟩
          rw [fSet_black hlt]
          go_wp2_with fail
          with_reducible refine (hs.look fun S h => tint_black r false h).mono ?_
          rintro e w7 ⟨rfl, rfl⟩
          rw [fSet_black hlt]
          go_wp2_with fail
          with_reducible refine (hs.look fun S h => tint_head r h).mono ?_
          rintro e w7 ⟨rfl, rfl⟩
          rw [G.out]
          go_wp2_with fail
          go_round
          case rel => exact ⟨r + 1, by omega, by go_num, hs⟩
          case measure => simp [intOf]; omega
        · obtain rfl : r = q := by omega
          have hmk := make_bools r (by omega)
          go_wp2_with fail
          clear hmk
          have h7 := (hs.conv fun _ _ h => tab_congr (f' := fMark fun _ => false) (fun k hk => by simp [fSet, fMark, hk]) h).bools r 4
          generalize hW2 : wr.alloc (.cells (madeCells #[.bool false] r) 4) = W2 at h7 ⊢
          generalize hQ : wr.heap.size = Q at h7 ⊢
          clear hs hW2 hQ
          obtain ⟨hl1, hl2⟩ := w1.small
          go_loopw [10] (fun k w => ∃ (c : Nat) (m : Nat → Bool), c ≤ len1 ∧ k = .int .i64 c ∧ St W (Sep (Tab b r (fMark m)) (Bools Q r 4 m)) w) (fun k _ => len1 - (intOf k).toNat)
          case atStart => exact ⟨0, _, Nat.zero_le _, rfl, h7⟩
          case round =>
            clear h7
            obtain ⟨c, m, hc, rfl, hs⟩ := hrel
            by_cases hlt : c < len1
            · obtain ⟨ab, off, x, rfl, hab, hx, hc0⟩ := w1.at_ hlt
              clear hx
              have hcl := (hs.below.cell (p := ⟨ab, off + c, none⟩) hab).trans hc0
              by_cases hin : tIn r x
              · obtain ⟨j, rfl⟩ : ∃ j : Nat, x = (j : Int) := ⟨x.toNat, by have := hin.1; omega⟩
                have hj : j < r := by have := hin.2; omega
                have hmj := hs.right.boolCell hj
                have hfj := hs.right.boolFree j
                clear hin
                go_wp2_with fail
                with_reducible refine (hs.call (sepL fun S h => tint_mark j false h)).mono ?_
                rintro e w2 ⟨rfl, h5⟩
                rw [fMark_mark m hj] at h5
                rw [fMark_marks m hj]
                clear hs hcl hmj hfj
                have hcl := (h5.below.cell (p := ⟨ab, off + c, none⟩) hab).trans hc0
                have hmj := h5.right.boolCell hj
                have hfj := h5.right.boolFree j
                have h6 := h5.goes (w' := w2.setCell ⟨Q, j, none⟩ (.bool true)) (goesR fun S h => bools_set h j true)
                clear h5
                go_wp2_with fail
                go_round
                case rel => exact ⟨c + 1, _, by omega, by go_num, h6⟩
                case measure => simp [intOf]; omega
              · obtain ⟨o1, o2⟩ := fMark_out m hin false
                have O1 := Lib.hid o1
                have O2 := Lib.hid o2
                clear o1 o2
                unfold tIn at hin
                by_cases hx0 : 0 ≤ x
                all_goals
                  first | (have d1 : decide (x < (r : Int)) = false := by simp; omega) | (have d1 : decide (0 ≤ x) = false := by simpa using hx0)
                  clear hin
                  go_wp2_with fail
                  with_reducible refine (hs.call (sepL fun S h => tint_mark x false h)).mono ?_
                  rintro e w2 ⟨rfl, h5⟩
                  rw [O2.out] at h5
                  rw [O1.out]
                  clear hs hcl
                  have hcl := (h5.below.cell (p := ⟨ab, off + c, none⟩) hab).trans hc0
                  go_wp2_with fail
                  go_round
                  case rel => exact ⟨c + 1, _, by omega, by go_num, h5⟩
                  case measure => simp [intOf]; omega
            · obtain rfl : c = len1 := by omega
              go_wp2_with fail
              go_loopw [12] (fun k w => ∃ q : Nat, q ≤ r ∧ k = .int .i64 q ∧ St W (Sep (Tab b r (fMark m)) (Bools Q r 4 m)) w) (fun k _ => r - (intOf k).toNat)
              case atStart => exact ⟨0, Nat.zero_le _, rfl, hs⟩
              case round =>
                clear hs
                obtain ⟨q, hq, rfl, hs⟩ := hrel
                by_cases hlt : q < r
                · have hmq := hs.right.boolCell hlt
                  have C1 : Hid (∀ k, Calls Try.prog 31 #[.pointer (some ⟨b, 0, none⟩), .int .i64 (q : Int), .bool false] (wr.drewN k) fun e w'' => e = .returned (.bool (m q)) ∧ ∃ m, w'' = wr.drewN m) := fun k => by
                    refine look_quiet ?_
                    have := (hs.drewN k).look (lookL fun S h => tint_black (q : Int) false h)
                    rw [fMark_black m hlt false] at this
                    simpa using this
                  have C2 : Hid (∀ k, Calls Try.prog 31 #[.pointer (some ⟨b, 0, none⟩), .int .i64 (q : Int), .bool true] (wr.drewN k) fun e w'' => e = .returned (.bool (!m q)) ∧ ∃ m, w'' = wr.drewN m) := fun k => by
                    refine look_quiet ?_
                    have := (hs.drewN k).look (lookL fun S h => tint_black (q : Int) true h)
                    rw [fMark_black m hlt true] at this
                    simpa using this
                  have HS := Lib.hid hs
                  clear hs
                  go_wp2_with fail
                  go_quiet (first | (go_at_call_of 31 (Value.bool false); exact C1.out _) | (go_at_call_of 31 (Value.bool true); exact C2.out _))
                  have h8 := HS.out.drewN nq
                  clear HS C1 C2 hmq
                  go_wp2_with fail
                  go_round
                  case rel => exact ⟨q + 1, by omega, by go_num, h8⟩
                  case measure => simp [intOf]; omega
                · obtain rfl : q = r := by omega
                  go_wp2_with fail
                  with_reducible refine (tint_first _).mono ?_
                  rintro e w7 ⟨rfl, hb7⟩
                  go_wp2_with fail
                  go_ret
                  exact ⟨rfl, (hs.later hb7).below⟩
end Go.Proofs.Ytcdmlimhkmbiiaa
