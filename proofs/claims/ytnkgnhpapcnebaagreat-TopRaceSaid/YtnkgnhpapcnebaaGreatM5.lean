/- The contracts of packages num and word, at small whole parts. -/
import Derived.Test.YtnkgnhpapcnebaaGreatM3
import Derived.Laws.Externs
import Derived.Test.YtnkgnhpapcnebaaGreatM4
set_option linter.unusedVariables false
set_option linter.unusedSimpArgs false
set_option maxHeartbeats 8000000
namespace Go.Proofs.YtnkgnhpapcnebaaGreat
open Go.RowKit
/-- The bits of a small whole number. -/
def fl (k : Nat) : Nat := floatOfInt .f64 (k : Int)
set_option maxRecDepth 100000 in
theorem fl0 : fl 0 = 0 := by kernel_rfl
set_option maxRecDepth 100000 in
theorem fl1 : fl 1 = 4607182418800017408 := by kernel_rfl
/-- No NaN. -/
def okf (x : Nat) : Prop := (FloatKind.f64.format.order x x != some Ordering.eq) = false
set_option maxRecDepth 100000 in
theorem all17 {p : Nat → Bool} (h : (List.range 18).all p = true) (k : Nat) (hk : k ≤ 17) : p k = true := List.all_eq_true.1 h k (List.mem_range.2 (by omega))
set_option maxRecDepth 100000 in
theorem okf_fl (k : Nat) (hk : k ≤ 17) : okf (fl k) := by
  have := all17 (p := fun k => !(FloatKind.f64.format.order (fl k) (fl k) != some Ordering.eq)) (by kernel_rfl) k hk
  simpa [okf] using this
set_option maxRecDepth 100000 in
theorem ge_fl (k : Nat) (hk : k ≤ 17) : (FloatKind.f64.format.order (fl k) 14069245235905429504 == some Ordering.gt || FloatKind.f64.format.order (fl k) 14069245235905429504 == some Ordering.eq) = true :=
  all17 (p := fun k => (FloatKind.f64.format.order (fl k) 14069245235905429504 == some Ordering.gt || FloatKind.f64.format.order (fl k) 14069245235905429504 == some Ordering.eq)) (by kernel_rfl) k hk
set_option maxRecDepth 100000 in
theorem le_fl (k : Nat) (hk : k ≤ 17) : (FloatKind.f64.format.order (fl k) 4845873199050653696 == some Ordering.lt || FloatKind.f64.format.order (fl k) 4845873199050653696 == some Ordering.eq) = true :=
  all17 (p := fun k => (FloatKind.f64.format.order (fl k) 4845873199050653696 == some Ordering.lt || FloatKind.f64.format.order (fl k) 4845873199050653696 == some Ordering.eq)) (by kernel_rfl) k hk
set_option maxRecDepth 100000 in
theorem int_fl (k : Nat) (hk : k ≤ 17) : floatToIntVal .f64 (fl k) .i64 = some (k : Int) := by
  have := all17 (p := fun k => decide (floatToIntVal .f64 (fl k) .i64 = some (k : Int))) (by kernel_rfl) k hk
  simpa using this
set_option maxRecDepth 100000 in
theorem fl_inj (k j : Nat) (hk : k ≤ 17) (hj : j ≤ 17) : (((fl k : Nat) : Int) == ((fl j : Nat) : Int)) = (k == j) := by
  have := all17 (p := fun k => (List.range 18).all fun j => ((((fl k : Nat) : Int) == ((fl j : Nat) : Int)) == (k == j))) (by kernel_rfl) k hk
  have := all17 this j hj
  simpa using this
set_option maxRecDepth 100000 in
theorem of_fl (n : Int) (k : Nat) (h : n = (k : Int)) : floatOfInt .f64 n = fl k := by subst h; rfl
set_option maxRecDepth 100000 in
theorem okf0 : okf 0 := by have := okf_fl 0 (by omega); rwa [fl0] at this
/-- k + i·√-1. -/
def cx (k i : Nat) : Value := .complex .f64 (fl k) (fl i)
def vNone : Value := .complex .f64 0 4607182418800017408
set_option maxRecDepth 100000 in
theorem cx01 : cx 0 1 = vNone := by unfold cx; rw [fl0, fl1]; rfl
set_option maxRecDepth 100000 in
theorem bits_run (b : Nat) (w : World) : (callFunc 56 #[.float .f64 b]).run Tryz.prog w = .ok (.value (.int .u64 b)) w := by
  rw [run_callFunc_extern (e := Extern.MathFloatBits.float64bits) Tryz.func56 (by kernel_rfl) (by kernel_rfl) (by kernel_rfl) (by kernel_rfl)]
  rfl
set_option maxRecDepth 100000 in
theorem num_part (x : Nat) (w : World) (ho : okf x) : Calls Tryz.prog 265 #[.float .f64 x] w fun e w' => e = .returned (.int .u64 x) ∧ w = w' := by
  have hb := bits_run x w
  unfold okf at ho
  go_enter Tryz.func265, Tryz.ntmps265
  go_wp2_with fail
  go_ret
  exact ⟨rfl, rfl⟩
set_option maxRecDepth 100000 in
theorem num_bits (x y : Nat) (w : World) (hx : okf x) (hy : okf y) : Calls Tryz.prog 212 #[.complex .f64 x y] w fun e w' => e = .returned (.tuple #[.int .u64 x, .int .u64 y]) ∧ w = w' := by
  go_enter Tryz.func212, Tryz.ntmps212
  go_wp2_with fail
  with_reducible refine (num_part x _ hx).mono ?_
  rintro e w' ⟨rfl, rfl⟩
  go_wp2_with fail
  with_reducible refine (num_part y _ hy).mono ?_
  rintro e w' ⟨rfl, rfl⟩
  go_wp2_with fail
  go_ret2
  exact ⟨rfl, rfl⟩
def sameB (p q r s : Nat) : Bool := ((p : Int) == (r : Int)) && ((q : Int) == (s : Int))
set_option maxRecDepth 100000 in
theorem num_same (p q r s : Nat) (w : World) (hp : okf p) (hq : okf q) (hr : okf r) (hs : okf s) : Calls Tryz.prog 142 #[.complex .f64 p q, .complex .f64 r s] w fun e w' => e = .returned (.bool (sameB p q r s)) ∧ w = w' := by
  unfold sameB
  cases hpr : ((p : Int) == (r : Int))
  all_goals
    have HP := Lib.hid hp
    have HQ := Lib.hid hq
    have HR := Lib.hid hr
    have HS := Lib.hid hs
    clear hp hq hr hs
    go_enter Tryz.func142, Tryz.ntmps142
    go_wp2_with fail
    with_reducible refine (num_bits p q _ HP.out HQ.out).mono ?_
    rintro e w' ⟨rfl, rfl⟩
    go_wp2_with fail
    with_reducible refine (num_bits r s _ HR.out HS.out).mono ?_
    rintro e w' ⟨rfl, rfl⟩
    go_wp2_with fail
    go_ret
    exact ⟨by simp, rfl⟩
set_option maxRecDepth 100000 in
theorem sameB_fl (k i j m : Nat) (h1 : k ≤ 17) (h2 : i ≤ 17) (h3 : j ≤ 17) (h4 : m ≤ 17) : sameB (fl k) (fl i) (fl j) (fl m) = (k == j && i == m) := by
  unfold sameB; rw [fl_inj k j h1 h3, fl_inj i m h2 h4]
set_option maxRecDepth 100000 in
theorem num_same_cx (k i j m : Nat) (w : World) (h1 : k ≤ 17) (h2 : i ≤ 17) (h3 : j ≤ 17) (h4 : m ≤ 17) : Calls Tryz.prog 142 #[cx k i, cx j m] w fun e w' => e = .returned (.bool (k == j && i == m)) ∧ w = w' := by
  rw [← sameB_fl k i j m h1 h2 h3 h4]
  exact num_same _ _ _ _ w (okf_fl k h1) (okf_fl i h2) (okf_fl j h3) (okf_fl m h4)
set_option maxRecDepth 100000 in
theorem num_whole (k : Nat) (w : World) (hk : k ≤ 2000) : Calls Tryz.prog 185 #[.int .i64 (k : Int)] w fun e w' => e = .returned (.complex .f64 (fl k) 0) ∧ w = w' := by
  go_enter Tryz.func185, Tryz.ntmps185
  go_wp2_with fail
  go_ret
  exact ⟨rfl, rfl⟩
set_option maxRecDepth 100000 in
theorem num_int (k : Nat) (w : World) (hk : k ≤ 17) : Calls Tryz.prog 141 #[.complex .f64 (fl k) 0] w fun e w' => e = .returned (.tuple #[.int .i64 k, .bool true]) ∧ w = w' := by
  have h1 := ge_fl k hk
  have h2 := le_fl k hk
  have h3 : ∀ w, (convert 29 3 (.float .f64 (fl k))).run Tryz.prog w = .ok (.int .i64 (k : Int)) w := fun w => run_convert_float_int w 29 3 .f64 .i64 _ _ (by kernel_rfl) Tryz.underlying3 (int_fl k hk)
  have HS := Lib.hid (fun w => num_same (fl k) 0 (fl k) 0 w (okf_fl k hk) okf0 (okf_fl k hk) okf0)
  simp only [show sameB (fl k) 0 (fl k) 0 = true by simp [sameB]] at HS
  generalize hf : fl k = x at *
  have HF := Lib.hid hf
  clear hf
  go_enter Tryz.func141, Tryz.ntmps141
  go_wp2_with fail
  with_reducible refine (num_whole k _ (by omega)).mono ?_
  rintro e w' ⟨rfl, rfl⟩
  rw [HF.out]
  clear HF
  go_wp2_with fail
  with_reducible refine (HS.out _).mono ?_
  rintro e w' ⟨rfl, rfl⟩
  go_wp2_with fail
  go_ret2
  exact ⟨rfl, rfl⟩
set_option maxRecDepth 100000 in
theorem word_none (w : World) : Calls Tryz.prog 38 #[] w fun e w' => e = .returned vNone ∧ w = w' := by
  go_enter Tryz.func38, Tryz.ntmps38
  go_wp2_with fail
  go_ret
  exact ⟨rfl, rfl⟩
set_option maxRecDepth 100000 in
theorem word_ref (i : Nat) (w : World) (hi : i ≤ 2000) : Calls Tryz.prog 143 #[.int .i64 (i : Int)] w fun e w' => e = .returned (cx (i + 1) 1) ∧ w = w' := by
  have e1 : cx (i + 1) 1 = .complex .f64 (floatOfInt .f64 ((i : Int) + 1)) 4607182418800017408 := by unfold cx; rw [fl1]; rfl
  rw [e1]
  clear e1
  go_enter Tryz.func143, Tryz.ntmps143
  go_wp2_with fail
  go_ret
  exact ⟨rfl, rfl⟩
set_option maxRecDepth 100000 in
theorem word_head (k m : Nat) (w : World) (hk : k ≤ 2000) (hm : m ≤ 2000) : Calls Tryz.prog 250 #[.int .i64 (k : Int), .int .i64 (m : Int)] w fun e w' => e = .returned (cx k m) ∧ w = w' := by
  go_enter Tryz.func250, Tryz.ntmps250
  go_wp2_with fail
  go_ret
  exact ⟨rfl, rfl⟩
/-- What Index tells. -/
def ixB (k i : Nat) : Bool := decide (1 ≤ k) && i == 1
def ixI (k i : Nat) : Nat := if ixB k i then k - 1 else 0
set_option maxRecDepth 100000 in
theorem word_index0 (i : Nat) (w : World) (hi : i ≤ 17) : Calls Tryz.prog 87 #[cx 0 i] w fun e w' => e = .returned (.tuple #[.int .i64 0, .bool false]) ∧ w = w' := by
  unfold cx
  go_enter Tryz.func87, Tryz.ntmps87
  go_wp2_with fail
  with_reducible refine (num_int 0 _ (by omega)).mono ?_
  rintro e w' ⟨rfl, rfl⟩
  go_wp2_with fail
  go_ret2
  exact ⟨rfl, rfl⟩
set_option maxRecDepth 100000 in
theorem word_index1 (k i : Nat) (w : World) (h1 : 1 ≤ k) (hk : k ≤ 17) (hi : i ≤ 17) : Calls Tryz.prog 87 #[cx k i] w fun e w' => e = .returned (.tuple #[.int .i64 (ixI k i), .bool (ixB k i)]) ∧ w = w' := by
  have HS := Lib.hid (fun w => num_same_cx k i k 1 w hk hi hk (by omega))
  have HN := Lib.hid (fun w => num_int k w hk)
  have HR := Lib.hid (fun w => word_ref (k - 1) w (by omega))
  have hb : ixB k i = (i == 1) := by simp [ixB, h1]
  have hI : ((ixI k i : Nat) : Int) = if (i == 1) = true then (k : Int) - 1 else 0 := by simp only [ixI, hb]; split <;> omega
  rw [hb, hI]
  simp only [beq_self_eq_true, Bool.true_and] at HS
  rw [show k - 1 + 1 = k by omega, show ((k - 1 : Nat) : Int) = (k : Int) - 1 by omega] at HR
  have hk1 : (1 : Int) ≤ k := by omega
  have hk2 : (k : Int) ≤ 17 := by omega
  unfold cx at *
  generalize fl k = x at *
  generalize fl i = y at *
  generalize (k : Int) = n at *
  clear hb hI h1 hk
  generalize (i == 1) = bb at *
  cases bb
  all_goals
    go_enter Tryz.func87, Tryz.ntmps87
    go_wp2_with fail
    with_reducible refine (HN.out _).mono ?_
    rintro e w' ⟨rfl, rfl⟩
    go_wp2_with fail
    with_reducible refine (HR.out _).mono ?_
    rintro e w' ⟨rfl, rfl⟩
    go_wp2_with fail
    with_reducible refine (HS.out _).mono ?_
    rintro e w' ⟨rfl, rfl⟩
    go_wp2_with fail
    go_ret2
    exact ⟨by simp, rfl⟩
set_option maxRecDepth 100000 in
theorem word_index (k i : Nat) (w : World) (hk : k ≤ 17) (hi : i ≤ 17) : Calls Tryz.prog 87 #[cx k i] w fun e w' => e = .returned (.tuple #[.int .i64 (ixI k i), .bool (ixB k i)]) ∧ w = w' := by
  cases k with
  | zero => exact word_index0 i w hi
  | succ j => exact word_index1 (j + 1) i w (by omega) hk hi
set_option maxRecDepth 100000 in
theorem word_is (k i : Nat) (w : World) (hk : k ≤ 17) (hi : i ≤ 17) : Calls Tryz.prog 181 #[cx k i] w fun e w' => e = .returned (.bool (i == 1)) ∧ w = w' := by
  have H1 := Lib.hid (fun w => word_index k i w hk hi)
  have H2 := Lib.hid (fun w => num_same_cx k i 0 1 w hk hi (by omega) (by omega))
  rw [cx01] at H2
  have HB : ixB k i = true → (i == 1) = true := by unfold ixB; simp
  have HC : ixB k i = false → (k == 0 && i == 1) = (i == 1) := by unfold ixB; simp; intro h; by_cases e : k = 0 <;> simp [e]; intro h2; exact absurd (h (by omega)) (by simpa using h2)
  generalize ixB k i = b at *
  generalize ixI k i = x at *
  unfold cx at *
  cases b with
  | true =>
    rw [HB rfl]
    clear HB HC
    go_enter Tryz.func181, Tryz.ntmps181
    go_wp2_with fail
    with_reducible refine (H1.out _).mono ?_
    rintro e w' ⟨rfl, rfl⟩
    go_wp2_with fail
    go_ret
    exact ⟨rfl, rfl⟩
  | false =>
    rw [HC rfl] at H2
    clear HB HC
    go_enter Tryz.func181, Tryz.ntmps181
    go_wp2_with fail
    with_reducible refine (H1.out _).mono ?_
    rintro e w' ⟨rfl, rfl⟩
    go_wp2_with fail
    with_reducible refine (word_none _).mono ?_
    rintro e w' ⟨rfl, rfl⟩
    go_wp2_with fail
    with_reducible refine (H2.out _).mono ?_
    rintro e w' ⟨rfl, rfl⟩
    go_wp2_with fail
    go_ret
    exact ⟨by simp, rfl⟩
set_option maxRecDepth 100000 in
theorem word_tell (k m : Nat) (w : World) (hk : k ≤ 17) (hm : m ≤ 17) : Calls Tryz.prog 123 #[cx k m] w fun e w' => e = .returned (.tuple #[.int .i64 k, .int .i64 m, .bool true]) ∧ w = w' := by
  have H1 := Lib.hid (fun w => num_int k w hk)
  have H2 := Lib.hid (fun w => num_int m w hm)
  unfold cx at *
  generalize fl k = x at *
  generalize fl m = y at *
  go_enter Tryz.func123, Tryz.ntmps123
  go_wp2_with fail
  with_reducible refine (H1.out _).mono ?_
  rintro e w' ⟨rfl, rfl⟩
  go_wp2_with fail
  with_reducible refine (H2.out _).mono ?_
  rintro e w' ⟨rfl, rfl⟩
  go_wp2_with fail
  go_ret3
  exact ⟨rfl, rfl⟩
set_option maxRecDepth 100000 in
/-- sporef.Word: a number is itself. -/
theorem ref_part (x : Nat) (w : World) (h : (decide ((18437736874454810624 : Int) < IntKind.u64.wrap ((x : Int) * 2)) = false)) : Calls Tryz.prog 17 #[.float .f64 x] w fun e w' => e = .returned (.int .u64 x) ∧ w = w' := by
  have hb := bits_run x w
  go_enter Tryz.func17, Tryz.ntmps17
  go_wp2_with fail
  go_ret
  exact ⟨rfl, rfl⟩
end Go.Proofs.YtnkgnhpapcnebaaGreat
/- The contracts of package find: an object's field in its first fragment. -/
namespace Go.Proofs.YtnkgnhpapcnebaaGreat
open Go.RowKit
attribute [local go_sem] run_store_complex
set_option maxRecDepth 100000 in
theorem Goes.is {O : Thing} {S : Nat → Prop} {w w' : World} (h : Goes O S w w') : O.at_ h.now.choose w' := h.now.choose_spec.1
structure Fd where
  head : Nat
  k : Nat
  pc : Int
  at_ : Int
  ref : Bool
  steps : Int
def fdCells (c : Cf) (g cap : Nat) (f : Fd) : Array Value := #[.int .i64 c.frags, .int .i64 c.spine, .int .i64 c.globals, .int .i64 c.threads, .int .i64 c.locals, .int .i64 0, .int .i64 c.stack, .int .i64 c.low, .slice (some ⟨g, 0, none⟩) c.shapes.length cap,
  .int .i64 (f.head : Int), .int .i64 (f.k : Int), .bool false, .int .i64 f.pc, .int .i64 (f.head : Int), .int .i64 0, .int .i64 0, .int .i64 0, .int .i64 0, .int .i64 0, .int .i64 f.at_, .bool f.ref, .int .i64 0, .int .i64 f.steps]
/-- A program that finds a field. -/
def Find (b : Nat) (c : Cf) (g cap : Nat) (f : Fd) : Thing := Sep (Var b (fdCells c g cap f) 295) (Conf c g cap)
section
variable {c : Cf} {b g cap : Nat} {f : Fd} {bm gm n : Nat} {m : Nat → Value} {S : Nat → Prop} {w w' : World} {X : Thing}
set_option maxRecDepth 100000 in
theorem fd9 (h : Goes (Find b c g cap f) S w w') :
    w'.cell? ⟨b, 0, none⟩ = some (.int .i64 c.frags) ∧ w'.cell? ⟨b, 1, none⟩ = some (.int .i64 c.spine) ∧ w'.cell? ⟨b, 2, none⟩ = some (.int .i64 c.globals) ∧ w'.cell? ⟨b, 3, none⟩ = some (.int .i64 c.threads) ∧
    w'.cell? ⟨b, 4, none⟩ = some (.int .i64 c.locals) ∧ w'.cell? ⟨b, 5, none⟩ = some (.int .i64 0) ∧ w'.cell? ⟨b, 6, none⟩ = some (.int .i64 c.stack) ∧ w'.cell? ⟨b, 7, none⟩ = some (.int .i64 c.low) ∧ w'.cell? ⟨b, 8, none⟩ = some (.slice (some ⟨g, 0, none⟩) c.shapes.length cap) :=
  ⟨h.c 0 rfl, h.c 1 rfl, h.c 2 rfl, h.c 3 rfl, h.c 4 rfl, h.c 5 rfl, h.c 6 rfl, h.c 7 rfl, h.c 8 rfl⟩
set_option maxRecDepth 100000 in
theorem find_field (head k : Nat) (hc : c.ok) (h : (Conf c g cap).at_ S w) :
    Calls Tryz.prog 240 #[cfV c g cap, .int .i64 (head : Int), .int .i64 (k : Int)] w fun e w' => ∃ b g' cap', e = .returned (.pointer (some ⟨b, 0, none⟩)) ∧ St w (Find b c g' cap' ⟨head, k, 0, -1, false, 0⟩) w' := by
  have hb0 : Below w.heap.size w (w.alloc (.cells (cfCells c (.slice (some ⟨g, 0, none⟩) c.shapes.length cap)) 36)) := (Below.refl w.heap.size w).alloc (Nat.le_refl _) _
  have C0 : Blk (w.alloc (.cells (cfCells c (.slice (some ⟨g, 0, none⟩) c.shapes.length cap)) 36)) w.heap.size (cfCells c (.slice (some ⟨g, 0, none⟩) c.shapes.length cap)) 36 := Blk.new w _ _
  have HB0 := Lib.hid hb0
  have HC0 := Lib.hid C0
  have HK := Lib.hid (fun w' hb => conf_copy hc (keep (w' := w') h hb))
  unfold cfV at *
  simp only [cfCells] at *
  clear h hc hb0
  go_enter Tryz.func240, Tryz.ntmps240
  go_upto_region 1 with fail
  generalize w.alloc _ = W1 at *
  obtain ⟨c0, c1, c2, c3, c4, c5, c6, c7, c8⟩ := cf9 C0
  clear C0
  go_wp2_with fail
  with_reducible refine (HK.out _ HB0.out).mono ?_
  rintro e w9 ⟨g', cap', rfl, hs⟩
  have hs := hs.onward HB0.out
  have hs2 := Lib.hid ((hs.var (fdCells c g' cap' ⟨head, k, 0, -1, false, 0⟩) 295).swap)
  clear c0 c1 c2 c3 c4 c5 c6 c7 c8 HK HB0 HC0 hs
  unfold cfV
  simp only [fdCells] at hs2
  go_wp2_with fail
  go_ret
  exact ⟨_, g', cap', rfl, hs2.out⟩
set_option maxRecDepth 100000 in
theorem find_read (i k : Nat) (hc : c.ok) (hi : i < c.frags) (hk : k < 8) (hn : i * 8 + k < n) (hn2 : n ≤ 20000) (h : (Sep (Find b c g cap f) (Mem bm gm n m)).at_ S w) :
    Calls Tryz.prog 287 #[.pointer (some ⟨b, 0, none⟩), .pointer (some ⟨bm, 0, none⟩), .int .i64 (i : Int), .int .i64 (k : Int)] w fun e w' => e = .returned (.tuple #[m (i * 8 + k), .bool true]) ∧ Goes (Sep (Find b c g cap f) (Mem bm gm n m)) S w w' := by
  have g0 := Goes.begin h
  obtain ⟨c0, c1, c2, c3, c4, c5, c6, c7, c8⟩ := fd9 g0.l
  have HA := Lib.hid (area_frag i k hc g0.l.r.is hi hk)
  have G0 := Lib.hid g0
  clear g0 h hc
  unfold cfV at *
  go_enter Tryz.func287, Tryz.ntmps287
  go_wp2_with fail
  with_reducible refine (HA.out).mono ?_
  rintro e w1 ⟨rfl, hb⟩
  have G1 := G0.out.below_ hb
  have HM := Lib.hid (G1.call (sepR fun S h => mem_read (i * 8 + k) h hn hn2))
  rw [show (((i * 8 + k : Nat)) : Int) = (i : Int) * 8 + k by omega] at HM
  clear c0 c1 c2 c3 c4 c5 c6 c7 c8 G0 hb HA G1
  go_wp2_with fail
  with_reducible refine (HM.out).mono ?_
  rintro e w2 ⟨rfl, hg⟩
  have G2 := Lib.hid hg
  clear hg HM
  go_wp2_with fail
  go_ret2
  exact ⟨rfl, G2.out⟩
set_option maxRecDepth 100000 in
theorem find_stands (i k : Nat) (hc : c.ok) (hi : i < c.frags) (hk : k < 8) (h : (Find b c g cap f).at_ S w) :
    Calls Tryz.prog 289 #[.pointer (some ⟨b, 0, none⟩), .int .i64 (i : Int), .int .i64 (k : Int)] w fun e w' => e = .returned (.bool true) ∧ Goes (Find b c g cap { f with pc := 6, at_ := ((i * 8 + k : Nat) : Int) }) S w w' := by
  have g0 := Goes.begin h
  obtain ⟨c0, c1, c2, c3, c4, c5, c6, c7, c8⟩ := fd9 g0
  have HA := Lib.hid (area_frag i k hc g0.r.is hi hk)
  have G0 := Lib.hid g0
  clear g0 h hc
  unfold cfV at *
  go_enter Tryz.func289, Tryz.ntmps289
  go_wp2_with fail
  with_reducible refine (HA.out).mono ?_
  rintro e w1 ⟨rfl, hb⟩
  have G1 := G0.out.below_ hb
  have d0 := G1.c 12 rfl
  have f0 := G1.fr 12
  have G2 := G1.put 12 (.int .i64 6) (cs' := fdCells c g cap { f with pc := 6 }) rfl
  have d1 := G2.c 19 rfl
  have f1 := G2.fr 19
  have G3 := Lib.hid (G2.put 19 (.int .i64 ((i * 8 + k : Nat) : Int)) (cs' := fdCells c g cap { f with pc := 6, at_ := ((i * 8 + k : Nat) : Int) }) rfl)
  clear c0 c1 c2 c3 c4 c5 c6 c7 c8 G0 hb HA G1 G2
  go_wp2_with fail
  go_ret
  exact ⟨rfl, G3.out⟩
set_option maxRecDepth 100000 in
/-- What first does: the object at hand is of kind 0, in one fragment. -/
theorem find_first {l : List Bool} {md : Nat} {rb : Bool} (hc : c.ok) (hs : c.shapes[0]? = some (false, l)) (hk : l[f.k]? = some rb) (hmd : md ≤ 1) (hh : f.head < c.frags) (h : (Find b c g cap f).at_ S w) :
    Calls Tryz.prog 288 #[.pointer (some ⟨b, 0, none⟩), cx 0 md] w fun e w' => e = .returned (.bool false) ∧ Goes (Find b c g cap { f with pc := 6, at_ := ((f.head * 8 + (2 + f.k) : Nat) : Int), ref := rb }) S w w' := by
  have g0 := Goes.begin h
  obtain ⟨c0, c1, c2, c3, c4, c5, c6, c7, c8⟩ := fd9 g0
  have hl6 : l.length ≤ 6 := (hc.shape _ (List.mem_of_getElem? hs)).1
  have hkl : f.k < l.length := (List.getElem?_eq_some_iff.1 hk).1
  have HP := Lib.hid (fun (x1 : Option Addr) (k1 : Nat) w => shape_place x1 l.length k1 f.k w hl6 hkl)
  have HT := Lib.hid (fun w => word_tell 0 md w (by omega) (by omega))
  have HA := Lib.hid (conf_shapeK (i := 0) hc g0.r.is hs)
  rw [show ((0 : Nat) : Int) = 0 from rfl] at HA
  have G0 := Lib.hid g0
  have HC := Lib.hid hc
  have HK := Lib.hid hk
  clear g0 h hc hs hk
  unfold cfV cx at *
  generalize fl 0 = x0 at *
  generalize fl md = x1 at *
  go_enter Tryz.func288, Tryz.ntmps288
  go_wp2_with fail
  with_reducible refine (HT.out _).mono ?_
  rintro e w1 ⟨rfl, rfl⟩
  go_wp2_with fail
  with_reducible refine HA.out.mono ?_
  rintro e w1 ⟨v1, rfl, hb, S1, hr, hs1⟩
  have G1 := G0.out.below_ hb
  obtain ⟨x1, k1, rfl⟩ := hr.slice
  rcases hr with ⟨rfl, _⟩ | ⟨r, cap1, cs1, t1, _, he, _, _, hSr, hbr, hget⟩
  · simp at hkl
  cases he
  have hbRB : ∃ csr tr, Blk (w1.alloc (.cells #[.bool false, .slice (some ⟨r, 0, none⟩) l.length k1] 57)) r csr tr ∧ csr[f.k]? = some (.bool rb) := ⟨_, _, hbr.alloc _, hget f.k rb HK.out⟩
  have hbR := (hbr.alloc (.cells #[.bool false, .slice (some ⟨r, 0, none⟩) l.length k1] 57)).cell f.k
  rw [hget f.k rb HK.out] at hbR
  have hbT := Blk.new w1 #[.bool false, .slice (some ⟨r, 0, none⟩) l.length k1] 57
  have e0 := hbT.cell 0
  have e1 := hbT.cell 1
  have G2 := G1.alloc_ (.cells #[.bool false, .slice (some ⟨r, 0, none⟩) l.length k1] 57)
  have hTb : w1.heap.size < (w1.alloc (.cells #[.bool false, .slice (some ⟨r, 0, none⟩) l.length k1] 57)).heap.size := by simp
  clear HT HA c0 c1 c2 c3 c4 c5 c6 c7 c8 G0 hbr hget hSr hs1 hb G1
  go_upto_region 3 with fail
  generalize hq : w1.heap.size = q at *
  generalize w1.alloc _ = w2 at *
  simp at e0 e1
  have k3 := G2.c 11 (v := .bool false) rfl
  have k1c := G2.c 10 (v := .int .i64 (f.k : Int)) rfl
  have kh := G2.c 9 (v := .int .i64 (f.head : Int)) rfl
  obtain rfl | rfl : md = 0 ∨ md = 1 := by omega
  all_goals
    go_wp2_with fail
    go_quiet (fail)
    have G3 := G2.drewN_ nq
    have hbT3 : Blk (w2.drewN nq) q #[.bool false, .slice (some ⟨r, 0, none⟩) l.length k1] 57 := hbT
    have hbR3 : ∃ csr tr, Blk (w2.drewN nq) r csr tr ∧ csr[f.k]? = some (.bool rb) := hbRB
    clear e0 e1 k3 k1c kh G2 hbT hbR hbRB hTb
    generalize w2.drewN nq = w3 at *
    have e0 := hbT3.cell 0
    have e1 := hbT3.cell 1
    simp at e0 e1
    have k3 := G3.c 11 (v := .bool false) rfl
    have k1c := G3.c 10 (v := .int .i64 (f.k : Int)) rfl
    go_wp2_with fail
    go_region_held3 (fun w' => w'.cell? ⟨q, 0, none⟩ = some (.bool false) ∧ w'.cell? ⟨q, 1, none⟩ = some (.slice (some ⟨r, 0, none⟩) l.length k1) ∧ w'.cell? ⟨b, 10, none⟩ = some (.int .i64 (f.k : Int))) (first | exact ⟨e0, e1, k1c⟩ | exact ⟨p0, p1, p2⟩)
      ((go_at_call 199; (with_reducible refine (HP.out _ _ _).mono ?_); rintro e w7 ⟨rfl, hb7⟩; have G7 := (G3.drew_).below_ hb7; have hbT7 := keepBlk (w := w3.drew) hbT3 hb7; have p0 := hbT7.cell 0; have p1 := hbT7.cell 1; have p2 := G7.c 10 (v := .int .i64 (f.k : Int)) rfl))
    obtain ⟨csr, tr, hR3, hrb⟩ := hbR3
    have hR7 := keepBlk (w := w3.drew) hR3 hb7
    have r7 := hR7.cell f.k
    rw [hrb] at r7
    have q7 := G7.c 10 (v := .int .i64 (f.k : Int)) rfl
    have q9 := G7.c 9 (v := .int .i64 (f.head : Int)) rfl
    have q20 := G7.c 20 (v := .bool f.ref) rfl
    have fq := G7.fr 20
    have G8 := (G7.put 20 (.bool rb) (cs' := fdCells c g cap { f with ref := rb }) rfl).drew_
    have HS := Lib.hid (G8.call fun S h => find_stands f.head (2 + f.k) HC.out hh (by omega) h)
    rw [show ((2 + f.k : Nat) : Int) = 2 + (f.k : Int) by omega] at HS
    have hhI : (f.head : Int) ≤ 1024 := by have := HC.out.frags; omega
    have s0 := p0
    have s1 := p1
    clear HP e0 e1 k3 k1c hb7 hbT7 hbT3 G3 hR3 hrb hR7 G8 G7 p2
    have hk1 : (f.k : Int) < 6 := by omega
    have hk3 : (f.k : Int) < l.length := by omega
    go_wp2_with fail
    go_still_tail 11, (by kernel_rfl)
    change wpList _ _ _ _ _ w7.drew
    go_wp2_with fail
    with_reducible refine (HS.out).mono ?_
    rintro e w' ⟨rfl, hg⟩
    have HG := Lib.hid hg
    clear HS hg
    go_wp2_with fail
    go_ret
    exact ⟨rfl, HG.out⟩
end
end Go.Proofs.YtnkgnhpapcnebaaGreat
/- A step of find; what it tells. -/
namespace Go.Proofs.YtnkgnhpapcnebaaGreat
open Go.RowKit
attribute [local go_sem] run_store_complex
section
variable {c : Cf} {b g cap : Nat} {f : Fd} {bm gm n : Nat} {m : Nat → Value} {S : Nat → Prop} {w w' : World} {X : Thing}
/-- The program at its end. -/
def Fd.found (f : Fd) (rb : Bool) : Fd := { f with pc := 6, at_ := ((f.head * 8 + (2 + f.k) : Nat) : Int), ref := rb }
set_option maxRecDepth 100000 in
theorem find_begins {l : List Bool} {md : Nat} {rb : Bool} (hc : c.ok) (hs : c.shapes[0]? = some (false, l)) (hk : l[f.k]? = some rb) (hmd : md ≤ 1) (hh : f.head < c.frags) (hpc : f.pc = 0)
    (hn : f.head * 8 + 1 < n) (hn2 : n ≤ 20000) (hm : m (f.head * 8 + 1) = cx 0 md) (h : (Sep (Find b c g cap f) (Mem bm gm n m)).at_ S w) :
    Calls Tryz.prog 244 #[.pointer (some ⟨b, 0, none⟩), .pointer (some ⟨bm, 0, none⟩)] w fun e w' => e = .returned (.bool true) ∧ Goes (Sep (Find b c g cap (f.found rb)) (Mem bm gm n m)) S w w' := by
  have g0 := Goes.begin h
  have c12 := g0.l.c 12 (v := .int .i64 f.pc) rfl
  have c9 := g0.l.c 9 (v := .int .i64 (f.head : Int)) rfl
  rw [hpc] at c12
  have HR := Lib.hid (g0.call fun S h => find_read f.head 1 hc hh (by omega) hn hn2 h)
  rw [hm] at HR
  have HF := Lib.hid (fun w1 (hg : Goes (Sep (Find b c g cap f) (Mem bm gm n m)) S w w1) => hg.call (sepL fun S h => find_first hc hs hk hmd hh h))
  rw [show ((1 : Nat) : Int) = 1 from rfl] at HR
  clear g0 h hc hs hk hm hpc
  unfold cx at *
  generalize fl 0 = x0 at *
  generalize fl md = x1 at *
  go_enter Tryz.func244, Tryz.ntmps244
  go_wp2_with fail
  go_step3
  go_wp2_with fail
  with_reducible refine (HR.out).mono ?_
  rintro e w1 ⟨rfl, hg⟩
  have HF1 := Lib.hid (HF.out _ hg)
  clear HR HF hg c12 c9
  go_wp2_with fail
  with_reducible refine (HF1.out).mono ?_
  rintro e w2 ⟨rfl, hg⟩
  have HG := Lib.hid hg
  clear hg HF1
  go_wp2_with fail
  (try rw [Exit.noGoto_ret])
  go_ret
  exact ⟨rfl, HG.out⟩
set_option maxRecDepth 100000 in
theorem find_step {l : List Bool} {md : Nat} {rb : Bool} (hc : c.ok) (hs : c.shapes[0]? = some (false, l)) (hk : l[f.k]? = some rb) (hmd : md ≤ 1) (hh : f.head < c.frags) (hpc : f.pc = 0)
    (hn : f.head * 8 + 1 < n) (hn2 : n ≤ 20000) (hm : m (f.head * 8 + 1) = cx 0 md) (h : (Sep (Find b c g cap f) (Mem bm gm n m)).at_ S w) :
    Calls Tryz.prog 177 #[.pointer (some ⟨b, 0, none⟩), .pointer (some ⟨bm, 0, none⟩)] w fun e w' => e = .returned (.bool true) ∧ Goes (Sep (Find b c g cap (Fd.found { f with steps := wrap64 (f.steps + 1) } rb)) (Mem bm gm n m)) S w w' := by
  have g0 := Goes.begin h
  have c12 := g0.l.c 12 (v := .int .i64 f.pc) rfl
  have c22 := g0.l.c 22 (v := .int .i64 f.steps) rfl
  have f22 := g0.l.fr 22
  rw [hpc] at c12
  have g1 := g0.then fun S h => goesL (fun S h => (Goes.begin h).put 22 (.int .i64 (wrap64 (f.steps + 1))) (cs' := fdCells c g cap { f with steps := wrap64 (f.steps + 1) }) rfl) S h
  have d12 := g1.l.c 12 (v := .int .i64 f.pc) rfl
  rw [hpc] at d12
  have HB := Lib.hid (g1.call fun S h => find_begins (f := { f with steps := wrap64 (f.steps + 1) }) hc hs hk hmd hh hpc hn hn2 hm h)
  clear g0 g1 h hc hs hk hm hpc
  go_enter Tryz.func177, Tryz.ntmps177
  go_wp2_with fail
  with_reducible refine (HB.out).mono ?_
  rintro e w1 ⟨rfl, hg⟩
  have HG := Lib.hid hg
  clear hg HB
  go_wp2_with fail
  go_ret
  exact ⟨rfl, HG.out⟩
set_option maxRecDepth 100000 in
theorem find_errno (h : (Find b c g cap f).at_ S w) : Calls Tryz.prog 178 #[.pointer (some ⟨b, 0, none⟩)] w fun e w' => e = .returned (.int .i64 0) ∧ w = w' := by
  have c0 := (Goes.begin h).c 21 (v := .int .i64 0) rfl
  clear h
  go_enter Tryz.func178, Tryz.ntmps178
  go_wp2_with fail
  go_ret
  exact ⟨rfl, rfl⟩
end
end Go.Proofs.YtnkgnhpapcnebaaGreat
/- A slice somewhere within a row; a shape's references as a thing. -/
namespace Go.Proofs.YtnkgnhpapcnebaaGreat
open Go.RowKit
attribute [local go_sem] run_store_complex
/-- v: a slice of n elements of sz cells each, which are xs. -/
def seqAt (sz : Nat) (v : Value) (n : Nat) (xs : List Value) (S : Nat → Prop) (w : World) : Prop :=
  ∃ (g o cap : Nat) (cs : Array Value) (t : TypeId), v = .slice (some ⟨g, o, none⟩) n cap ∧ n ≤ cap ∧ cap ≤ maxLen ∧ xs.length = n * sz ∧ Blk w g cs t ∧ S g ∧ (∀ (i : Nat) (x : Value), xs[i]? = some x → cs[o + i]? = some x) ∧ ∀ k, S k → k < w.heap.size
def Seq (sz : Nat) (v : Value) (n : Nat) (xs : List Value) : Thing where
  at_ := seqAt sz v n xs
  lt := fun ⟨_, _, _, _, _, _, _, _, _, _, _, _, h⟩ => h
  kept := fun ⟨g, o, cap, cs, t, h1, h2, h3, h4, h5, h6, h7, h8⟩ hk hs => ⟨g, o, cap, cs, t, h1, h2, h3, h4, by unfold Blk at *; rw [hk g h6]; exact h5, h6, h7, fun k hS => Nat.lt_of_lt_of_le (h8 k hS) hs⟩
set_option maxRecDepth 100000 in
theorem seq_of_row {e sz n : Nat} {v : Value} {xs : List Value} {S : Nat → Prop} {w : World} (h : (RowG e sz v n xs).at_ S w) (hn : n ≠ 0) : (Seq sz v n xs).at_ S w := by
  obtain ⟨⟨h1, h2⟩, h3⟩ := h
  rcases h2 with ⟨_, h⟩ | ⟨g, cap, cur, rfl, _, h4, h5, h6, h7, h8⟩
  · exact absurd h hn
  · refine ⟨g, 0, cap, cur, e, rfl, h5, h6, h1, h4, (h3 g).2 rfl, fun i x hx => ?_, fun k hk => ?_⟩
    · rw [← h8, List.getElem?_take] at hx
      split at hx
      · simpa using hx
      · simp at hx
    · have := (h3 k).1 hk
      simp [Value.ownBlock] at this; subst this
      exact lt_of_block h4
set_option maxRecDepth 100000 in
theorem seq_tail {sz n g o cap : Nat} {xs ys : List Value} {S : Nat → Prop} {w : World} (hys : ys.length = sz) (h : (Seq sz (.slice (some ⟨g, o, none⟩) (n + 1) cap) (n + 1) (ys ++ xs)).at_ S w) :
    (Seq sz (.slice (some ⟨g, o + sz, none⟩) n (cap - 1)) n xs).at_ S w := by
  obtain ⟨g', o', cap', cs, t, h1, h2, h3, h4, h5, h6, h7, h8⟩ := h
  cases h1
  refine ⟨g, o + sz, cap - 1, cs, t, rfl, by omega, by omega, ?_, h5, h6, fun i x hx => ?_, h8⟩
  · simp [hys, Nat.add_mul] at h4; omega
  · have := h7 (sz + i) x (by rw [List.getElem?_append_right (by omega)]; simpa [hys] using hx)
    rw [Nat.add_assoc]; exact this
set_option maxRecDepth 100000 in
theorem Goes.seq {sz n g o cap : Nat} {xs : List Value} {S : Nat → Prop} {w w' : World} (h : Goes (Seq sz (.slice (some ⟨g, o, none⟩) n cap) n xs) S w w') {i : Nat} {x : Value} (hx : xs[i]? = some x) : w'.cell? ⟨g, o + i, none⟩ = some x := by
  obtain ⟨⟨S', ⟨g', o', cap', cs, t, h1, h2, h3, h4, h5, h6, h7, h8⟩, _⟩, _⟩ := h
  cases h1
  rw [h5.cell]; exact h7 i x hx
set_option maxRecDepth 100000 in
theorem seq_form {sz n : Nat} {v : Value} {xs : List Value} {S : Nat → Prop} {w : World} (h : (Seq sz v n xs).at_ S w) : ∃ g o cap, v = .slice (some ⟨g, o, none⟩) n cap ∧ n ≤ cap ∧ cap ≤ maxLen := by
  obtain ⟨g, o, cap, cs, t, h1, h2, h3, _⟩ := h; exact ⟨g, o, cap, h1, h2, h3⟩
def refsThing (v : Value) (l : List Bool) (S : Nat → Prop) (w : World) : Prop := refsAt v l S w ∧ ∀ k, S k → k < w.heap.size
/-- A slice of bools that nobody writes, as a thing. -/
def Refs (v : Value) (l : List Bool) : Thing where
  at_ := refsThing v l
  lt := fun ⟨_, h⟩ => h
  kept := fun ⟨h1, h2⟩ hk hs => ⟨h1.kept hk, fun k hS => Nat.lt_of_lt_of_le (h2 k hS) hs⟩
set_option maxRecDepth 100000 in
theorem Goes.refs {v : Value} {l : List Bool} {S : Nat → Prop} {w w' : World} {a : Option Addr} {n k : Nat} (h : Goes (Refs v l) S w w') (hv : v = .slice a n k) {j : Nat} {b : Bool} (hj : l[j]? = some b) : ∃ r, a = some ⟨r, 0, none⟩ ∧ w'.cell? ⟨r, j, none⟩ = some (.bool b) := by
  obtain ⟨⟨S', ⟨h1, _⟩, _⟩, _⟩ := h
  rcases h1 with ⟨rfl, _⟩ | ⟨r, cap, cs, t, h0, h2, h3, h4, h5, h6, h7⟩
  · simp at hj
  · subst hv; cases h2
    exact ⟨r, rfl, by rw [h6.cell]; exact h7 j b hj⟩
end Go.Proofs.YtnkgnhpapcnebaaGreat
