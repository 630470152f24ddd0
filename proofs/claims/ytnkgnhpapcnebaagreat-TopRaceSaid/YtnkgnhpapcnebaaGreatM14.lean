/- The contracts of package space: what is wanted, served. -/
import Derived.Test.YtnkgnhpapcnebaaGreatM13
import Derived.Test.YtnkgnhpapcnebaaGreatM11
set_option linter.unusedVariables false
set_option linter.unusedSimpArgs false
set_option maxHeartbeats 8000000
namespace Go.Proofs.YtnkgnhpapcnebaaGreat
open Go.RowKit
attribute [local go_sem] run_store_complex
section
variable {b bs bt n m F : Nat} {c : Cf} {ask bn : Bool} {S : Nat → Prop} {w w' : World} {x : SpX}
/-- A space, its pool open. -/
def SpQ (b bt : Nat) (c : Cf) (x : SpX) (pg : Nat) (f : Nat → Bool) : Thing :=
  Sep (Var b (spCells c bt x) 163) (Sep (Conf c x.g x.cap) (Sep (Pool x.p pg c.frags f) (Sep (CoI x.k c.spine) (Sep (Lne x.w) (Stks x.sv c.threads)))))
set_option maxRecDepth 100000 in
theorem spq_open (h : (Sp b bt c ask x).at_ S w) : ∃ pg f, (ask = false → f = full) ∧ (SpQ b bt c x pg f).at_ S w := by
  obtain ⟨S1, S2, h1, ⟨S3, S4, h2, ⟨S5, S6, ⟨⟨pg, f⟩, hf, h3⟩, k3⟩, k2⟩, k1⟩ := h
  exact ⟨pg, f, hf, S1, S2, h1, ⟨S3, S4, h2, ⟨S5, S6, h3, k3⟩, k2⟩, k1⟩
set_option maxRecDepth 100000 in
theorem spq_shut {pg : Nat} {f : Nat → Bool} (hf : ask = false → f = full) (h : (SpQ b bt c x pg f).at_ S w) : (Sp b bt c ask x).at_ S w :=
  sepAt.monoR (fun _ h => sepAt.monoR (fun _ h => sepAt.monoL (fun _ h => ⟨⟨pg, f⟩, hf, h⟩) h) h) h
set_option maxRecDepth 100000 in
theorem sh_freeQ {g n : Nat} {f : Nat → Bool} (h : (Pool x.p g n f).at_ S w) : Calls Tryz.prog 81 #[shV c x] w fun e w' => e = .returned (.int .i64 (pcnt n f)) ∧ Below w.heap.size w w' := by
  have hb := (Below.refl w.heap.size w).alloc (Nat.le_refl _) (.cells (shCells c x) 160)
  have D0 := Blk.new w (shCells c x) 160
  have c9 := D0.cell 9
  have HL := Lib.hid (pool_free (keep h hb))
  have HB := Lib.hid hb
  clear hb D0
  unfold shV
  simp only [shCells] at *
  simp at c9
  clear h
  go_enter Tryz.func81, Tryz.ntmps81
  go_wp2_with fail
  with_reducible refine HL.out.mono ?_
  rintro e w2 ⟨rfl, rfl⟩
  go_wp2_with fail
  go_ret
  exact ⟨rfl, HB.out⟩
set_option maxRecDepth 100000 in
theorem sh_waitsQ (h : (Lne x.w).at_ S w) : Calls Tryz.prog 80 #[shV c x] w fun e w' => e = .returned (.int .i64 0) ∧ Below w.heap.size w w' := by
  have hb := (Below.refl w.heap.size w).alloc (Nat.le_refl _) (.cells (shCells c x) 160)
  have D0 := Blk.new w (shCells c x) 160
  have c11 := D0.cell 11
  have HB := Lib.hid hb
  have HL := Lib.hid (line_waits (keep h hb))
  clear hb D0
  unfold shV
  simp only [shCells] at *
  simp at c11
  clear h
  go_enter Tryz.func80, Tryz.ntmps80
  go_wp2_with fail
  with_reducible refine HL.out.mono ?_
  rintro e w2 ⟨rfl, rfl⟩
  go_wp2_with fail
  go_ret
  exact ⟨rfl, HB.out⟩
set_option maxRecDepth 100000 in
theorem sp_wants (w : World) : Does Tryz.prog 41 #[.pointer (some ⟨b, 0, none⟩)] w (SpI b bt c ask) (aBool fun _ => True) (fun _ => SpI b bt c ask) := by
  rintro S ⟨x, h⟩
  obtain ⟨pg, f, hf, h⟩ := spq_open h
  have g0 := Goes.begin h
  have c3 := g0.c 3 (v := .int .i64 x.ct) rfl
  have f3 := g0.fr 3
  have g1 := (g0.put 3 (.int .i64 (wrap64 (x.ct + 1))) (cs' := spCells c bt { x with ct := wrap64 (x.ct + 1) }) rfl)
  change Goes (SpQ b bt c { x with ct := wrap64 (x.ct + 1) } pg f) S w _ at g1
  have HG := Lib.hid g1.drew_
  clear g0 g1 h
  generalize hx1 : ({ x with ct := wrap64 (x.ct + 1) } : SpX) = x1 at HG
  clear hx1
  have hfin := Lib.hid fun w' (hg : Goes (SpQ b bt c x1 pg f) S w w') => (hg.conv fun S w h => ⟨_, spq_shut hf h⟩ : Goes (SpI b bt c ask) S w w')
  have hne : Nonempty (In (SpQ b bt c x1 pg f) S w) := ⟨⟨_, HG.out⟩⟩
  have HW := Lib.hid fun w1 (hg : Goes (SpQ b bt c x1 pg f) S w w1) => hg.plain (sh_waitsQ (c := c) (x := x1) hg.r.r.r.r.l.is)
  have HF := Lib.hid fun w1 (hg : Goes (SpQ b bt c x1 pg f) S w w1) => hg.plain (sh_freeQ (c := c) (x := x1) hg.r.r.l.is)
  have e2 := fun i : In (SpQ b bt c x1 pg f) S w => i.h.c 2 (v := .bool x1.forced) rfl
  have e4 := fun i : In (SpQ b bt c x1 pg f) S w => i.h.c 4 (v := .int .i64 c.frags) rfl
  have e5 := fun i : In (SpQ b bt c x1 pg f) S w => i.h.c 5 (v := .int .i64 c.spine) rfl
  have e6 := fun i : In (SpQ b bt c x1 pg f) S w => i.h.c 6 (v := .int .i64 c.globals) rfl
  have e7 := fun i : In (SpQ b bt c x1 pg f) S w => i.h.c 7 (v := .int .i64 c.threads) rfl
  have e8 := fun i : In (SpQ b bt c x1 pg f) S w => i.h.c 8 (v := .int .i64 c.locals) rfl
  have e9 := fun i : In (SpQ b bt c x1 pg f) S w => i.h.c 9 (v := .int .i64 0) rfl
  have e10 := fun i : In (SpQ b bt c x1 pg f) S w => i.h.c 10 (v := .int .i64 c.stack) rfl
  have e11 := fun i : In (SpQ b bt c x1 pg f) S w => i.h.c 11 (v := .int .i64 c.low) rfl
  have e12 := fun i : In (SpQ b bt c x1 pg f) S w => i.h.c 12 (v := .slice (some ⟨x1.g, 0, none⟩) c.shapes.length x1.cap) rfl
  have e13 := fun i : In (SpQ b bt c x1 pg f) S w => i.h.c 13 (v := .pointer (some ⟨x1.p, 0, none⟩)) rfl
  have e14 := fun i : In (SpQ b bt c x1 pg f) S w => i.h.c 14 (v := .pointer (some ⟨x1.k, 0, none⟩)) rfl
  have e15 := fun i : In (SpQ b bt c x1 pg f) S w => i.h.c 15 (v := .pointer (some ⟨x1.w, 0, none⟩)) rfl
  unfold shV shCells at HW HF
  generalize pcnt c.frags f = k at *
  by_cases hk : (k : Int) < (c.low : Int)
  · have hk' : decide ((k : Int) < (c.low : Int)) = true := by simpa using hk
    have hk2 : k < c.low := by omega
    go_enter Tryz.func41, Tryz.ntmps41
    go_wp2_with fail
    refine wp_region_in (by kernel_rfl) (by kernel_rfl) HG.out ?_
    repeat (go_big_quiet_step (first | exact In.call HW.out | exact In.call HF.out))
    refine wpQuiet_nil ?_
    intro w7 G7
    have G8 := Lib.hid (hfin.out _ G7)
    clear G7 e2 e4 e5 e6 e7 e8 e9 e10 e11 e12 e13 e14 e15 HW HF hfin HG
    go_wp2_with fail
    go_ret
    first | exact ⟨_, ⟨rfl, trivial⟩, G8.out⟩ | exact G8.out
  · have hk' : decide ((k : Int) < (c.low : Int)) = false := by simpa using hk
    have hk2 : ¬ k < c.low := by omega
    go_enter Tryz.func41, Tryz.ntmps41
    go_wp2_with fail
    refine wp_region_in (by kernel_rfl) (by kernel_rfl) HG.out ?_
    repeat (go_big_quiet_step (first | exact In.call HW.out | exact In.call HF.out))
    refine wpQuiet_nil ?_
    intro w7 G7
    have G8 := Lib.hid (hfin.out _ G7)
    clear G7 e2 e4 e5 e6 e7 e8 e9 e10 e11 e12 e13 e14 e15 HW HF hfin HG
    go_wp2_with fail
    go_ret
    first | exact ⟨_, ⟨rfl, trivial⟩, G8.out⟩ | exact G8.out
set_option maxRecDepth 100000 in
theorem sp_serve (s : Bool) (w : World) : Does Tryz.prog 105 #[.pointer (some ⟨b, 0, none⟩), .bool s] w (SpI b bt c ask) (fun (_ : Unit) e => e = .returned (.bool false)) (fun _ => SpI b bt c ask) := by
  rintro S ⟨x, h⟩
  have g0 := Goes.begin h
  have c3 := g0.c 3 (v := .int .i64 x.ct) rfl
  have f3 := g0.fr 3
  have g1 := (g0.put 3 (.int .i64 (wrap64 (x.ct + 1))) (cs' := spCells c bt { x with ct := wrap64 (x.ct + 1) }) rfl)
  have d15 := g1.c 15 (v := .pointer (some ⟨x.w, 0, none⟩)) rfl
  have HL := Lib.hid ((Does.ofSee (fun S h => line_First (b := x.w) h)).l.r.r.r.r.on g1)
  clear g0 g1 h
  go_enter Tryz.func105, Tryz.ntmps105
  go_wp2_with fail
  with_reducible refine HL.out.mono ?_
  rintro e w2 ⟨_, rfl, hg⟩
  have hb := (Below.refl w2.heap.size w2).alloc (Nat.le_refl _) (.cells zeroReqCells 224)
  have HF : Goes (SpI b bt c ask) S w _ := (hg.below_ hb).conv fun S w h => ⟨{ x with ct := wrap64 (x.ct + 1) }, h⟩
  have HF := Lib.hid HF
  unfold zeroReq
  simp only [zeroReqCells] at *
  clear HL hg c3 hb d15
  go_wp2_with fail
  go_ret
  first | exact ⟨_, ⟨rfl, trivial⟩, HF.out⟩ | exact ⟨(), rfl, HF.out⟩ | exact ⟨rfl, HF.out⟩ | exact HF.out
end
end Go.Proofs.YtnkgnhpapcnebaaGreat
/- The contracts of package space: a request that is granted. -/
namespace Go.Proofs.YtnkgnhpapcnebaaGreat
open Go.RowKit
attribute [local go_sem] run_store_complex
set_option maxRecDepth 100000 in
theorem Goes.nilRow {A : Thing} {S : Nat → Prop} {w w' : World} (h : Goes A S w w') : Goes (Sep A (RowT (.slice none 0 0) [])) S w w' :=
  h.conv fun S w h => ⟨S, fun _ => False, h, row_nil w, fun _ _ h => h, fun _ h => h, fun _ h => h.elim, fun _ h => .inl h⟩
set_option maxRecDepth 100000 in
theorem best_full {n : Nat} (h : 1 ≤ n) : Best n full 1 (some (n - 1)) := ⟨by omega, by simp; omega, fun _ _ => rfl, fun b hb h1 => by simp at h1; omega⟩
/-- One fragment, handed over. -/
def Got (v : Value) (F : Nat) : Thing := Seq 1 v 1 [.int .i64 (F : Int)]
section
variable {b bs bt g n m : Nat} {c : Cf} {ask bn : Bool} {S : Nat → Prop} {w w' : World} {x : SpX}
set_option maxRecDepth 100000 in
theorem pool_take1 (hn : n ≤ 1024) (hn1 : 1 ≤ n) (h : (Pool b g n full).at_ S w) :
    Calls Tryz.prog 222 #[.pointer (some ⟨b, 0, none⟩), .int .i64 1] w fun e w' => ∃ v, e = .returned (.tuple #[v, .bool true]) ∧ Goes (Sep (Pool b g n (rnF full (n - 1) 1)) (Got v (n - 1))) S w w' := by
  obtain ⟨i0, hi, hz0, hz1, hz2⟩ := info_parts Tryz.info3
  obtain ⟨c0, c1, -⟩ := pool_cells h
  have C1 := Lib.hid (pool_run 1 hn h)
  have hb := best_full hn1
  rw [hb.some.1, hb.some.2] at C1
  have h1 := Lib.hid (Goes.begin h).nilRow
  rw [show pcnt n full = n from pcnt_full n] at c1
  clear h hb
  obtain ⟨a, ha⟩ : ∃ a, n - 1 = a := ⟨_, rfl⟩
  rw [ha] at C1 ⊢
  go_enter Tryz.func222, Tryz.ntmps222
  go_wp2_with fail
  with_reducible refine C1.out.mono ?_
  rintro e w1 ⟨rfl, rfl⟩
  clear C1 c0 c1
  go_wp2_with fail
  go_loopw [8, 9] (fun u i w' => ∃ (m : Nat) (v : Value), m ≤ 1 ∧ u = v ∧ i = .int .i64 ((a : Int) + m) ∧ Goes (Sep (Pool b g n (rnF full a m)) (RowT v (rnL a m))) S w w') (fun _ i _ => a + 1 - (intOf i).toNat)
  case atStart => exact ⟨0, _, Nat.zero_le _, rfl, by simp, h1.out⟩
  case round =>
    clear h1
    obtain ⟨m, v, hm, rfl, rfl, hs⟩ := hrel
    have hrow := hs.r.is.1
    obtain ⟨av, cp, rfl, hc1, hc2⟩ := slice_of_owns hrow
    by_cases hlt : m < 1
    · obtain rfl : m = 0 := by omega
      have C1 := Lib.hid (hs.call (sepL fun S h => pool_takes a hn (by omega) (by rfl) h))
      clear hs hrow
      simp only [rnL, rnF, List.length_nil] at *
      have ha2 : (a : Int) + 0 = a := by omega
      simp only [Int.natCast_zero, Int.add_zero] at *
      go_wp2_with fail
      with_reducible refine C1.out.mono ?_
      rintro e w1 ⟨rfl, h7⟩
      clear C1
      have HO := Lib.hid h7.r.is.1
      go_wp2_with (at_builtin; refine wpList_push rfl _ _ 22 rfl 3 i0 (.int .i64 0) 8 Tryz.underlying22 hi hz0 hz1 hz2 rfl _ _ _ rfl (HO.out.alloc _) ⟨w1.heap.size, 0, none⟩ (.int .i64 (a : Int)) rfl ?c1 rfl (by simp) (by decide) ?_)
      case c1 => exact World.cell?_alloc_new _ _ _ 0
      intro v' w2 ho hg hbk
      have h8 := Lib.hid (h7.then (w2 := w2) (goesR fun S h => row_push h ho hg (by simpa using hbk)))
      clear h7 HO ho hg hbk
      go_wp2_with fail
      go_round
      case rel => exact ⟨1, v', by omega, rfl, by go_num, h8.out⟩
      case measure => simp [intOf]
    · obtain rfl : m = 1 := by omega
      simp only [rnL, List.length_cons, List.length_nil, List.nil_append] at hrow
      go_wp2_with fail
      go_ret2
      exact ⟨_, rfl, hs.then fun S h => Goes.same (sepAt.monoR (fun S h => seq_of_row (e := 3) (n := 1) h (by decide)) h)⟩
set_option maxRecDepth 100000 in
theorem pool_low0 {f : Nat → Bool} (hn : n ≤ 1024) (hn1 : 1 ≤ n) (h : (Pool b g n f).at_ S w) :
    Calls Tryz.prog 278 #[.pointer (some ⟨b, 0, none⟩), .int .i64 0] w fun e w' => e = .returned (.slice none 0 0) ∧ w = w' := by
  obtain ⟨c0, c1, -⟩ := pool_cells h
  clear h
  go_enter Tryz.func278, Tryz.ntmps278
  go_wp2_with fail
  go_loop [5, 6] (fun u i => u = .slice none 0 0 ∧ i = .int .i64 0) (fun _ _ => 0)
  case atStart => exact ⟨rfl, rfl⟩
  case round =>
    obtain ⟨rfl, rfl⟩ := hrel
    go_wp2_with fail
    go_ret
    exact ⟨rfl, rfl⟩
end
end Go.Proofs.YtnkgnhpapcnebaaGreat
/- The contracts of package space: Ask. -/
namespace Go.Proofs.YtnkgnhpapcnebaaGreat
open Go.RowKit
attribute [local go_sem] run_store_complex
section
variable {b bs bt n m F : Nat} {c : Cf} {ask bn : Bool} {S : Nat → Prop} {w w' : World} {x : SpX} {X : Thing}
set_option maxRecDepth 100000 in
theorem sh_fits {g n : Nat} (hn : n ≤ 1024) (hn1 : 1 ≤ n) (h : (Pool x.p g n full).at_ S w) : Calls Tryz.prog 157 #[shV c x, .int .i64 1, .int .i64 0] w fun e w' => e = .returned (.bool true) ∧ Below w.heap.size w w' := by
  have hb := (Below.refl w.heap.size w).alloc (Nat.le_refl _) (.cells (shCells c x) 160)
  have D0 := Blk.new w (shCells c x) 160
  have c9 := D0.cell 9
  have HL := Lib.hid (pool_free (keep h hb))
  have HR := Lib.hid (pool_run 1 hn (keep h hb))
  have hbf := best_full hn1
  rw [hbf.some.1, hbf.some.2] at HR
  have HB := Lib.hid hb
  clear hb D0 hbf
  rw [pcnt_full n] at HL
  unfold shV
  simp only [shCells] at *
  simp at c9
  clear h
  go_enter Tryz.func157, Tryz.ntmps157
  go_wp2_with fail
  with_reducible refine HL.out.mono ?_
  rintro e w2 ⟨rfl, rfl⟩
  go_wp2_with fail
  with_reducible refine HR.out.mono ?_
  rintro e w2 ⟨rfl, rfl⟩
  clear HL HR
  go_wp2_with fail
  go_ret
  exact ⟨rfl, HB.out⟩
set_option maxRecDepth 100000 in
theorem sh_takes {g n : Nat} (hn : n ≤ 1024) (hn1 : 1 ≤ n) (w : World) : Does Tryz.prog 158 #[shV c x, .int .i64 1, .int .i64 0] w (Pool x.p g n full) (fun v e => e = .returned (.tuple #[v, .int .i64 (-1)])) (fun v => Sep (Pool x.p g n (rnF full (n - 1) 1)) (Got v (n - 1))) := by
  intro S h
  have hb := (Below.refl w.heap.size w).alloc (Nat.le_refl _) (.cells (shCells c x) 160)
  have D0 := Blk.new w (shCells c x) 160
  have c9 := D0.cell 9
  have HL := Lib.hid ((Goes.later h hb).callx (R := fun v e => e = .returned (.tuple #[v, .bool true])) (O' := fun v => Sep (Pool x.p g n (rnF full (n - 1) 1)) (Got v (n - 1))) fun S h => pool_take1 hn hn1 h)
  clear hb D0
  unfold shV
  simp only [shCells] at *
  simp at c9
  clear h
  go_enter Tryz.func158, Tryz.ntmps158
  go_wp2_with fail
  with_reducible refine HL.out.mono ?_
  rintro e w2 ⟨v, rfl, hg⟩
  have HG := Lib.hid hg
  clear HL hg c9
  go_wp2_with fail
  go_ret2
  exact ⟨v, rfl, HG.out⟩
set_option maxRecDepth 100000 in
theorem sp_set_nil (st : Int) (s : Bool) (w : World) : Calls Tryz.prog 159 #[.pointer (some ⟨b, 0, none⟩), .slice none 0 0, .int .i64 st, .bool s] w fun e w' => e = .returned (.tuple #[]) ∧ w = w' := by
  go_enter Tryz.func159, Tryz.ntmps159
  go_wp2_with fail
  go_loop [9, 12] (fun _ i => i = .int .i64 0) (fun _ _ => 0)
  case atStart => exact rfl
  case round =>
    obtain rfl := hrel
    go_wp2_with fail
    go_end0
    exact ⟨rfl, rfl⟩
set_option maxRecDepth 100000 in
theorem sp_set_one {v : Value} {k : Nat} (s : Bool) (w : World) : Does Tryz.prog 159 #[.pointer (some ⟨b, 0, none⟩), v, .int .i64 2, .bool s] w (Sep (Sep (ShI bs bt n m F bn) (Sep (Var b (spCells c bt x) 163) X)) (Got v k)) (fun (_ : Unit) e => e = .returned (.tuple #[])) (fun _ => Sep (Sep (ShI bs bt n m F bn) (Sep (Var b (spCells c bt x) 163) X)) (Got v k)) := by
  intro S h
  have g0 := Lib.hid (Goes.begin h)
  obtain ⟨gs, o, cp, hv, h1, h2⟩ := seq_form g0.out.r.is
  subst hv
  clear h
  go_enter Tryz.func159, Tryz.ntmps159
  go_wp2_with fail
  go_loopw [9, 12] (fun _ i wr => ∃ q : Nat, q ≤ 1 ∧ i = .int .i64 q ∧ Goes (Sep (Sep (ShI bs bt n m F bn) (Sep (Var b (spCells c bt x) 163) X)) (Got (.slice (some ⟨gs, o, none⟩) 1 cp) k)) S w wr) (fun _ i _ => 1 - (intOf i).toNat)
  case atStart => exact ⟨0, Nat.zero_le _, rfl, g0.out⟩
  case round =>
    clear g0
    obtain ⟨q, hq, rfl, hs⟩ := hrel
    by_cases hlt : q < 1
    · obtain rfl : q = 0 := by omega
      have c0 := hs.l.r.c 0 (v := .pointer (some ⟨bt, 0, none⟩)) rfl
      have ck := hs.r.seq (i := 0) (x := .int .i64 (k : Int)) rfl
      have HL := Lib.hid ((tab_set (k : Int) 2 s _).l.l.on hs)
      clear hs
      simp only [Int.natCast_zero, Nat.add_zero] at *
      go_wp2_with fail
      with_reducible refine HL.out.mono ?_
      rintro e w2 ⟨r, ⟨rfl, _⟩, hg⟩
      have HG := Lib.hid hg
      clear HL hg c0 ck
      go_wp2_with fail
      go_round
      case rel => exact ⟨1, by omega, by go_num, HG.out⟩
      case measure => simp [intOf]
    · obtain rfl : q = 1 := by omega
      go_wp2_with fail
      go_end0
      exact ⟨(), rfl, hs⟩
end
end Go.Proofs.YtnkgnhpapcnebaaGreat
/- The contracts of package space: Ask, where a fragment is free. -/
namespace Go.Proofs.YtnkgnhpapcnebaaGreat
open Go.RowKit
attribute [local go_sem] run_store_complex
section
variable {b bs bt n m F : Nat} {c : Cf} {ask bn : Bool} {S : Nat → Prop} {w w' : World} {x : SpX} {X : Thing}
def SpG (b bt : Nat) (c : Cf) (x : SpX) (T : Nat → Nat) (P : Thing) : Thing :=
  Sep (Var b (spCells c bt x) 163) (Sep (Conf c x.g x.cap) (Sep P (Sep (CoI x.k c.spine) (Sep (Lne x.w) (Sep (Seq 1 x.sv c.threads (ptrs T c.threads)) (All c.threads fun j => Stk (T j)))))))
set_option maxRecDepth 100000 in
theorem spg_open (h : (SpI b bt c false).at_ S w) : ∃ x T pg, (SpG b bt c x T (Pool x.p pg c.frags full)).at_ S w := by
  obtain ⟨x, S1, S2, h1, ⟨S3, S4, h2, ⟨S5, S6, ⟨⟨pg, f⟩, hf, h3⟩, ⟨S7, S8, h4, ⟨S9, S10, h5, ⟨T, h6⟩, k5⟩, k4⟩, k3⟩, k2⟩, k1⟩ := h
  obtain rfl : f = full := hf rfl
  exact ⟨x, T, pg, S1, S2, h1, ⟨S3, S4, h2, ⟨S5, S6, h3, ⟨S7, S8, h4, ⟨S9, S10, h5, h6, k5⟩, k4⟩, k3⟩, k2⟩, k1⟩
set_option maxRecDepth 100000 in
theorem spg_shut {T : Nat → Nat} {pg : Nat} {f : Nat → Bool} (h : (SpG b bt c x T (Pool x.p pg c.frags f)).at_ S w) : (SpI b bt c true).at_ S w :=
  ⟨x, sepAt.monoR (fun _ h => sepAt.monoR (fun _ h => sepAt.monoL (fun _ h => ⟨⟨pg, f⟩, fun h => by simp at h, h⟩) (sepAt.monoR (fun _ h => sepAt.monoR (fun _ h => sepAt.monoR (fun _ h => ⟨T, h⟩) h) h) h)) h) h⟩
set_option maxRecDepth 100000 in
theorem sp_stockG {T : Nat → Nat} {P : Thing} {t : Nat} (ht : t < c.threads) (h : (SpG b bt c x T P).at_ S w) :
    Calls Tryz.prog 164 #[.pointer (some ⟨b, 0, none⟩), .int .i64 (t : Int)] w fun e w' => e = .returned (.pointer (some ⟨T t, 0, none⟩)) ∧ w = w' := by
  have g0 := Goes.begin h
  have hq := g0.r.r.r.r.r.l
  obtain ⟨gs, o, cap, hv, h1, h2⟩ := seq_form hq.is
  have c1 := g0.c 1 (v := x.sv) rfl
  rw [hv] at hq c1
  have cc := hq.seq (i := t) (x := .pointer (some ⟨T t, 0, none⟩)) (by simp [ptrs, ht])
  clear g0 h hq hv
  generalize c.threads = n at *
  go_enter Tryz.func164, Tryz.ntmps164
  go_wp2_with fail
  go_ret
  exact ⟨rfl, rfl⟩
set_option maxRecDepth 100000 in
theorem spg12 {T : Nat → Nat} {P : Thing} (h : Goes (SpG b bt c x T P) S w w') : w'.cell? ⟨b, 4, none⟩ = some (.int .i64 c.frags) ∧ w'.cell? ⟨b, 5, none⟩ = some (.int .i64 c.spine) ∧ w'.cell? ⟨b, 6, none⟩ = some (.int .i64 c.globals) ∧ w'.cell? ⟨b, 7, none⟩ = some (.int .i64 c.threads) ∧
    w'.cell? ⟨b, 8, none⟩ = some (.int .i64 c.locals) ∧ w'.cell? ⟨b, 9, none⟩ = some (.int .i64 0) ∧ w'.cell? ⟨b, 10, none⟩ = some (.int .i64 c.stack) ∧ w'.cell? ⟨b, 11, none⟩ = some (.int .i64 c.low) ∧ w'.cell? ⟨b, 12, none⟩ = some (.slice (some ⟨x.g, 0, none⟩) c.shapes.length x.cap) ∧
    w'.cell? ⟨b, 13, none⟩ = some (.pointer (some ⟨x.p, 0, none⟩)) ∧ w'.cell? ⟨b, 14, none⟩ = some (.pointer (some ⟨x.k, 0, none⟩)) ∧ w'.cell? ⟨b, 15, none⟩ = some (.pointer (some ⟨x.w, 0, none⟩)) :=
  ⟨h.c 4 rfl, h.c 5 rfl, h.c 6 rfl, h.c 7 rfl, h.c 8 rfl, h.c 9 rfl, h.c 10 rfl, h.c 11 rfl, h.c 12 rfl, h.c 13 rfl, h.c 14 rfl, h.c 15 rfl⟩
def TG (bs b bt : Nat) (c : Cf) (bn : Bool) (x : SpX) (T : Nat → Nat) (P : Thing) : Thing := Sep (ShI bs bt c.frags c.stack c.F bn) (SpG b bt c x T P)
def AskO (rb bs b bt : Nat) (c : Cf) (bn : Bool) (x : SpX) (T : Nat → Nat) (pg : Nat) (v : Value) : Thing :=
  Sep (Sep (TG bs b bt c bn x T (Pool x.p pg c.frags (rnF full (c.frags - 1) 1))) (Got v c.F)) (Var rb #[.int .i64 0, .slice none 0 0, .int .i64 0] 186)
set_option maxRecDepth 100000 in
theorem Does.unit {P : Program} {f : FuncId} {args : Array Value} {v : Value} {O O' : Thing} (h : Does P f args w O (fun (_ : Unit) e => e = .returned v) (fun _ => O')) : ∀ S, O.at_ S w → Calls P f args w fun e w' => e = .returned v ∧ Goes O' S w w' :=
  fun S hs => (h S hs).mono fun _ _ ⟨_, he, hg⟩ => ⟨he, hg⟩
set_option maxRecDepth 100000 in
theorem sp_ask {t : Nat} (ht : t < c.threads) (hc : c.ok) (s : Bool) (w : World) : Does Tryz.prog 238 #[.pointer (some ⟨b, 0, none⟩), .int .i64 (t : Int), .int .i64 1, .int .i64 0, .bool s] w (Two bs b bt c bn false)
    (fun v e => e = .returned (.agg #[.int .i64 1, v, .int .i64 (-1)])) (fun v => Sep (Two bs b bt c bn true) (Got v c.F)) := by
  intro S h
  obtain ⟨x, T, pg, h⟩ : ∃ x T pg, (TG bs b bt c bn x T (Pool x.p pg c.frags full)).at_ S w := by
    obtain ⟨S1, S2, h1, h2, h3⟩ := h
    obtain ⟨x, T, pg, h2⟩ := spg_open h2
    exact ⟨x, T, pg, S1, S2, h1, h2, h3⟩
  have g0 := (Goes.begin h).moreSt (St.fresh #[.int .i64 0, .slice none 0 0, .int .i64 0] 186)
  obtain ⟨rb, hrb⟩ : ∃ rb, w.heap.size = rb := ⟨_, rfl⟩
  rw [hrb] at g0
  have c3 := g0.l.r.c 3 (v := .int .i64 x.ct) rfl
  have f3 := g0.l.r.fr 3
  have g1 : Goes (Sep (TG bs b bt c bn { x with ct := wrap64 (x.ct + 1) } T (Pool x.p pg c.frags full)) (Var rb #[.int .i64 0, .slice none 0 0, .int .i64 0] 186)) S w _ :=
    g0.then fun S h => goesL (fun S h => goesR (fun S h => (Goes.begin h).put 3 (.int .i64 (wrap64 (x.ct + 1))) (cs' := spCells c bt { x with ct := wrap64 (x.ct + 1) }) rfl) S h) S h
  have HS := Lib.hid (g1.look (lookL (lookR fun S h => sp_stockG ht h)))
  have HG := Lib.hid g1
  have HC := Lib.hid hc
  clear g0 g1 h hc
  go_enter Tryz.func238, Tryz.ntmps238
  go_upto_region 2 with fail
  generalize hx1 : ({ x with ct := wrap64 (x.ct + 1) } : SpX) = x1 at HG
  have hxp : x1.p = x.p := by subst hx1; rfl
  rw [← hxp] at HG
  generalize World.setCell _ _ _ = w1 at *
  clear hx1 c3 f3 hxp
  go_wp2_with fail
  with_reducible refine HS.out.mono ?_
  rintro e w2 ⟨rfl, rfl⟩
  have c15 := HG.out.l.r.c 15 (v := .pointer (some ⟨x1.w, 0, none⟩)) rfl
  have HO := Lib.hid ((Does.ofSee fun S h => line_Of (t : Int) (b := x1.w) h).l.r.r.r.r.r.l.on HG.out)
  clear HS HG
  go_wp2_with fail
  with_reducible refine HO.out.mono ?_
  rintro e w3 ⟨_, rfl, hg⟩
  have hg := hg.alloc_ (.cells zeroReqCells 224)
  have HG := Lib.hid hg
  unfold zeroReq
  simp only [zeroReqCells] at *
  clear HO hg c15
  go_upto_region 4 with fail
  generalize World.alloc w3 _ = w4 at *
  have HT := Lib.hid ((stks_on (v := x1.sv) (T := T) ht (Does.ofLook fun S h => stock_take h)).r.r.r.r.r.r.l.on HG.out)
  clear HG
  go_wp2_with fail
  with_reducible refine HT.out.mono ?_
  rintro e w5 ⟨_, rfl, hg5⟩
  clear hg
  obtain ⟨e4, e5, e6, e7, e8, e9, e10, e11, e12, e13, e14, e15⟩ := spg12 hg5.l.r
  have HW := Lib.hid (hg5.plain (sh_waitsQ (c := c) (x := x1) hg5.l.r.r.r.r.r.l.is))
  unfold shV shCells at HW
  clear HT hg5
  go_wp2_with fail
  with_reducible refine HW.out.mono ?_
  rintro e w6 ⟨rfl, hg⟩
  clear HW e4 e5 e6 e7 e8 e9 e10 e11 e12 e13 e14 e15
  obtain ⟨e4, e5, e6, e7, e8, e9, e10, e11, e12, e13, e14, e15⟩ := spg12 hg.l.r
  have HW := Lib.hid (hg.plain (sh_fits (c := c) (x := x1) HC.out.frags.2 (by have := HC.out.frags.1; omega) hg.l.r.r.r.l.is))
  unfold shV shCells at HW
  clear hg
  go_wp2_with fail
  with_reducible refine HW.out.mono ?_
  rintro e w7 ⟨rfl, hg⟩
  clear HW e4 e5 e6 e7 e8 e9 e10 e11 e12 e13 e14 e15
  obtain ⟨e4, e5, e6, e7, e8, e9, e10, e11, e12, e13, e14, e15⟩ := spg12 hg.l.r
  have HW := Lib.hid (((((sh_takes (c := c) (x := x1) (g := pg) HC.out.frags.2 (by have := HC.out.frags.1; omega) _).lX).rX.rX).rX.lX).on hg)
  unfold shV shCells at HW
  clear hg
  go_wp2_with fail
  with_reducible refine HW.out.mono ?_
  rintro e w8 ⟨v, rfl, hg⟩
  obtain ⟨gs, go, gc, rfl, _, _⟩ := seq_form hg.r.is
  generalize hv : Value.slice (some ⟨gs, go, none⟩) 1 gc = v at *
  clear HW e4 e5 e6 e7 e8 e9 e10 e11 e12 e13 e14 e15
  have hg : Goes (Sep (Sep (TG bs b bt c bn x1 T (Pool x1.p pg c.frags (rnF full (c.frags - 1) 1))) (Got v c.F)) (Var rb #[.int .i64 0, .slice none 0 0, .int .i64 0] 186)) S w w8 :=
    hg.conv fun S w h => sepAt.assoc' (sepAt.monoR (fun S h => sepAt.swap h) (sepAt.assoc h))
  have HW := Lib.hid ((sp_set_one (b := b) (v := v) (k := c.F) s _).l.on hg)
  clear hg
  go_wp2_with fail
  with_reducible refine HW.out.mono ?_
  rintro e w9 ⟨_, rfl, hg⟩
  clear HW
  change Goes (AskO rb bs b bt c bn x1 T pg v) S w w9 at hg
  have HG := Lib.hid hg.drew_
  have hne : Nonempty (In (AskO rb bs b bt c bn x1 T pg v) S w) := ⟨⟨_, HG.out⟩⟩
  have HR := Lib.hid fun w1 (hg : Goes (AskO rb bs b bt c bn x1 T pg v) S w w1) => hg.call (sepL (sepL (sepR (sepR (sepR (sepR (sepR (sepR (stks_on (v := x1.sv) (T := T) (n := c.threads) ht (Does.ofSee fun S h => stock_room h)).unit))))))))
  have HL := Lib.hid fun w1 (hg : Goes (AskO rb bs b bt c bn x1 T pg v) S w w1) => hg.call (sepL (sepL (sepR (sepR (sepR (sepL (Does.ofLook fun S h => pool_low0 (b := x1.p) (g := pg) (f := rnF full (c.frags - 1) 1) HC.out.frags.2 (by have := HC.out.frags.1; omega) h).unit))))))
  have e13 := fun i : In (AskO rb bs b bt c bn x1 T pg v) S w => i.h.l.l.r.c 13 (v := .pointer (some ⟨x1.p, 0, none⟩)) rfl
  clear hg
  go_wp2_with fail
  refine wp_region_in (by kernel_rfl) (by kernel_rfl) HG.out ?_
  repeat (go_big_quiet_step (first | exact In.call HR.out | exact In.call HL.out))
  refine wpQuiet_nil ?_
  intro w10 hg
  have HG2 := Lib.hid hg
  clear HG HR HL e13 hne hg
  go_wp2_with fail
  with_reducible refine (sp_set_nil _ _ _).mono ?_
  rintro e w11 ⟨rfl, rfl⟩
  have HP := Lib.hid (HG2.out.call (sepL (sepL (sepR (sepR (sepR (sepR (sepR (sepR (stks_on (v := x1.sv) (T := T) (n := c.threads) ht (Does.ofGoes fun S h => stock_put h)).unit)))))))))
  clear HG2
  go_wp2_with fail
  with_reducible refine HP.out.mono ?_
  rintro e w12 ⟨rfl, hg⟩
  change Goes (AskO rb bs b bt c bn x1 T pg v) S w w12 at hg
  subst hv
  have q0 := hg.r.vc 0 (v := .int .i64 0) rfl
  have q1 := hg.r.vc 1 (v := .slice none 0 0) rfl
  have q2 := hg.r.vc 2 (v := .int .i64 0) rfl
  have p0 := hg.r.vf 0
  have p1 := hg.r.vf 1
  have p2 := hg.r.vf 2
  have hA := hg.then fun S h => goesR (fun S h => (((Goes.begin h).vput 0 (.int .i64 1) rfl).vput 1 (.slice (some ⟨gs, go, none⟩) 1 gc) rfl).vput 2 (.int .i64 (-1)) rfl) S h
  have r0 := hA.r.vc 0 (v := .int .i64 1) rfl
  have r1 := hA.r.vc 1 (v := .slice (some ⟨gs, go, none⟩) 1 gc) rfl
  have r2 := hA.r.vc 2 (v := .int .i64 (-1)) rfl
  have HF : Goes (Sep (Two bs b bt c bn true) (Got (.slice (some ⟨gs, go, none⟩) 1 gc) c.F)) S w _ := hA.l.conv fun S w h => sepAt.monoL (fun S h => sepAt.monoR (fun S h => spg_shut h) h) h
  have HF := Lib.hid HF
  clear HP hg hA
  go_wp2_with fail
  exact bodyPost_ret (v := .agg #[.int .i64 1, .slice (some ⟨gs, go, none⟩) 1 gc, .int .i64 (-1)]) (by simp [results, Tryz.results238, go_sem, r0, r1, r2]) rfl ⟨_, rfl, HF.out⟩
end
end Go.Proofs.YtnkgnhpapcnebaaGreat
/- Calls on the core's hands and memory, what is hidden left hidden. -/
namespace Go.Proofs.YtnkgnhpapcnebaaGreat
open Go.RowKit
attribute [local go_sem] run_store_complex
section
variable {b n : Nat} {q : Hq} {w : World} {c : Cf} {m : Mq} {S : Nat → Prop}
set_option maxRecDepth 100000 in
theorem hni_look (w : World) : Does Tryz.prog 162 #[.pointer (some ⟨b, 0, none⟩)] w (HnI b n q) (fun (_ : Unit) e => e = .returned (.tuple #[.int .i64 q.st, .bool q.sn])) (fun _ => HnI b n q) := by
  rintro S ⟨⟨g, ct⟩, h⟩
  exact (hand_look h).mono fun e w' ⟨he, hg⟩ => ⟨(), he, hg.conv fun S w h => ⟨⟨g, wrap64 (ct + 1)⟩, h⟩⟩
set_option maxRecDepth 100000 in
theorem hni_answer (k : Nat) (x : Int) (hk : k < n) (hn : n ≤ 16) (ho : q.own k ≠ -1) (hx : 0 ≤ x) (hx4 : x ≤ 4) (w : World) : Does Tryz.prog 163 #[.pointer (some ⟨b, 0, none⟩), .int .i64 (k : Int), .int .i64 x] w (HnI b n q) (fun (_ : Unit) e => e = .returned (.bool true)) (fun _ => HnI b n { q with own := setI q.own k x }) := by
  rintro S ⟨⟨g, ct⟩, h⟩
  exact (hand_answer k x hk hn ho hx hx4 h).mono fun e w' ⟨he, hg⟩ => ⟨(), he, hg.conv fun S w h => ⟨⟨g, wrap64 (ct + 1)⟩, h⟩⟩
set_option maxRecDepth 100000 in
theorem hni_leave (k : Nat) (hk : k < n) (hn : n ≤ 16) (ho : q.own k ≠ -1) (w : World) : Does Tryz.prog 166 #[.pointer (some ⟨b, 0, none⟩), .int .i64 (k : Int)] w (HnI b n q) (fun (_ : Unit) e => e = .returned (.bool true)) (fun _ => HnI b n { q with own := setI q.own k (-1) }) := by
  rintro S ⟨⟨g, ct⟩, h⟩
  exact (hand_leave k hk hn ho h).mono fun e w' ⟨he, hg⟩ => ⟨(), he, hg.conv fun S w h => ⟨⟨g, wrap64 (ct + 1)⟩, h⟩⟩
set_option maxRecDepth 100000 in
theorem hni_join (k : Nat) (hk : k < n) (hn : n ≤ 16) (ho : q.own k = -1) (w : World) : Does Tryz.prog 52 #[.pointer (some ⟨b, 0, none⟩), .int .i64 (k : Int)] w (HnI b n q) (fun (_ : Unit) e => e = .returned (.tuple #[.int .i64 q.st, .bool q.sn, .bool true])) (fun _ => HnI b n { q with own := setI q.own k q.st }) := by
  rintro S ⟨⟨g, ct⟩, h⟩
  exact (hand_join k hk hn ho h).mono fun e w' ⟨he, hg⟩ => ⟨(), he, hg.conv fun S w h => ⟨⟨g, wrap64 (ct + 1)⟩, h⟩⟩
set_option maxRecDepth 100000 in
theorem hni_poll (i : Int) (hn : n ≤ 16) (w : World) : Does Tryz.prog 137 #[.pointer (some ⟨b, 0, none⟩), .int .i64 i] w (HnI b n q) (aBool fun _ => True) (fun _ => HnI b n q) := by
  rintro S ⟨⟨g, ct⟩, h⟩
  exact (hand_poll i hn h).mono fun e w' ⟨he, hg⟩ => ⟨_, ⟨he, trivial⟩, hg.conv fun S w h => ⟨⟨g, wrap64 (ct + 1)⟩, h⟩⟩
set_option maxRecDepth 100000 in
theorem hni_post (x : Int) (fl : Bool) (hx : 0 ≤ x) (hx4 : x ≤ 4) (w : World) : Does Tryz.prog 83 #[.pointer (some ⟨b, 0, none⟩), .int .i64 x, .bool fl] w (HnI b n q) (fun (_ : Unit) e => e = .returned (.bool true)) (fun _ => HnI b n { q with st := x, sn := q.sn != fl }) := by
  rintro S ⟨⟨g, ct⟩, h⟩
  exact (hand_post x fl hx hx4 h).mono fun e w' ⟨he, hg⟩ => ⟨(), he, hg.conv fun S w h => ⟨⟨g, wrap64 (ct + 1)⟩, h⟩⟩
set_option maxRecDepth 100000 in
theorem words_small (hc : c.ok) : c.words ≤ 20000 := by have := hc.frags; have := hc.spine; have := hc.globals; unfold Cf.words; omega
set_option maxRecDepth 100000 in
theorem memi_read (k : Nat) (hc : c.ok) (hk : k < c.words) (w : World) : Does Tryz.prog 86 #[.pointer (some ⟨b, 0, none⟩), .int .i64 (k : Int)] w (MemI b c m) (fun v e => e = .returned (.tuple #[v, .int .i64 0]) ∧ ∃ f, MemOk c m f ∧ v = f k) (fun _ => MemI b c m) := by
  rintro S ⟨⟨g, f⟩, hf, h⟩
  exact (mem_read k h hk (words_small hc)).mono fun e w' ⟨he, hg⟩ => ⟨f k, ⟨he, f, hf, rfl⟩, hg.conv fun S w h => ⟨⟨g, f⟩, hf, h⟩⟩
set_option maxRecDepth 100000 in
theorem memi_write (k x y : Nat) {m' : Mq} (hc : c.ok) (hk : k < c.words) (hm : ∀ f, MemOk c m f → MemOk c m' (setV f k (.complex .f64 x y))) (w : World) : Does Tryz.prog 182 #[.pointer (some ⟨b, 0, none⟩), .int .i64 (k : Int), .complex .f64 x y] w (MemI b c m) (fun (_ : Unit) e => e = .returned (.int .i64 0)) (fun _ => MemI b c m') := by
  rintro S ⟨⟨g, f⟩, hf, h⟩
  exact (mem_write k x y h hk (words_small hc)).mono fun e w' ⟨he, hg⟩ => ⟨(), he, hg.conv fun S w h => ⟨⟨g, _⟩, hm f hf, h⟩⟩
end
end Go.Proofs.YtnkgnhpapcnebaaGreat
/- A thread: it looks whether there is something to answer. -/
namespace Go.Proofs.YtnkgnhpapcnebaaGreat
open Go.RowKit
attribute [local go_sem] run_store_complex via_ret via_normal via_exit via_panic
/-- A local. -/
structure Lc where
  ref : Bool
  k : Nat
  i : Nat
def locM (l : Nat → Lc) (j : Nat) : Value := if j % 2 = 0 then .bool (l (j / 2)).ref else cx (l (j / 2)).k (l (j / 2)).i
set_option maxRecDepth 100000 in
theorem locM0 (l : Nat → Lc) (j : Nat) : locM l (j * 2) = .bool (l j).ref := by unfold locM; rw [if_pos (by omega), show j * 2 / 2 = j by omega]
set_option maxRecDepth 100000 in
theorem locM1 (l : Nat → Lc) (j : Nat) : locM l (j * 2 + 1) = cx (l j).k (l j).i := by unfold locM; rw [if_neg (by omega), show (j * 2 + 1) / 2 = j by omega]
/-- Locals that are wellformed: small; only the first may refer, to F or to nothing. -/
structure LocOk (F n : Nat) (l : Nat → Lc) : Prop where
  small : ∀ j, j < n → (l j).k ≤ 17 ∧ (l j).i ≤ 17
  num : ∀ j, 1 ≤ j → j < n → (l j).ref = false
  ref : (l 0).ref = true → (l 0).i = 1 ∧ ((l 0).k = 0 ∨ (l 0).k = F + 1)
/-- Whether the first refers to F. -/
def holds (l : Nat → Lc) : Bool := (l 0).ref && decide (1 ≤ (l 0).k)
/-- A thread's locals beside the rest. -/
def LThr (b t : Nat) (ov : Value) (lg n : Nat) (x : Tc) (l : Nat → Lc) (X : Thing) : Thing := Thr b t ov (.slice (some ⟨lg, 0, none⟩) n n) x (Sep (Vals lg (n * 2) 39 (locM l)) X)
section
variable {b t : Nat} {ov lv : Value} {x : Tc} {X : Thing} {S : Nat → Prop} {w w' : World} {A : CA} {c : Cf} {q : Q} {lg n : Nat} {l : Nat → Lc}
set_option maxRecDepth 100000 in
theorem act_looks_eq (hst : q.h.st = x.st) (h : (Sep (Core A c q) (Thr b t ov lv x X)).at_ S w) :
    Calls Tryz.prog 106 #[.pointer (some ⟨b, 0, none⟩), .pointer (some ⟨A.b, 0, none⟩)] w fun e w' => e = .returned (.bool true) ∧ Goes (Sep (Core A c q) (Thr b t ov lv x X)) S w w' := by
  have g0 := Goes.begin h
  have k12 := g0.l.c 12 (v := .pointer (some ⟨A.bh, 0, none⟩)) rfl
  have HL := Lib.hid ((core_hnR (hni_look _)).l.on g0)
  clear g0 h
  go_enter Tryz.func106, Tryz.ntmps106
  go_wp2_with fail
  with_reducible refine HL.out.mono ?_
  rintro e w1 ⟨_, rfl, hg⟩
  have c4 := hg.r.c 4 (v := .int .i64 x.st) rfl
  have HG := Lib.hid hg
  clear HL hg k12
  rw [hst]
  go_wp2_with fail
  go_ret
  exact ⟨rfl, HG.out⟩
set_option maxRecDepth 100000 in
theorem act_looks_no {st : Int} (hq : q.h.st = st) (hst : ¬ st = x.st) (h3 : ¬ st = 3) (h : (Sep (Core A c q) (Thr b t ov lv x X)).at_ S w) :
    Calls Tryz.prog 106 #[.pointer (some ⟨b, 0, none⟩), .pointer (some ⟨A.b, 0, none⟩)] w fun e w' => ∃ sn, e = .returned (.bool false) ∧ Goes (Sep (Core A c q) (Thr b t ov lv { x with seen := st, grey := .slice none 0 0, pc := 2, sn := sn } X)) S w w' := by
  have g0 := Goes.begin h
  have k12 := g0.l.c 12 (v := .pointer (some ⟨A.bh, 0, none⟩)) rfl
  have HL := Lib.hid ((core_hnR (hni_look _)).l.on g0)
  rw [hq] at HL
  clear g0 h
  go_enter Tryz.func106, Tryz.ntmps106
  go_wp2_with fail
  with_reducible refine HL.out.mono ?_
  rintro e w1 ⟨_, rfl, hg⟩
  have c4 := hg.r.c 4 (v := .int .i64 x.st) rfl
  have c8 := hg.r.c 8 (v := .int .i64 x.seen) rfl
  have f8 := hg.r.fr 8
  have g1 : Goes (Sep (Core A c q) (Thr b t ov lv { x with seen := st } X)) S w _ := hg.then fun S h => goesR (fun S h => (Goes.begin h).put 8 (.int .i64 st) (cs' := thCells t ov lv { x with seen := st }) rfl) S h
  have c9 := g1.r.c 9 (v := x.grey) rfl
  have f9 := g1.r.fr 9
  have g2 : Goes (Sep (Core A c q) (Thr b t ov lv { x with seen := st, grey := .slice none 0 0 } X)) S w _ := g1.then fun S h => goesR (fun S h => (Goes.begin h).put 9 (.slice none 0 0) (cs' := thCells t ov lv { x with seen := st, grey := .slice none 0 0 }) rfl) S h
  have c7 := g2.r.c 7 (v := .int .i64 x.pc) rfl
  have f7 := g2.r.fr 7
  have g3 : Goes (Sep (Core A c q) (Thr b t ov lv { x with seen := st, grey := .slice none 0 0, pc := 2 } X)) S w _ := g2.then fun S h => goesR (fun S h => (Goes.begin h).put 7 (.int .i64 2) (cs' := thCells t ov lv { x with seen := st, grey := .slice none 0 0, pc := 2 }) rfl) S h
  have G3 := Lib.hid g3
  clear HL hg g1 g2 g3 k12
  by_cases h1 : st = 1
  · subst h1
    go_upto_region 5 with fail
    generalize World.setCell _ _ _ = w2 at *
    clear c4 c8 f8 c9 f9 c7 f7
    have c5 := G3.out.r.c 5 (v := .bool x.sn) rfl
    have f5 := G3.out.r.fr 5
    have G4 := Lib.hid (G3.out.then fun S h => goesR (B' := Thr b t ov lv { x with seen := 1, grey := .slice none 0 0, pc := 2, sn := q.h.sn } X) (fun S h => (Goes.begin h).put 5 (.bool q.h.sn) (cs' := thCells t ov lv { x with seen := 1, grey := .slice none 0 0, pc := 2, sn := q.h.sn }) rfl) S h)
    clear G3
    go_wp2_with fail
    go_ret
    exact ⟨_, rfl, G4.out⟩
  · go_wp2_with fail
    go_ret
    exact ⟨x.sn, rfl, G3.out⟩
end
end Go.Proofs.YtnkgnhpapcnebaaGreat
