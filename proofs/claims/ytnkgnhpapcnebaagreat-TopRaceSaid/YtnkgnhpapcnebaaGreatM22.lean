/- Need where an object is made. -/
import Derived.Test.YtnkgnhpapcnebaaGreatM21
import Derived.Test.YtnkgnhpapcnebaaGreatM20
set_option linter.unusedVariables false
set_option linter.unusedSimpArgs false
set_option maxHeartbeats 8000000
namespace Go.Proofs.YtnkgnhpapcnebaaGreat
open Go.RowKit
attribute [local go_sem] run_store_complex via_ret via_normal via_exit via_panic
section
variable {c : Cf} {g cap : Nat} {S : Nat → Prop} {w w' : World}
set_option maxRecDepth 100000 in
theorem op_need1 {A C N z1 z2 : Nat} {l : List Bool} (hc : c.ok) (hA : A < c.locals) (hs : c.shapes[0]? = some (false, l)) (h : (Conf c g cap).at_ S w) :
    Calls Tryz.prog 237 #[cfV c g cap, .agg #[.int .i64 1, .int .i64 A, .int .i64 0, .int .i64 C, .int .i64 N, .complex .f64 z1 z2]] w fun e w' => e = .returned (.tuple #[.int .i64 1, .int .i64 0]) ∧ Below w.heap.size w w' := by
  have hb0 : Below w.heap.size w ((w.alloc (.cells (cfCells c (.slice (some ⟨g, 0, none⟩) c.shapes.length cap)) 36)).alloc (.cells #[.int .i64 1, .int .i64 A, .int .i64 0, .int .i64 C, .int .i64 N, .complex .f64 z1 z2] 26)) := ((Below.refl w.heap.size w).alloc (Nat.le_refl _) _).alloc (by simp) _
  have C0 : Blk ((w.alloc (.cells (cfCells c (.slice (some ⟨g, 0, none⟩) c.shapes.length cap)) 36)).alloc (.cells #[.int .i64 1, .int .i64 A, .int .i64 0, .int .i64 C, .int .i64 N, .complex .f64 z1 z2] 26)) w.heap.size (cfCells c (.slice (some ⟨g, 0, none⟩) c.shapes.length cap)) 36 := (Blk.new w _ _).alloc _
  have D0 : Blk ((w.alloc (.cells (cfCells c (.slice (some ⟨g, 0, none⟩) c.shapes.length cap)) 36)).alloc (.cells #[.int .i64 1, .int .i64 A, .int .i64 0, .int .i64 C, .int .i64 N, .complex .f64 z1 z2] 26)) (w.heap.size + 1) #[.int .i64 1, .int .i64 A, .int .i64 0, .int .i64 C, .int .i64 N, .complex .f64 z1 z2] 26 := by have := Blk.new (w.alloc (.cells (cfCells c (.slice (some ⟨g, 0, none⟩) c.shapes.length cap)) 36)) #[.int .i64 1, .int .i64 A, .int .i64 0, .int .i64 C, .int .i64 N, .complex .f64 z1 z2] 26; rw [World.size_alloc] at this; exact this
  have HB0 := Lib.hid hb0
  have HC0 := Lib.hid C0
  have HD0 := Lib.hid D0
  have g0 := Lib.hid ((Goes.begin h).below_ hb0)
  have HK := Lib.hid hc
  have HSH := Lib.hid hs
  have hl6 : l.length ≤ 6 := (hc.shape _ (List.mem_of_getElem? hs)).1
  have HCK := Lib.hid (op_check1 (C := C) (N := N) (z1 := z1) (z2 := z2) hc hA hs g0.out.is)
  unfold cfV at *
  simp only [cfCells] at *
  clear h hc hb0 hs
  go_enter Tryz.func237, Tryz.ntmps237
  go_upto_region 1 with fail
  generalize (w.alloc _).alloc _ = W1 at *
  generalize hob : w.heap.size + 1 = ob at *
  obtain ⟨c0, c1, c2, c3, c4, c5, c6, c7, c8⟩ := cf9 C0
  have e0 := D0.cell 0
  have e1 := D0.cell 1
  have e2 := D0.cell 2
  have e3 := D0.cell 3
  have e4 := D0.cell 4
  have e5 := D0.cell 5
  simp at e0 e1 e2 e3 e4 e5
  clear C0 D0
  go_wp2_with fail
  with_reducible refine (HCK.out).mono ?_
  rintro e w2 ⟨rfl, hb⟩
  have C2 := Lib.hid (keepBlk HC0.out hb)
  have D2 := Lib.hid (keepBlk HD0.out hb)
  have HB2 := Lib.hid (HB0.out.trans (hb.mono HB0.out.size))
  have HA := Lib.hid (conf_shapeK (i := 0) HK.out (g0.out.below_ hb).is HSH.out)
  rw [show ((0 : Nat) : Int) = 0 from rfl] at HA
  unfold cfV at HA
  clear c0 c1 c2 c3 c4 c5 c6 c7 c8 e0 e1 e2 e3 e4 e5 HC0 HD0 HB0 hb g0 HCK
  obtain ⟨c0, c1, c2, c3, c4, c5, c6, c7, c8⟩ := cf9 C2.out
  have e2 : w2.cell? ⟨ob, 2, none⟩ = some (.int .i64 0) := D2.out.cell 2
  go_wp2_with fail
  with_reducible refine HA.out.mono ?_
  rintro e w5 ht
  obtain ⟨u, rfl, hst⟩ := told_st ht
  obtain ⟨x1, k1, rfl⟩ := hst.1.choose_spec.1.1.slice
  have hb := hst.below
  have D5 := keepBlk D2.out hb
  have HB5 := HB2.out.trans (hb.mono HB2.out.size)
  have D6 := Lib.hid (D5.alloc (.cells #[.bool false, .slice x1 l.length k1] 57))
  have E6 := Lib.hid (Blk.new w5 #[.bool false, .slice x1 l.length k1] 57)
  have HB6 := Lib.hid (HB5.alloc HB5.size (.cells #[.bool false, .slice x1 l.length k1] 57))
  clear ht hst hb D5 HB5 HA C2 D2 HB2 c0 c1 c2 c3 c4 c5 c6 c7 c8 e2
  go_upto_region 4 with fail
  generalize w5.alloc _ = w7 at *
  generalize w5.heap.size = sb at *
  have E7 := E6.out
  have D7 := D6.out
  have g7 := Lib.hid (emp_goes w7).drew_
  have hne : Nonempty (In Emp (fun _ => False) w7) := ⟨⟨_, g7.out⟩⟩
  have e0 : ∀ i : In Emp (fun _ => False) w7, i.w.cell? ⟨ob, 0, none⟩ = some (.int .i64 1) := fun i => (keepBlk D7 (emp_below i.h)).cell 0
  have e1 : ∀ i : In Emp (fun _ => False) w7, i.w.cell? ⟨ob, 1, none⟩ = some (.int .i64 A) := fun i => (keepBlk D7 (emp_below i.h)).cell 1
  have e2 : ∀ i : In Emp (fun _ => False) w7, i.w.cell? ⟨ob, 2, none⟩ = some (.int .i64 0) := fun i => (keepBlk D7 (emp_below i.h)).cell 2
  have e3 : ∀ i : In Emp (fun _ => False) w7, i.w.cell? ⟨ob, 3, none⟩ = some (.int .i64 C) := fun i => (keepBlk D7 (emp_below i.h)).cell 3
  have e4 : ∀ i : In Emp (fun _ => False) w7, i.w.cell? ⟨ob, 4, none⟩ = some (.int .i64 N) := fun i => (keepBlk D7 (emp_below i.h)).cell 4
  have e5 : ∀ i : In Emp (fun _ => False) w7, i.w.cell? ⟨ob, 5, none⟩ = some (.complex .f64 z1 z2) := fun i => (keepBlk D7 (emp_below i.h)).cell 5
  have s0 : ∀ i : In Emp (fun _ => False) w7, i.w.cell? ⟨sb, 0, none⟩ = some (.bool false) := fun i => (keepBlk E7 (emp_below i.h)).cell 0
  have s1 : ∀ i : In Emp (fun _ => False) w7, i.w.cell? ⟨sb, 1, none⟩ = some (.slice x1 l.length k1) := fun i => (keepBlk E7 (emp_below i.h)).cell 1
  have HZ := Lib.hid fun w1 (hg : Goes Emp (fun _ => False) w7 w1) => hg.plain (op_size1 (A := (A : Int)) (B := 0) (C := (C : Int)) (N := (N : Int)) (z1 := z1) (z2 := z2) x1 k1 w1 hl6)
  have HP := Lib.hid fun w1 (hg : Goes Emp (fun _ => False) w7 w1) => hg.plain (shape_spine x1 l.length k1 N w1 hl6)
  clear D7 E7 D6 E6
  go_wp2_with fail
  refine wp_region_in (by kernel_rfl) (by kernel_rfl) g7.out ?_
  repeat (go_big_quiet_step (first | exact In.call HZ.out | exact In.call HP.out))
  refine wpQuiet_nil ?_
  intro w8 g8
  have HF := Lib.hid (HB6.out.trans ((emp_below g8).mono HB6.out.size))
  clear e0 e1 e2 e3 e4 e5 s0 s1 HZ HP g7 hne g8 HB6
  go_wp2_with fail
  go_ret2
  exact ⟨rfl, HF.out⟩
end
end Go.Proofs.YtnkgnhpapcnebaaGreat
/- A thread: it asks for an object. -/
namespace Go.Proofs.YtnkgnhpapcnebaaGreat
open Go.RowKit
attribute [local go_sem] run_store_complex via_ret via_normal via_exit via_panic
set_option maxRecDepth 100000 in
theorem sepAt.rot {A B C : Thing} {U : Nat → Prop} {w : World} (h : (Sep (Sep A B) C).at_ U w) : (Sep (Sep A C) B).at_ U w := sepAt.assoc' (sepAt.monoR (fun _ h => sepAt.swap h) (sepAt.assoc h))
section
variable {b t : Nat} {ov lv : Value} {x : Tc} {X : Thing} {S : Nat → Prop} {w w' : World} {A : CA} {c : Cf} {q : Q} {lg n : Nat} {l : Nat → Lc}
set_option maxRecDepth 100000 in
theorem act_both_cell {st : Int} (c4 : w.cell? ⟨b, 4, none⟩ = some (.int .i64 st)) : Calls Tryz.prog 239 #[.pointer (some ⟨b, 0, none⟩)] w fun e w' => e = .returned (.bool (bth st)) ∧ w = w' := by
  unfold bth
  by_cases h1 : st = 1
  · subst h1
    go_enter Tryz.func239, Tryz.ntmps239
    go_wp2_with fail
    go_ret
    exact ⟨rfl, rfl⟩
  · have h2 : (st == 1) = false := by simpa using h1
    rw [h2]
    have h3 : decide (st = 1) = false := by simpa using h1
    go_enter Tryz.func239, Tryz.ntmps239
    go_wp2_with fail
    go_ret
    exact ⟨by simp, rfl⟩
set_option maxRecDepth 100000 in
theorem act_asks {o : Opn} {ll : List Bool} (hc : c.ok) (hs : c.shapes[0]? = some (false, ll)) (hk : o.kd = 1) (hb : o.b = 0) (ha : o.a < c.locals) (ht : t < c.threads) (hask : q.ask = false) (h : (Sep (Core A c q) (Thr b t ov lv x X)).at_ S w) :
    Calls Tryz.prog 171 #[.pointer (some ⟨b, 0, none⟩), .pointer (some ⟨A.b, 0, none⟩), .agg (opc o)] w fun e w' => ∃ v u, e = .returned (Rs.v ⟨0, 0, 0, false, 0, 0, false⟩) ∧ Goes (Sep (Sep (Sep (Core A c { q with ask := true }) (Thr b t ov lv { x with wr := u, got := v, ph := 2, at_ := 7 } X)) (Got v c.F)) (Seq 2 u 8 (wc c.F (yl ll) 8))) S w w' := by
  obtain ⟨qm, qh, qb, qa⟩ := q
  simp only at hask
  subst hask
  have hoc : opc o = #[.int .i64 1, .int .i64 (o.a : Int), .int .i64 0, .int .i64 (o.c : Int), .int .i64 (o.n : Int), .complex .f64 o.z1 o.z2] := by unfold opc; rw [hk, hb]; rfl
  rw [hoc]
  have g0 := ((Goes.begin h).moreSt (St.fresh #[.int .i64 1, .int .i64 (o.a : Int), .int .i64 0, .int .i64 (o.c : Int), .int .i64 (o.n : Int), .complex .f64 o.z1 o.z2] 26)).moreSt (St.fresh zeroRes 41)
  rw [World.size_alloc] at g0
  obtain ⟨vb, hvb⟩ : ∃ k, w.heap.size = k := ⟨_, rfl⟩
  obtain ⟨rb, hrb⟩ : ∃ k, vb + 1 = k := ⟨_, rfl⟩
  rw [hvb, hrb] at g0
  have g1 := Lib.hid g0.drew_
  have hne : Nonempty (In (Sep (Sep (Sep (Core A c ⟨qm, qh, qb, false⟩) (Thr b t ov lv x X)) (Var vb #[.int .i64 1, .int .i64 (o.a : Int), .int .i64 0, .int .i64 (o.c : Int), .int .i64 (o.n : Int), .complex .f64 o.z1 o.z2] 26)) (Var rb #[.int .i64 0, .int .i64 0, .int .i64 0, .bool false, .complex .f64 0 0] 41)) S w) := ⟨⟨_, g1.out⟩⟩
  have e0 := fun i : In (Sep (Sep (Sep (Core A c ⟨qm, qh, qb, false⟩) (Thr b t ov lv x X)) (Var vb #[.int .i64 1, .int .i64 (o.a : Int), .int .i64 0, .int .i64 (o.c : Int), .int .i64 (o.n : Int), .complex .f64 o.z1 o.z2] 26)) (Var rb #[.int .i64 0, .int .i64 0, .int .i64 0, .bool false, .complex .f64 0 0] 41)) S w => i.h.l.l.l.c 0 (v := .int .i64 c.frags) rfl
  have e1 := fun i : In (Sep (Sep (Sep (Core A c ⟨qm, qh, qb, false⟩) (Thr b t ov lv x X)) (Var vb #[.int .i64 1, .int .i64 (o.a : Int), .int .i64 0, .int .i64 (o.c : Int), .int .i64 (o.n : Int), .complex .f64 o.z1 o.z2] 26)) (Var rb #[.int .i64 0, .int .i64 0, .int .i64 0, .bool false, .complex .f64 0 0] 41)) S w => i.h.l.l.l.c 1 (v := .int .i64 c.spine) rfl
  have e2 := fun i : In (Sep (Sep (Sep (Core A c ⟨qm, qh, qb, false⟩) (Thr b t ov lv x X)) (Var vb #[.int .i64 1, .int .i64 (o.a : Int), .int .i64 0, .int .i64 (o.c : Int), .int .i64 (o.n : Int), .complex .f64 o.z1 o.z2] 26)) (Var rb #[.int .i64 0, .int .i64 0, .int .i64 0, .bool false, .complex .f64 0 0] 41)) S w => i.h.l.l.l.c 2 (v := .int .i64 c.globals) rfl
  have e3 := fun i : In (Sep (Sep (Sep (Core A c ⟨qm, qh, qb, false⟩) (Thr b t ov lv x X)) (Var vb #[.int .i64 1, .int .i64 (o.a : Int), .int .i64 0, .int .i64 (o.c : Int), .int .i64 (o.n : Int), .complex .f64 o.z1 o.z2] 26)) (Var rb #[.int .i64 0, .int .i64 0, .int .i64 0, .bool false, .complex .f64 0 0] 41)) S w => i.h.l.l.l.c 3 (v := .int .i64 c.threads) rfl
  have e4 := fun i : In (Sep (Sep (Sep (Core A c ⟨qm, qh, qb, false⟩) (Thr b t ov lv x X)) (Var vb #[.int .i64 1, .int .i64 (o.a : Int), .int .i64 0, .int .i64 (o.c : Int), .int .i64 (o.n : Int), .complex .f64 o.z1 o.z2] 26)) (Var rb #[.int .i64 0, .int .i64 0, .int .i64 0, .bool false, .complex .f64 0 0] 41)) S w => i.h.l.l.l.c 4 (v := .int .i64 c.locals) rfl
  have e5 := fun i : In (Sep (Sep (Sep (Core A c ⟨qm, qh, qb, false⟩) (Thr b t ov lv x X)) (Var vb #[.int .i64 1, .int .i64 (o.a : Int), .int .i64 0, .int .i64 (o.c : Int), .int .i64 (o.n : Int), .complex .f64 o.z1 o.z2] 26)) (Var rb #[.int .i64 0, .int .i64 0, .int .i64 0, .bool false, .complex .f64 0 0] 41)) S w => i.h.l.l.l.c 5 (v := .int .i64 0) rfl
  have e6 := fun i : In (Sep (Sep (Sep (Core A c ⟨qm, qh, qb, false⟩) (Thr b t ov lv x X)) (Var vb #[.int .i64 1, .int .i64 (o.a : Int), .int .i64 0, .int .i64 (o.c : Int), .int .i64 (o.n : Int), .complex .f64 o.z1 o.z2] 26)) (Var rb #[.int .i64 0, .int .i64 0, .int .i64 0, .bool false, .complex .f64 0 0] 41)) S w => i.h.l.l.l.c 6 (v := .int .i64 c.stack) rfl
  have e7 := fun i : In (Sep (Sep (Sep (Core A c ⟨qm, qh, qb, false⟩) (Thr b t ov lv x X)) (Var vb #[.int .i64 1, .int .i64 (o.a : Int), .int .i64 0, .int .i64 (o.c : Int), .int .i64 (o.n : Int), .complex .f64 o.z1 o.z2] 26)) (Var rb #[.int .i64 0, .int .i64 0, .int .i64 0, .bool false, .complex .f64 0 0] 41)) S w => i.h.l.l.l.c 7 (v := .int .i64 c.low) rfl
  have e8 := fun i : In (Sep (Sep (Sep (Core A c ⟨qm, qh, qb, false⟩) (Thr b t ov lv x X)) (Var vb #[.int .i64 1, .int .i64 (o.a : Int), .int .i64 0, .int .i64 (o.c : Int), .int .i64 (o.n : Int), .complex .f64 o.z1 o.z2] 26)) (Var rb #[.int .i64 0, .int .i64 0, .int .i64 0, .bool false, .complex .f64 0 0] 41)) S w => i.h.l.l.l.c 8 (v := .slice (some ⟨A.g, 0, none⟩) c.shapes.length A.cap) rfl
  have b0 := fun i : In (Sep (Sep (Sep (Core A c ⟨qm, qh, qb, false⟩) (Thr b t ov lv x X)) (Var vb #[.int .i64 1, .int .i64 (o.a : Int), .int .i64 0, .int .i64 (o.c : Int), .int .i64 (o.n : Int), .complex .f64 o.z1 o.z2] 26)) (Var rb #[.int .i64 0, .int .i64 0, .int .i64 0, .bool false, .complex .f64 0 0] 41)) S w => i.h.l.r.vc 0 (v := .int .i64 1) rfl
  have b1 := fun i : In (Sep (Sep (Sep (Core A c ⟨qm, qh, qb, false⟩) (Thr b t ov lv x X)) (Var vb #[.int .i64 1, .int .i64 (o.a : Int), .int .i64 0, .int .i64 (o.c : Int), .int .i64 (o.n : Int), .complex .f64 o.z1 o.z2] 26)) (Var rb #[.int .i64 0, .int .i64 0, .int .i64 0, .bool false, .complex .f64 0 0] 41)) S w => i.h.l.r.vc 1 (v := .int .i64 (o.a : Int)) rfl
  have b2 := fun i : In (Sep (Sep (Sep (Core A c ⟨qm, qh, qb, false⟩) (Thr b t ov lv x X)) (Var vb #[.int .i64 1, .int .i64 (o.a : Int), .int .i64 0, .int .i64 (o.c : Int), .int .i64 (o.n : Int), .complex .f64 o.z1 o.z2] 26)) (Var rb #[.int .i64 0, .int .i64 0, .int .i64 0, .bool false, .complex .f64 0 0] 41)) S w => i.h.l.r.vc 2 (v := .int .i64 0) rfl
  have b3 := fun i : In (Sep (Sep (Sep (Core A c ⟨qm, qh, qb, false⟩) (Thr b t ov lv x X)) (Var vb #[.int .i64 1, .int .i64 (o.a : Int), .int .i64 0, .int .i64 (o.c : Int), .int .i64 (o.n : Int), .complex .f64 o.z1 o.z2] 26)) (Var rb #[.int .i64 0, .int .i64 0, .int .i64 0, .bool false, .complex .f64 0 0] 41)) S w => i.h.l.r.vc 3 (v := .int .i64 (o.c : Int)) rfl
  have b4 := fun i : In (Sep (Sep (Sep (Core A c ⟨qm, qh, qb, false⟩) (Thr b t ov lv x X)) (Var vb #[.int .i64 1, .int .i64 (o.a : Int), .int .i64 0, .int .i64 (o.c : Int), .int .i64 (o.n : Int), .complex .f64 o.z1 o.z2] 26)) (Var rb #[.int .i64 0, .int .i64 0, .int .i64 0, .bool false, .complex .f64 0 0] 41)) S w => i.h.l.r.vc 4 (v := .int .i64 (o.n : Int)) rfl
  have b5 := fun i : In (Sep (Sep (Sep (Core A c ⟨qm, qh, qb, false⟩) (Thr b t ov lv x X)) (Var vb #[.int .i64 1, .int .i64 (o.a : Int), .int .i64 0, .int .i64 (o.c : Int), .int .i64 (o.n : Int), .complex .f64 o.z1 o.z2] 26)) (Var rb #[.int .i64 0, .int .i64 0, .int .i64 0, .bool false, .complex .f64 0 0] 41)) S w => i.h.l.r.vc 5 (v := .complex .f64 o.z1 o.z2) rfl
  have HND := Lib.hid fun w1 (hg : Goes (Sep (Sep (Sep (Core A c ⟨qm, qh, qb, false⟩) (Thr b t ov lv x X)) (Var vb #[.int .i64 1, .int .i64 (o.a : Int), .int .i64 0, .int .i64 (o.c : Int), .int .i64 (o.n : Int), .complex .f64 o.z1 o.z2] 26)) (Var rb #[.int .i64 0, .int .i64 0, .int .i64 0, .bool false, .complex .f64 0 0] 41)) S w w1) => hg.plain (op_need1 (c := c) (g := A.g) (cap := A.cap) (A := o.a) (C := o.c) (N := o.n) (z1 := o.z1) (z2 := o.z2) hc ha hs (core_confIs hg.l.l.l.is).choose_spec)
  unfold cfV at HND
  have HC := Lib.hid hc
  have HS := Lib.hid hs
  have HK := Lib.hid hk
  have HB := Lib.hid hb
  have HOC := Lib.hid hoc
  unfold Rs.v
  simp only [zeroRes] at *
  clear h g0 hc hs hk hb hoc
  go_enter Tryz.func171, Tryz.ntmps171
  go_upto_region 1 with fail
  generalize (w.alloc _).alloc _ = w1 at *
  refine wp_region_in (by kernel_rfl) (by kernel_rfl) g1.out ?_
  repeat (go_big_quiet_step (exact In.call HND.out))
  refine wpQuiet_nil ?_
  intro w2 hg2
  clear g1 hne e0 e1 e2 e3 e4 e5 e6 e7 e8 b0 b1 b2 b3 b4 b5 HND
  go_wp2_with fail
  have g3 := hg2.drew_
  refine wp_region_held_drew (S := (fun w' => w'.cell? ⟨A.b, 11, none⟩ = some (.pointer (some ⟨A.bsp, 0, none⟩)) ∧ w'.cell? ⟨b, 0, none⟩ = some (.int .i64 (t : Int)) ∧ w'.cell? ⟨b, 5, none⟩ = some (.bool x.sn) ∧ w'.cell? ⟨b, 4, none⟩ = some (.int .i64 x.st))) (by kernel_rfl) ⟨g3.l.l.l.c 11 (v := .pointer (some ⟨A.bsp, 0, none⟩)) rfl, g3.l.l.r.c 0 (v := .int .i64 (t : Int)) rfl, g3.l.l.r.c 5 (v := .bool x.sn) rfl, g3.l.l.r.c 4 (v := .int .i64 x.st) rfl⟩ (fun hHeld => ?_)
  generalize w2.drew = wd at *
  refine wpAnyH_take (i := 0) (oi := _) (v := ?_) rfl (by kernel_rfl) (by kernel_rfl) (by kernel_rfl) (fun _ _ _ h => h) (Or.inl ⟨by rfl, ?_⟩) (by assumption) ?_
  rotate_left
  · intro w hSw
    (try dsimp only at hSw)
    go_simp
    with_reducible rfl
  try simp only [Act.put, List.setIfInBounds_toArray, List.set_cons_zero, List.set_cons_succ]
  refine wpAnyH_take (i := 1) (oi := _) (v := ?_) rfl (by kernel_rfl) (by kernel_rfl) (by kernel_rfl) (fun _ _ _ h => h) (Or.inl ⟨by rfl, ?_⟩) (by assumption) ?_
  rotate_left
  · intro w hSw
    (try dsimp only at hSw)
    go_simp
    with_reducible rfl
  try simp only [Act.put, List.setIfInBounds_toArray, List.set_cons_zero, List.set_cons_succ]
  refine wpAnyH_take (i := 2) (oi := _) (v := ?_) rfl (by kernel_rfl) (by kernel_rfl) (by kernel_rfl) (fun _ _ _ h => h) (Or.inl ⟨by rfl, ?_⟩) (by assumption) ?_
  rotate_left
  · intro w hSw
    (try dsimp only at hSw)
    go_simp
    with_reducible rfl
  try simp only [Act.put, List.setIfInBounds_toArray, List.set_cons_zero, List.set_cons_succ]
  refine wpAnyH_take (i := 3) (oi := _) (v := ?_) rfl (by kernel_rfl) (by kernel_rfl) (by kernel_rfl) (fun _ _ _ h => h) (Or.inl ⟨by rfl, ?_⟩) (by assumption) ?_
  rotate_left
  · intro w hSw
    (try dsimp only at hSw)
    go_simp
    with_reducible rfl
  try simp only [Act.put, List.setIfInBounds_toArray, List.set_cons_zero, List.set_cons_succ]
  refine wpAnyH_take (i := 4) (oi := _) (v := ?_) rfl (by kernel_rfl) (by kernel_rfl) (by kernel_rfl) (fun _ _ _ h => h) (Or.inl ⟨by rfl, ?_⟩) (by assumption) ?_
  rotate_left
  · intro w hSw
    (try dsimp only at hSw)
    go_simp
    with_reducible rfl
  try simp only [Act.put, List.setIfInBounds_toArray, List.set_cons_zero, List.set_cons_succ]
  refine wpAnyH_take (i := 5) (oi := _) (v := ?_) rfl (by kernel_rfl) (by kernel_rfl) (by kernel_rfl) (fun _ _ _ h => h) (Or.inl ⟨by rfl, ?_⟩) (by assumption) ?_
  rotate_left
  · intro w hSw
    (try dsimp only at hSw)
    go_simp
    with_reducible rfl
  try simp only [Act.put, List.setIfInBounds_toArray, List.set_cons_zero, List.set_cons_succ]
  refine wpAnyH_take (i := 6) (oi := _) (v := ?_) rfl (by kernel_rfl) (by kernel_rfl) (by kernel_rfl) (fun _ _ _ h => h) (Or.inl ⟨by rfl, ?_⟩) (by assumption) ?_
  rotate_left
  · intro w hSw
    (try dsimp only at hSw)
    go_simp
    with_reducible rfl
  try simp only [Act.put, List.setIfInBounds_toArray, List.set_cons_zero, List.set_cons_succ]
  refine wpAnyH_take (i := 7) (oi := _) (v := ?_) rfl (by kernel_rfl) (by kernel_rfl) (by kernel_rfl) (fun _ _ _ h => h) (Or.inl ⟨by rfl, ?_⟩) (by assumption) ?_
  rotate_left
  · intro w hSw
    (try dsimp only at hSw)
    go_simp
    with_reducible rfl
  try simp only [Act.put, List.setIfInBounds_toArray, List.set_cons_zero, List.set_cons_succ]
  refine wpAnyH_take (i := 8) (oi := _) (v := ?_) rfl (by kernel_rfl) (by kernel_rfl) (by kernel_rfl) (fun _ _ _ h => h) (Or.inl ⟨by rfl, ?_⟩) (by assumption) ?_
  rotate_left
  · intro w hSw
    (try dsimp only at hSw)
    go_simp
    with_reducible rfl
  try simp only [Act.put, List.setIfInBounds_toArray, List.set_cons_zero, List.set_cons_succ]
  refine wpAnyH_take (i := 9) (oi := _) (v := ?_) rfl (by kernel_rfl) (by kernel_rfl) (by kernel_rfl) (fun _ _ _ h => h) (Or.inl ⟨by rfl, ?_⟩) (by assumption) ?_
  rotate_left
  · intro w hSw
    (try dsimp only at hSw)
    go_simp
    with_reducible rfl
  try simp only [Act.put, List.setIfInBounds_toArray, List.set_cons_zero, List.set_cons_succ]
  refine wpAnyH_take (i := 10) (oi := _) (v := ?_) rfl (by kernel_rfl) (by kernel_rfl) (by kernel_rfl) (fun _ _ _ h => h) (Or.inl ⟨by rfl, ?_⟩) (by assumption) ?_
  rotate_left
  · intro w hSw
    (try dsimp only at hSw)
    go_simp
    with_reducible rfl
  try simp only [Act.put, List.setIfInBounds_toArray, List.set_cons_zero, List.set_cons_succ]
  refine wpAnyH_take (i := 11) (oi := _) (v := ?_) rfl (by kernel_rfl) (by kernel_rfl) (by kernel_rfl) (fun _ _ _ h => h) (Or.inl ⟨by rfl, ?_⟩) (by assumption) ?_
  rotate_left
  · intro w hSw
    (try dsimp only at hSw)
    go_simp
    with_reducible rfl
  try simp only [Act.put, List.setIfInBounds_toArray, List.set_cons_zero, List.set_cons_succ]
  refine wpAnyH_take (i := 12) (oi := _) (v := ?_) rfl (by kernel_rfl) (by kernel_rfl) (by kernel_rfl) (fun _ _ _ h => h) (Or.inl ⟨by rfl, ?_⟩) (by assumption) ?_
  rotate_left
  · intro w hSw
    (try dsimp only at hSw)
    go_simp
    with_reducible rfl
  try simp only [Act.put, List.setIfInBounds_toArray, List.set_cons_zero, List.set_cons_succ]
  refine wpAnyH_take (i := 13) (oi := _) (v := ?_) rfl (by kernel_rfl) (by kernel_rfl) (by kernel_rfl) (fun _ _ _ h => h) (Or.inl ⟨by rfl, ?_⟩) (by assumption) ?_
  rotate_left
  · intro w hSw
    (try dsimp only at hSw)
    go_simp
    with_reducible rfl
  try simp only [Act.put, List.setIfInBounds_toArray, List.set_cons_zero, List.set_cons_succ]
  refine wpAnyH_take (i := 14) (oi := _) (v := ?_) rfl (by kernel_rfl) (by kernel_rfl) (by kernel_rfl) (fun _ _ _ h => h) (Or.inl ⟨by rfl, ?_⟩) (by assumption) ?_
  rotate_left
  · intro w hSw
    (try dsimp only at hSw)
    go_simp
    with_reducible rfl
  try simp only [Act.put, List.setIfInBounds_toArray, List.set_cons_zero, List.set_cons_succ]
  refine wpAnyH_call (i := 15) (oi := _) (v := .bool (bth x.st)) rfl (by kernel_rfl) (by kernel_rfl) (by kernel_rfl) (fun _ _ _ h => h) ⟨by rfl, fun w hSw => ⟨_, _, ?_, act_both_cell hSw.2.2.2⟩⟩ (by assumption) ?_
  · go_simp
  try simp only [Act.put, List.setIfInBounds_toArray, List.set_cons_zero, List.set_cons_succ]
  refine wpAnyH_take (i := 16) (oi := _) (v := ?_) rfl (by kernel_rfl) (by kernel_rfl) (by kernel_rfl) (fun _ _ _ h => h) (Or.inl ⟨by rfl, ?_⟩) (by assumption) ?_
  rotate_left
  · intro w hSw
    (try dsimp only at hSw)
    go_simp
    with_reducible rfl
  try simp only [Act.put, List.setIfInBounds_toArray, List.set_cons_zero, List.set_cons_succ]
  refine wpAnyH_ready (rs := [17, 18]) (by kernel_rfl) (by simp) ?_
  refine AllReadyH.cons (o := _) rfl ?cA (AllReadyH.cons (o := _) rfl ?cB AllReadyH.nil)
  case cA =>
    intro K hK
    have HLA := Lib.hid ((core_twoX (q := ⟨qm, qh, qb, false⟩) (bn := fun _ => qb) (ask := fun _ => true) (sp_ask (b := A.bsp) (bs := A.bs) (bt := A.bt) (bn := qb) ht HC.out (!(x.sn == bth x.st)) _)).lX.lX.lX.on g3)
    go_simp
    with_reducible refine HLA.out.mono ?_
    rintro e w4 ⟨v, rfl, hgx⟩
    obtain ⟨gs, go, cp, rfl, _, _⟩ := seq_form hgx.r.is
    go_wp2_with fail
    refine hK.out _ _ ⟨hgx.l.l.l.l.c 11 (v := .pointer (some ⟨A.bsp, 0, none⟩)) rfl, hgx.l.l.l.r.c 0 (v := .int .i64 (t : Int)) rfl, hgx.l.l.l.r.c 5 (v := .bool x.sn) rfl, hgx.l.l.l.r.c 4 (v := .int .i64 x.st) rfl⟩ (fun hHeld => ?_)
    clear hK K HLA
    try simp only [Act.put, List.setIfInBounds_toArray, List.set_cons_zero, List.set_cons_succ]
    refine wpAnyH_ready (rs := [18]) (by kernel_rfl) (by simp) ?_
    refine AllReadyH.cons (o := _) rfl (fun K hK => ?_) AllReadyH.nil
    go_simp
    have hz := hgx.moreSt (St.fresh #[.int .i64 0, .slice none 0 0, .int .i64 0] 186)
    refine hK.out _ _ ⟨hz.l.l.l.l.l.c 11 (v := .pointer (some ⟨A.bsp, 0, none⟩)) rfl, hz.l.l.l.l.r.c 0 (v := .int .i64 (t : Int)) rfl, hz.l.l.l.l.r.c 5 (v := .bool x.sn) rfl, hz.l.l.l.l.r.c 4 (v := .int .i64 x.st) rfl⟩ (fun hHeld => ?_)
    clear hK K
    generalize w4.heap.size = gb at *
    generalize w4.alloc _ = we at *
    try simp only [Act.put, List.setIfInBounds_toArray, List.set_cons_zero, List.set_cons_succ]
    have y0 := hz.r.vc 0 (v := .int .i64 0) rfl
    have y1 := hz.r.vc 1 (v := .slice none 0 0) rfl
    have y2 := hz.r.vc 2 (v := .int .i64 0) rfl
    have z0 := hz.r.vf 0
    have z1 := hz.r.vf 1
    have z2 := hz.r.vf 2
    have hg4 := hz.then fun S h => goesR (fun S h => (((Goes.begin h).vput 0 (.int .i64 1) rfl).vput 1 (.slice (some ⟨gs, go, none⟩) 1 cp) rfl).vput 2 (.int .i64 (-1)) rfl) S h
    refine wpAnyH_ready (rs := [19]) (by kernel_rfl) (by simp) ?_
    refine AllReadyH.cons (o := _) rfl (fun K hK => ?_) AllReadyH.nil
    go_simp
    refine hK.out _ _ ⟨hg4.l.l.l.l.l.c 11 (v := .pointer (some ⟨A.bsp, 0, none⟩)) rfl, hg4.l.l.l.l.r.c 0 (v := .int .i64 (t : Int)) rfl, hg4.l.l.l.l.r.c 5 (v := .bool x.sn) rfl, hg4.l.l.l.l.r.c 4 (v := .int .i64 x.st) rfl⟩ (fun hHeld => ?_)
    clear hK K hHeld hgx hz g3 y0 y1 y2 z0 z1 z2
    generalize World.setCell _ _ _ = w5 at *
    try simp only [Act.put, List.setIfInBounds_toArray, List.set_cons_zero, List.set_cons_succ]
    refine wpAnyH_done (by kernel_rfl) ?_ _
    have hg5 : Goes (Sep (Sep (Sep (Sep (Sep (Core A c { m := qm, h := qh, bn := qb, ask := true }) (Thr b t ov lv x X)) (Var vb #[.int .i64 1, .int .i64 (o.a : Int), .int .i64 0, .int .i64 (o.c : Int), .int .i64 (o.n : Int), .complex .f64 o.z1 o.z2] 26)) (Var rb #[.int .i64 0, .int .i64 0, .int .i64 0, .bool false, .complex .f64 0 0] 41)) (Got (.slice (some ⟨gs, go, none⟩) 1 cp) c.F)) (Var gb #[.int .i64 1, .slice (some ⟨gs, go, none⟩) 1 cp, .int .i64 (-1)] 186)) S w w5 := hg4
    clear hg4
    have hg6 := hg5.conv fun S w h => sepAt.monoL (fun S h => sepAt.monoL (fun S h => sepAt.rot h) (sepAt.rot h)) h
    have q0 := hg6.r.vc 0 (v := .int .i64 1) rfl
    have q1 := hg6.r.vc 1 (v := .slice (some ⟨gs, go, none⟩) 1 cp) rfl
    have q2 := hg6.r.vc 2 (v := .int .i64 (-1)) rfl
    have b0 := hg6.l.l.r.vc 0 (v := .int .i64 1) rfl
    have b1 := hg6.l.l.r.vc 1 (v := .int .i64 (o.a : Int)) rfl
    have b2 := hg6.l.l.r.vc 2 (v := .int .i64 0) rfl
    have b3 := hg6.l.l.r.vc 3 (v := .int .i64 (o.c : Int)) rfl
    have b4 := hg6.l.l.r.vc 4 (v := .int .i64 (o.n : Int)) rfl
    have b5 := hg6.l.l.r.vc 5 (v := .complex .f64 o.z1 o.z2) rfl
    have HT := Lib.hid (hg6.callx (Does.lX (Does.lX (Does.lX (R := fun (_ : Value) e => e = .returned (.bool true)) (O1 := fun u => Sep (Sep (Core A c { m := qm, h := qh, bn := qb, ask := true }) (Thr b t ov lv { x with wr := u, got := .slice (some ⟨gs, go, none⟩) 1 cp, ph := 2, at_ := 7 } X)) (Got (.slice (some ⟨gs, go, none⟩) 1 cp) c.F)) (Y := fun u => Seq 2 u 8 (wc c.F (yl ll) 8)) fun S h => act_takes (q := { m := qm, h := qh, bn := qb, ask := true }) (o := o) HC.out HS.out HK.out HB.out h))))
    rw [HOC.out] at HT
    clear hg5 hg6
    go_wp2_with fail
    with_reducible refine HT.out.mono ?_
    rintro e w6 ⟨u, rfl, hgy⟩
    have hg7 := (hgy.conv fun S w h => sepAt.rot h).l
    have hg := hg7.conv fun S w h => sepAt.rot h
    clear HT hgy hg7 q0 q1 q2 b0 b1 b2 b3 b4 b5
    have q0_ := hg.r.vc 0 (v := .int .i64 0) rfl
    have p0_ := hg.r.vf 0
    have q1_ := hg.r.vc 1 (v := .int .i64 0) rfl
    have p1_ := hg.r.vf 1
    have q2_ := hg.r.vc 2 (v := .int .i64 0) rfl
    have p2_ := hg.r.vf 2
    have q3_ := hg.r.vc 3 (v := .bool false) rfl
    have p3_ := hg.r.vf 3
    have q4_ := hg.r.vc 4 (v := .complex .f64 0 0) rfl
    have p4_ := hg.r.vf 4
    have g8_ := hg.then fun S h => goesR (fun S h => (((((Goes.begin h).vput 0 (.int .i64 (0)) rfl).vput 1 (.int .i64 (0)) rfl).vput 2 (.int .i64 (0)) rfl).vput 3 (.bool (false)) rfl).vput 4 (.complex .f64 0 0) rfl) S h
    have k0_ := g8_.r.vc 0 (v := .int .i64 (0)) rfl
    have k1_ := g8_.r.vc 1 (v := .int .i64 (0)) rfl
    have k2_ := g8_.r.vc 2 (v := .int .i64 (0)) rfl
    have k3_ := g8_.r.vc 3 (v := .bool (false)) rfl
    have k4_ := g8_.r.vc 4 (v := .complex .f64 0 0) rfl
    have HF := Lib.hid g8_.l
    clear hg g8_
    go_wp2_with fail
    (try rw [via_ret])
    exact bodyPost_ret (v := .tuple #[.agg #[.int .i64 (0), .int .i64 (0), .int .i64 (0), .bool (false), .complex .f64 0 0], .bool false]) (by simp [results, Tryz.results171, go_sem, k0_, k1_, k2_, k3_, k4_]) rfl ⟨.slice (some ⟨gs, go, none⟩) 1 cp, u, rfl, HF.out.drop (Part.both (Part.left _ _) (Part.refl _))⟩
  case cB =>
    intro K hK
    go_simp
    have hz := g3.moreSt (St.fresh #[.int .i64 0, .slice none 0 0, .int .i64 0] 186)
    refine hK.out _ _ ⟨hz.l.l.l.l.c 11 (v := .pointer (some ⟨A.bsp, 0, none⟩)) rfl, hz.l.l.l.r.c 0 (v := .int .i64 (t : Int)) rfl, hz.l.l.l.r.c 5 (v := .bool x.sn) rfl, hz.l.l.l.r.c 4 (v := .int .i64 x.st) rfl⟩ (fun hHeld => ?_)
    clear hK K
    generalize wd.heap.size = gb at *
    generalize wd.alloc _ = we at *
    try simp only [Act.put, List.setIfInBounds_toArray, List.set_cons_zero, List.set_cons_succ]
    have HLA := Lib.hid ((core_twoX (q := ⟨qm, qh, qb, false⟩) (bn := fun _ => qb) (ask := fun _ => true) (sp_ask (b := A.bsp) (bs := A.bs) (bt := A.bt) (bn := qb) ht HC.out (!(x.sn == bth x.st)) _)).lX.lX.lX.lX.on hz)
    refine wpAnyH_ready (rs := [17]) (by kernel_rfl) (by simp) ?_
    refine AllReadyH.cons (o := _) rfl (fun K hK => ?_) AllReadyH.nil
    go_simp
    with_reducible refine HLA.out.mono ?_
    rintro e w4 ⟨v, rfl, hgx⟩
    obtain ⟨gs, go, cp, rfl, _, _⟩ := seq_form hgx.r.is
    go_wp2_with fail
    refine hK.out _ _ ⟨hgx.l.l.l.l.l.c 11 (v := .pointer (some ⟨A.bsp, 0, none⟩)) rfl, hgx.l.l.l.l.r.c 0 (v := .int .i64 (t : Int)) rfl, hgx.l.l.l.l.r.c 5 (v := .bool x.sn) rfl, hgx.l.l.l.l.r.c 4 (v := .int .i64 x.st) rfl⟩ (fun hHeld => ?_)
    clear hK K HLA
    try simp only [Act.put, List.setIfInBounds_toArray, List.set_cons_zero, List.set_cons_succ]
    have hgr := hgx.conv fun S w h => sepAt.rot h
    have y0 := hgr.r.vc 0 (v := .int .i64 0) rfl
    have y1 := hgr.r.vc 1 (v := .slice none 0 0) rfl
    have y2 := hgr.r.vc 2 (v := .int .i64 0) rfl
    have z0 := hgr.r.vf 0
    have z1 := hgr.r.vf 1
    have z2 := hgr.r.vf 2
    have hg4 := hgr.then fun S h => goesR (fun S h => (((Goes.begin h).vput 0 (.int .i64 1) rfl).vput 1 (.slice (some ⟨gs, go, none⟩) 1 cp) rfl).vput 2 (.int .i64 (-1)) rfl) S h
    refine wpAnyH_ready (rs := [19]) (by kernel_rfl) (by simp) ?_
    refine AllReadyH.cons (o := _) rfl (fun K hK => ?_) AllReadyH.nil
    go_simp
    refine hK.out _ _ ⟨hg4.l.l.l.l.l.c 11 (v := .pointer (some ⟨A.bsp, 0, none⟩)) rfl, hg4.l.l.l.l.r.c 0 (v := .int .i64 (t : Int)) rfl, hg4.l.l.l.l.r.c 5 (v := .bool x.sn) rfl, hg4.l.l.l.l.r.c 4 (v := .int .i64 x.st) rfl⟩ (fun hHeld => ?_)
    clear hK K hHeld hgx hz g3 hgr y0 y1 y2 z0 z1 z2
    generalize World.setCell _ _ _ = w5 at *
    try simp only [Act.put, List.setIfInBounds_toArray, List.set_cons_zero, List.set_cons_succ]
    refine wpAnyH_done (by kernel_rfl) ?_ _
    have hg5 : Goes (Sep (Sep (Sep (Sep (Sep (Core A c { m := qm, h := qh, bn := qb, ask := true }) (Thr b t ov lv x X)) (Var vb #[.int .i64 1, .int .i64 (o.a : Int), .int .i64 0, .int .i64 (o.c : Int), .int .i64 (o.n : Int), .complex .f64 o.z1 o.z2] 26)) (Var rb #[.int .i64 0, .int .i64 0, .int .i64 0, .bool false, .complex .f64 0 0] 41)) (Got (.slice (some ⟨gs, go, none⟩) 1 cp) c.F)) (Var gb #[.int .i64 1, .slice (some ⟨gs, go, none⟩) 1 cp, .int .i64 (-1)] 186)) S w w5 := hg4
    clear hg4
    have hg6 := hg5.conv fun S w h => sepAt.monoL (fun S h => sepAt.monoL (fun S h => sepAt.rot h) (sepAt.rot h)) h
    have q0 := hg6.r.vc 0 (v := .int .i64 1) rfl
    have q1 := hg6.r.vc 1 (v := .slice (some ⟨gs, go, none⟩) 1 cp) rfl
    have q2 := hg6.r.vc 2 (v := .int .i64 (-1)) rfl
    have b0 := hg6.l.l.r.vc 0 (v := .int .i64 1) rfl
    have b1 := hg6.l.l.r.vc 1 (v := .int .i64 (o.a : Int)) rfl
    have b2 := hg6.l.l.r.vc 2 (v := .int .i64 0) rfl
    have b3 := hg6.l.l.r.vc 3 (v := .int .i64 (o.c : Int)) rfl
    have b4 := hg6.l.l.r.vc 4 (v := .int .i64 (o.n : Int)) rfl
    have b5 := hg6.l.l.r.vc 5 (v := .complex .f64 o.z1 o.z2) rfl
    have HT := Lib.hid (hg6.callx (Does.lX (Does.lX (Does.lX (R := fun (_ : Value) e => e = .returned (.bool true)) (O1 := fun u => Sep (Sep (Core A c { m := qm, h := qh, bn := qb, ask := true }) (Thr b t ov lv { x with wr := u, got := .slice (some ⟨gs, go, none⟩) 1 cp, ph := 2, at_ := 7 } X)) (Got (.slice (some ⟨gs, go, none⟩) 1 cp) c.F)) (Y := fun u => Seq 2 u 8 (wc c.F (yl ll) 8)) fun S h => act_takes (q := { m := qm, h := qh, bn := qb, ask := true }) (o := o) HC.out HS.out HK.out HB.out h))))
    rw [HOC.out] at HT
    clear hg5 hg6
    go_wp2_with fail
    with_reducible refine HT.out.mono ?_
    rintro e w6 ⟨u, rfl, hgy⟩
    have hg7 := (hgy.conv fun S w h => sepAt.rot h).l
    have hg := hg7.conv fun S w h => sepAt.rot h
    clear HT hgy hg7 q0 q1 q2 b0 b1 b2 b3 b4 b5
    have q0_ := hg.r.vc 0 (v := .int .i64 0) rfl
    have p0_ := hg.r.vf 0
    have q1_ := hg.r.vc 1 (v := .int .i64 0) rfl
    have p1_ := hg.r.vf 1
    have q2_ := hg.r.vc 2 (v := .int .i64 0) rfl
    have p2_ := hg.r.vf 2
    have q3_ := hg.r.vc 3 (v := .bool false) rfl
    have p3_ := hg.r.vf 3
    have q4_ := hg.r.vc 4 (v := .complex .f64 0 0) rfl
    have p4_ := hg.r.vf 4
    have g8_ := hg.then fun S h => goesR (fun S h => (((((Goes.begin h).vput 0 (.int .i64 (0)) rfl).vput 1 (.int .i64 (0)) rfl).vput 2 (.int .i64 (0)) rfl).vput 3 (.bool (false)) rfl).vput 4 (.complex .f64 0 0) rfl) S h
    have k0_ := g8_.r.vc 0 (v := .int .i64 (0)) rfl
    have k1_ := g8_.r.vc 1 (v := .int .i64 (0)) rfl
    have k2_ := g8_.r.vc 2 (v := .int .i64 (0)) rfl
    have k3_ := g8_.r.vc 3 (v := .bool (false)) rfl
    have k4_ := g8_.r.vc 4 (v := .complex .f64 0 0) rfl
    have HF := Lib.hid g8_.l
    clear hg g8_
    go_wp2_with fail
    (try rw [via_ret])
    exact bodyPost_ret (v := .tuple #[.agg #[.int .i64 (0), .int .i64 (0), .int .i64 (0), .bool (false), .complex .f64 0 0], .bool false]) (by simp [results, Tryz.results171, go_sem, k0_, k1_, k2_, k3_, k4_]) rfl ⟨.slice (some ⟨gs, go, none⟩) 1 cp, u, rfl, HF.out.drop (Part.both (Part.left _ _) (Part.refl _))⟩
end
end Go.Proofs.YtnkgnhpapcnebaaGreat
