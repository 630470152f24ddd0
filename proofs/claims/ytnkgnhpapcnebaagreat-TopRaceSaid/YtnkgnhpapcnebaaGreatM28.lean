/- A thread: the program that finds what an operation looks into. -/
import Derived.Test.YtnkgnhpapcnebaaGreatM22
set_option linter.unusedVariables false
set_option linter.unusedSimpArgs false
set_option maxHeartbeats 8000000
namespace Go.Proofs.YtnkgnhpapcnebaaGreat
open Go.RowKit
attribute [local go_sem] run_store_complex via_ret via_normal via_exit via_panic
section
variable {b t : Nat} {ov lv : Value} {x : Tc} {X : Thing} {S : Nat → Prop} {w w' : World} {A : CA} {c : Cf} {q : Q} {lg n : Nat} {l : Nat → Lc}
set_option maxRecDepth 100000 in
theorem act_program3 {o : Opn} {j : Nat} (hc : c.ok) (hk : o.kd = 3) (hjo : o.b = j) (hj : j < n) (hs : (l j).k ≤ 17 ∧ (l j).i ≤ 17) (hix : ixI (l j).k (l j).i = (c.F : Int)) (h : (Sep (Core A c q) (LThr b t ov lg n x l X)).at_ S w) :
    Calls Tryz.prog 172 #[.pointer (some ⟨A.b, 0, none⟩), .agg (opc o), .func (.func 173) #[.pointer (some ⟨b, 0, none⟩)] #[]] w fun e w' => ∃ fb g' cap', e = .returned (.pointer (some ⟨fb, 0, none⟩)) ∧ Goes (Sep (Sep (Core A c q) (LThr b t ov lg n x l X)) (Find fb c g' cap' ⟨c.F, o.n, 0, -1, false, 0⟩)) S w w' := by
  have hoc : opc o = #[.int .i64 3, .int .i64 (o.a : Int), .int .i64 (j : Int), .int .i64 (o.c : Int), .int .i64 (o.n : Int), .complex .f64 o.z1 o.z2] := by unfold opc; rw [hk, hjo]; rfl
  rw [hoc]
  have g0 := (Goes.begin h).moreSt (St.fresh #[.int .i64 3, .int .i64 (o.a : Int), .int .i64 (j : Int), .int .i64 (o.c : Int), .int .i64 (o.n : Int), .complex .f64 o.z1 o.z2] 26)
  obtain ⟨vb, hvb⟩ : ∃ k, w.heap.size = k := ⟨_, rfl⟩
  rw [hvb] at g0
  have o0 := g0.r.vc 0 (v := .int .i64 3) rfl
  have g1 := g0.drew_
  obtain ⟨c0, c1, c2, c3, c4, c5, c6, c7, c8⟩ := core9 g1.l.l
  have p2 := g1.r.vc 2 (v := .int .i64 (j : Int)) rfl
  have p4 := g1.r.vc 4 (v := .int .i64 (o.n : Int)) rfl
  have HB := Lib.hid ((act_head hj hs g1.l.r.is).mono fun e w' ⟨h1, h2⟩ => (⟨by rw [h1, hix], h2.symm⟩ : e = Ending.returned (.int .i64 (c.F : Int)) ∧ w' = _))
  have HL := Lib.hid (find_field c.F o.n hc (core_confIs g1.l.l.is).choose_spec)
  have HG := Lib.hid g1.l
  unfold cfV at HL
  clear h g0 g1 hc hk hjo hoc hs hix
  generalize c.F = cF at *
  go_enter Tryz.func172, Tryz.ntmps172
  go_upto_region 1 with fail
  generalize w.alloc _ = w1 at *
  go_wp2_with fail
  go_still_tail 10, (by kernel_rfl)
  still_call HB.out
  repeat still_step
  refine wpStill_nil ?_
  change wpList _ _ _ _ _ w1.drew
  generalize w1.drew = w2 at *
  go_wp2_with fail
  with_reducible refine HL.out.mono ?_
  rintro e w3 ⟨fb, g', cap', rfl, hst⟩
  have hg := Lib.hid (HG.out.moreSt hst)
  clear HB HL HG hst c0 c1 c2 c3 c4 c5 c6 c7 c8 o0 p2 p4
  go_wp2_with fail
  go_ret
  exact ⟨fb, g', cap', rfl, hg.out⟩
set_option maxRecDepth 100000 in
theorem act_program4 {o : Opn} {j : Nat} (hc : c.ok) (hk : o.kd = 4) (hjo : o.a = j) (hj : j < n) (hs : (l j).k ≤ 17 ∧ (l j).i ≤ 17) (hix : ixI (l j).k (l j).i = (c.F : Int)) (h : (Sep (Core A c q) (LThr b t ov lg n x l X)).at_ S w) :
    Calls Tryz.prog 172 #[.pointer (some ⟨A.b, 0, none⟩), .agg (opc o), .func (.func 173) #[.pointer (some ⟨b, 0, none⟩)] #[]] w fun e w' => ∃ fb g' cap', e = .returned (.pointer (some ⟨fb, 0, none⟩)) ∧ Goes (Sep (Sep (Core A c q) (LThr b t ov lg n x l X)) (Find fb c g' cap' ⟨c.F, o.n, 0, -1, false, 0⟩)) S w w' := by
  have hoc : opc o = #[.int .i64 4, .int .i64 (j : Int), .int .i64 (o.b : Int), .int .i64 (o.c : Int), .int .i64 (o.n : Int), .complex .f64 o.z1 o.z2] := by unfold opc; rw [hk, hjo]; rfl
  rw [hoc]
  have g0 := (Goes.begin h).moreSt (St.fresh #[.int .i64 4, .int .i64 (j : Int), .int .i64 (o.b : Int), .int .i64 (o.c : Int), .int .i64 (o.n : Int), .complex .f64 o.z1 o.z2] 26)
  obtain ⟨vb, hvb⟩ : ∃ k, w.heap.size = k := ⟨_, rfl⟩
  rw [hvb] at g0
  have o0 := g0.r.vc 0 (v := .int .i64 4) rfl
  have g1 := g0.drew_
  obtain ⟨c0, c1, c2, c3, c4, c5, c6, c7, c8⟩ := core9 g1.l.l
  have p1 := g1.r.vc 1 (v := .int .i64 (j : Int)) rfl
  have p4 := g1.r.vc 4 (v := .int .i64 (o.n : Int)) rfl
  have HB := Lib.hid ((act_head hj hs g1.l.r.is).mono fun e w' ⟨h1, h2⟩ => (⟨by rw [h1, hix], h2.symm⟩ : e = Ending.returned (.int .i64 (c.F : Int)) ∧ w' = _))
  have HL := Lib.hid (find_field c.F o.n hc (core_confIs g1.l.l.is).choose_spec)
  have HG := Lib.hid g1.l
  unfold cfV at HL
  clear h g0 g1 hc hk hjo hoc hs hix
  generalize c.F = cF at *
  go_enter Tryz.func172, Tryz.ntmps172
  go_upto_region 1 with fail
  generalize w.alloc _ = w1 at *
  go_wp2_with fail
  go_still_tail 10, (by kernel_rfl)
  still_call HB.out
  repeat still_step
  refine wpStill_nil ?_
  change wpList _ _ _ _ _ w1.drew
  generalize w1.drew = w2 at *
  go_wp2_with fail
  with_reducible refine HL.out.mono ?_
  rintro e w3 ⟨fb, g', cap', rfl, hst⟩
  have hg := Lib.hid (HG.out.moreSt hst)
  clear HB HL HG hst c0 c1 c2 c3 c4 c5 c6 c7 c8 o0 p1 p4
  go_wp2_with fail
  go_ret
  exact ⟨fb, g', cap', rfl, hg.out⟩
end
end Go.Proofs.YtnkgnhpapcnebaaGreat
/- A thread: a step of finding. -/
namespace Go.Proofs.YtnkgnhpapcnebaaGreat
open Go.RowKit
attribute [local go_sem] run_store_complex via_ret via_normal via_exit via_panic
section
variable {P : Program} {f : FuncId} {args : Array Value} {α : Type} {R : α → Ending → Prop} {A' B' Y : Thing} {w : World}
set_option maxRecDepth 100000 in
/-- A call on two things, one of them a part of something, the other behind it. -/
theorem Does.lY {O1 Y' : α → Thing} (h : Does P f args w (Sep A' Y) R (fun x => Sep (O1 x) (Y' x))) : Does P f args w (Sep (Sep A' B') Y) R (fun x => Sep (Sep (O1 x) B') (Y' x)) :=
  Does.conv (R2 := R) (h.l (B := B')) (fun S w h => sepAt.rot h) fun y e he => ⟨y, he, fun S w h => sepAt.rot h⟩
set_option maxRecDepth 100000 in
theorem Does.rY {O1 Y' : α → Thing} (h : Does P f args w (Sep A' Y) R (fun x => Sep (O1 x) (Y' x))) : Does P f args w (Sep (Sep B' A') Y) R (fun x => Sep (Sep B' (O1 x)) (Y' x)) :=
  Does.conv (R2 := R) (h.r (B := B')) (fun S w h => sepAt.assoc h) fun y e he => ⟨y, he, fun S w h => sepAt.assoc' h⟩
end
section
variable {b t : Nat} {ov lv : Value} {x : Tc} {X : Thing} {S : Nat → Prop} {w w' : World} {A : CA} {c : Cf} {q : Q} {lg n : Nat} {l : Nat → Lc}
set_option maxRecDepth 100000 in
theorem find_atc {fb : Nat} {a : Int} (c19 : w.cell? ⟨fb, 19, none⟩ = some (.int .i64 a)) : Calls Tryz.prog 179 #[.pointer (some ⟨fb, 0, none⟩)] w fun e w' => e = .returned (.int .i64 a) ∧ w = w' := by
  go_enter Tryz.func179, Tryz.ntmps179
  go_wp2_with fail
  go_ret
  exact ⟨rfl, rfl⟩
set_option maxRecDepth 100000 in
theorem find_refc {fb : Nat} {a : Int} {r : Bool} (h0 : 0 ≤ a) (c19 : w.cell? ⟨fb, 19, none⟩ = some (.int .i64 a)) (c20 : w.cell? ⟨fb, 20, none⟩ = some (.bool r)) : Calls Tryz.prog 180 #[.pointer (some ⟨fb, 0, none⟩)] w fun e w' => e = .returned (.bool r) ∧ w = w' := by
  go_enter Tryz.func180, Tryz.ntmps180
  go_wp2_with fail
  go_ret
  exact ⟨rfl, rfl⟩
set_option maxRecDepth 100000 in
theorem find_stepC {g' cap' fb k : Nat} {ll : List Bool} {r : Bool} (hc : c.ok) (hs : c.shapes[0]? = some (false, ll)) (hk : ll[k]? = some r) (hl : c.l0 = ll) (hwr : 1 < q.m.wr) (w : World) :
    Does Tryz.prog 177 #[.pointer (some ⟨fb, 0, none⟩), .pointer (some ⟨A.bm, 0, none⟩)] w (Sep (Core A c q) (Find fb c g' cap' ⟨c.F, k, 0, -1, false, 0⟩)) (fun (_ : Unit) e => e = .returned (.bool true)) (fun _ => Sep (Core A c q) (Find fb c g' cap' (Fd.found ⟨c.F, k, 0, -1, false, wrap64 (0 + 1)⟩ r))) := by
  have h0 : Does Tryz.prog 177 #[.pointer (some ⟨fb, 0, none⟩), .pointer (some ⟨A.bm, 0, none⟩)] w (Sep (MemI A.bm c q.m) (Find fb c g' cap' ⟨c.F, k, 0, -1, false, 0⟩)) (fun (_ : Unit) e => e = .returned (.bool true)) (fun _ => Sep (MemI A.bm c q.m) (Find fb c g' cap' (Fd.found ⟨c.F, k, 0, -1, false, wrap64 (0 + 1)⟩ r))) := by
    intro S h
    obtain ⟨S1, T1, ⟨⟨gm, f⟩, hf, hm⟩, h2, hrest⟩ := h
    have h3 : (Sep (Find fb c g' cap' ⟨c.F, k, 0, -1, false, 0⟩) (Mem A.bm gm c.words f)).at_ S w := sepAt.swap ⟨S1, T1, hm, h2, hrest⟩
    have hF := hc.frags
    refine (find_step (md := 1) (rb := r) hc hs hk (by omega) (show c.F < c.frags by unfold Cf.F; omega) rfl (show c.F * 8 + 1 < c.words by unfold Cf.words Cf.F; omega) (words_small hc) (hf.plan 1 (by omega) (by omega) hwr) h3).mono ?_
    rintro e w' ⟨he, hg⟩
    exact ⟨(), he, hg.conv fun S w h => sepAt.monoL (fun S h => ⟨⟨gm, f⟩, hf, h⟩) (sepAt.swap h)⟩
  exact h0.lY.rY.rY
set_option maxRecDepth 100000 in
theorem act_finds3 {o : Opn} {fb g' cap' : Nat} {ll : List Bool} {r : Bool} (hc : c.ok) (hs : c.shapes[0]? = some (false, ll)) (hl : c.l0 = ll) (hr : ll[o.n]? = some r) (hwr : 1 < q.m.wr) (hk : o.kd = 3) (hf : x.f = .pointer (some ⟨fb, 0, none⟩))
    (h : (Sep (Sep (Core A c q) (LThr b t ov lg n x l X)) (Find fb c g' cap' ⟨c.F, o.n, 0, -1, false, 0⟩)).at_ S w) :
    Calls Tryz.prog 111 #[.pointer (some ⟨b, 0, none⟩), .pointer (some ⟨A.b, 0, none⟩), .agg (opc o)] w fun e w' => e = .returned (Rs.v ⟨0, 0, 0, false, 0, 0, false⟩) ∧ Goes (Sep (Core A c q) (LThr b t ov lg n { x with at_ := 2, addr := ((c.F * 8 + (2 + o.n) : Nat) : Int), ref := r } l X)) S w w' := by
  obtain ⟨x, rfl⟩ : ∃ y : Tc, x = { y with f := .pointer (some ⟨fb, 0, none⟩) } := ⟨x, by rw [← hf]⟩
  have hoc : opc o = #[.int .i64 3, .int .i64 (o.a : Int), .int .i64 (o.b : Int), .int .i64 (o.c : Int), .int .i64 (o.n : Int), .complex .f64 o.z1 o.z2] := by unfold opc; rw [hk]; rfl
  rw [hoc]
  have g0 := ((Goes.begin h).moreSt (St.fresh #[.int .i64 3, .int .i64 (o.a : Int), .int .i64 (o.b : Int), .int .i64 (o.c : Int), .int .i64 (o.n : Int), .complex .f64 o.z1 o.z2] 26)).moreSt (St.fresh zeroRes 41)
  rw [World.size_alloc] at g0
  obtain ⟨vb, hvb⟩ : ∃ k, w.heap.size = k := ⟨_, rfl⟩
  obtain ⟨rb, hrb⟩ : ∃ k, vb + 1 = k := ⟨_, rfl⟩
  rw [hvb, hrb] at g0
  have c11 := g0.l.l.l.r.c 11 (v := .int .i64 x.at_) rfl
  have f11 := g0.l.l.l.r.fr 11
  have g1 : Goes (Sep (Sep (Sep (Sep (Core A c q) (LThr b t ov lg n { x with at_ := 1, f := .pointer (some ⟨fb, 0, none⟩) } l X)) (Find fb c g' cap' ⟨c.F, o.n, 0, -1, false, 0⟩)) (Var vb #[.int .i64 3, .int .i64 (o.a : Int), .int .i64 (o.b : Int), .int .i64 (o.c : Int), .int .i64 (o.n : Int), .complex .f64 o.z1 o.z2] 26)) (Var rb #[.int .i64 0, .int .i64 0, .int .i64 0, .bool false, .complex .f64 0 0] 41)) S w _ := g0.then fun S h => goesL (fun S h => goesL (fun S h => goesL (fun S h => goesR (fun S h => (Goes.begin h).put 11 (.int .i64 1) (cs' := thCells t ov (.slice (some ⟨lg, 0, none⟩) n n) { x with at_ := 1, f := .pointer (some ⟨fb, 0, none⟩) }) rfl) S h) S h) S h) S h
  have g2 := g1.drew_
  have d12 := g2.l.l.l.r.c 12 (v := .pointer (some ⟨fb, 0, none⟩)) rfl
  have k9 := g2.l.l.l.l.c 9 (v := .pointer (some ⟨A.bm, 0, none⟩)) rfl
  have HL := Lib.hid ((find_stepC (A := A) (q := q) (g' := g') (cap' := cap') (fb := fb) hc hs hr hl hwr _).lY.l.l.on g2)
  simp only [zeroRes] at *
  unfold Rs.v
  clear h g0 g1 hoc hc hs hl hr hwr hk
  go_enter Tryz.func111, Tryz.ntmps111
  go_upto_region 1 with fail
  generalize (w.alloc _).alloc _ = w1 at *
  go_upto_region 2 with fail
  generalize World.setCell _ _ _ = w2 at *
  go_still_tail 9, (by kernel_rfl)
  change wpList _ _ _ _ _ w2.drew
  generalize w2.drew = w3 at *
  go_wp2_with fail
  with_reducible refine HL.out.mono ?_
  rintro e w4 ⟨_, rfl, hgx⟩
  have hg : Goes (Sep (Sep (Sep (Sep (Core A c q) (LThr b t ov lg n { x with at_ := 1, f := .pointer (some ⟨fb, 0, none⟩) } l X)) (Find fb c g' cap' (Fd.found ⟨c.F, o.n, 0, -1, false, wrap64 (0 + 1)⟩ r))) (Var vb #[.int .i64 3, .int .i64 (o.a : Int), .int .i64 (o.b : Int), .int .i64 (o.c : Int), .int .i64 (o.n : Int), .complex .f64 o.z1 o.z2] 26)) (Var rb #[.int .i64 0, .int .i64 0, .int .i64 0, .bool false, .complex .f64 0 0] 41)) S w w4 := hgx
  clear HL hgx g2 c11 f11 d12 k9
  have HE := Lib.hid (hg.l.l.r.is)
  have HER := Lib.hid (find_errno HE.out)
  have d12 := hg.l.l.l.r.c 12 (v := .pointer (some ⟨fb, 0, none⟩)) rfl
  clear HE
  go_wp2_with fail
  with_reducible refine HER.out.mono ?_
  rintro e w5 ⟨rfl, rfl⟩
  clear HER
  go_upto_region 7 with fail
  have hg1 := hg.drew_
  have c13 := hg1.l.l.l.r.c 13 (v := .int .i64 x.addr) rfl
  have f13 := hg1.l.l.l.r.fr 13
  have g2 : Goes (Sep (Sep (Sep (Sep (Core A c q) (LThr b t ov lg n { x with at_ := 1, addr := ((c.F * 8 + (2 + o.n) : Nat) : Int), f := .pointer (some ⟨fb, 0, none⟩) } l X)) (Find fb c g' cap' (Fd.found ⟨c.F, o.n, 0, -1, false, wrap64 (0 + 1)⟩ r))) (Var vb #[.int .i64 3, .int .i64 (o.a : Int), .int .i64 (o.b : Int), .int .i64 (o.c : Int), .int .i64 (o.n : Int), .complex .f64 o.z1 o.z2] 26)) (Var rb #[.int .i64 0, .int .i64 0, .int .i64 0, .bool false, .complex .f64 0 0] 41)) S w _ := hg1.then fun S h => goesL (fun S h => goesL (fun S h => goesL (fun S h => goesR (fun S h => (Goes.begin h).put 13 (.int .i64 ((c.F * 8 + (2 + o.n) : Nat) : Int)) (cs' := thCells t ov (.slice (some ⟨lg, 0, none⟩) n n) { x with at_ := 1, addr := ((c.F * 8 + (2 + o.n) : Nat) : Int), f := .pointer (some ⟨fb, 0, none⟩) }) rfl) S h) S h) S h) S h
  have c14 := g2.l.l.l.r.c 14 (v := .bool x.ref) rfl
  have f14 := g2.l.l.l.r.fr 14
  have g3 : Goes (Sep (Sep (Sep (Sep (Core A c q) (LThr b t ov lg n { x with at_ := 1, addr := ((c.F * 8 + (2 + o.n) : Nat) : Int), ref := r, f := .pointer (some ⟨fb, 0, none⟩) } l X)) (Find fb c g' cap' (Fd.found ⟨c.F, o.n, 0, -1, false, wrap64 (0 + 1)⟩ r))) (Var vb #[.int .i64 3, .int .i64 (o.a : Int), .int .i64 (o.b : Int), .int .i64 (o.c : Int), .int .i64 (o.n : Int), .complex .f64 o.z1 o.z2] 26)) (Var rb #[.int .i64 0, .int .i64 0, .int .i64 0, .bool false, .complex .f64 0 0] 41)) S w _ := g2.then fun S h => goesL (fun S h => goesL (fun S h => goesL (fun S h => goesR (fun S h => (Goes.begin h).put 14 (.bool r) (cs' := thCells t ov (.slice (some ⟨lg, 0, none⟩) n n) { x with at_ := 1, addr := ((c.F * 8 + (2 + o.n) : Nat) : Int), ref := r, f := .pointer (some ⟨fb, 0, none⟩) }) rfl) S h) S h) S h) S h
  have c11 := g3.l.l.l.r.c 11 (v := .int .i64 1) rfl
  have f11 := g3.l.l.l.r.fr 11
  have g4 : Goes (Sep (Sep (Sep (Sep (Core A c q) (LThr b t ov lg n { x with at_ := 2, addr := ((c.F * 8 + (2 + o.n) : Nat) : Int), ref := r, f := .pointer (some ⟨fb, 0, none⟩) } l X)) (Find fb c g' cap' (Fd.found ⟨c.F, o.n, 0, -1, false, wrap64 (0 + 1)⟩ r))) (Var vb #[.int .i64 3, .int .i64 (o.a : Int), .int .i64 (o.b : Int), .int .i64 (o.c : Int), .int .i64 (o.n : Int), .complex .f64 o.z1 o.z2] 26)) (Var rb #[.int .i64 0, .int .i64 0, .int .i64 0, .bool false, .complex .f64 0 0] 41)) S w _ := g3.then fun S h => goesL (fun S h => goesL (fun S h => goesL (fun S h => goesR (fun S h => (Goes.begin h).put 11 (.int .i64 2) (cs' := thCells t ov (.slice (some ⟨lg, 0, none⟩) n n) { x with at_ := 2, addr := ((c.F * 8 + (2 + o.n) : Nat) : Int), ref := r, f := .pointer (some ⟨fb, 0, none⟩) }) rfl) S h) S h) S h) S h
  have S1_ := And.intro (hg1.l.l.l.r.c 12 (v := .pointer (some ⟨fb, 0, none⟩)) rfl) (And.intro (hg1.l.l.r.c 19 (v := .int .i64 ((c.F * 8 + (2 + o.n) : Nat) : Int)) rfl) (hg1.l.l.r.c 20 (v := .bool r) rfl))
  have S2_ := And.intro (g2.l.l.l.r.c 12 (v := .pointer (some ⟨fb, 0, none⟩)) rfl) (And.intro (g2.l.l.r.c 19 (v := .int .i64 ((c.F * 8 + (2 + o.n) : Nat) : Int)) rfl) (g2.l.l.r.c 20 (v := .bool r) rfl))
  have S3_ := And.intro (g3.l.l.l.r.c 12 (v := .pointer (some ⟨fb, 0, none⟩)) rfl) (And.intro (g3.l.l.r.c 19 (v := .int .i64 ((c.F * 8 + (2 + o.n) : Nat) : Int)) rfl) (g3.l.l.r.c 20 (v := .bool r) rfl))
  have S4_ := And.intro (g4.l.l.l.r.c 12 (v := .pointer (some ⟨fb, 0, none⟩)) rfl) (And.intro (g4.l.l.r.c 19 (v := .int .i64 ((c.F * 8 + (2 + o.n) : Nat) : Int)) rfl) (g4.l.l.r.c 20 (v := .bool r) rfl))
  have HG := Lib.hid g4
  have h0 : (0 : Int) ≤ ((c.F * 8 + (2 + o.n) : Nat) : Int) := by omega
  clear hg hg1 g2 g3 g4 d12
  refine wp_region_held_drew (S := (fun w' => w'.cell? ⟨b, 12, none⟩ = some (.pointer (some ⟨fb, 0, none⟩)) ∧ w'.cell? ⟨fb, 19, none⟩ = some (.int .i64 ((c.F * 8 + (2 + o.n) : Nat) : Int)) ∧ w'.cell? ⟨fb, 20, none⟩ = some (.bool r))) (by kernel_rfl) S1_ (fun hHeld => ?_)
  generalize had : ((c.F * 8 + (2 + o.n) : Nat) : Int) = ad at *
  have HAD := Lib.hid had
  clear had
  generalize w4.drew = wd at *
  refine wpAnyH_take (i := 0) (oi := _) (v := ?_) rfl (by kernel_rfl) (by kernel_rfl) (by kernel_rfl) (fun _ _ _ h => h) (Or.inl ⟨by rfl, ?_⟩) (by assumption) ?_
  rotate_left
  · intro w hSw
    (try dsimp only at hSw)
    go_simp
    with_reducible rfl
  try simp only [Act.put, List.setIfInBounds_toArray, List.set_cons_zero, List.set_cons_succ]
  refine wpAnyH_take (i := 1) (oi := _) (v := ?_) rfl (by kernel_rfl) (by kernel_rfl) (by kernel_rfl) (fun _ _ _ h => h) (Or.inl ⟨by rfl, ?_⟩) (by assumption) ?_
  rotate_left
  · intro w hSw
    (try dsimp only at hSw)
    go_simp
    with_reducible rfl
  try simp only [Act.put, List.setIfInBounds_toArray, List.set_cons_zero, List.set_cons_succ]
  refine wpAnyH_take (i := 2) (oi := _) (v := ?_) rfl (by kernel_rfl) (by kernel_rfl) (by kernel_rfl) (fun _ _ _ h => h) (Or.inl ⟨by rfl, ?_⟩) (by assumption) ?_
  rotate_left
  · intro w hSw
    (try dsimp only at hSw)
    go_simp
    with_reducible rfl
  try simp only [Act.put, List.setIfInBounds_toArray, List.set_cons_zero, List.set_cons_succ]
  refine wpAnyH_take (i := 3) (oi := _) (v := ?_) rfl (by kernel_rfl) (by kernel_rfl) (by kernel_rfl) (fun _ _ _ h => h) (Or.inl ⟨by rfl, ?_⟩) (by assumption) ?_
  rotate_left
  · intro w hSw
    (try dsimp only at hSw)
    go_simp
    with_reducible rfl
  try simp only [Act.put, List.setIfInBounds_toArray, List.set_cons_zero, List.set_cons_succ]
  refine wpAnyH_take (i := 4) (oi := _) (v := ?_) rfl (by kernel_rfl) (by kernel_rfl) (by kernel_rfl) (fun _ _ _ h => h) (Or.inl ⟨by rfl, ?_⟩) (by assumption) ?_
  rotate_left
  · intro w hSw
    (try dsimp only at hSw)
    go_simp
    with_reducible rfl
  try simp only [Act.put, List.setIfInBounds_toArray, List.set_cons_zero, List.set_cons_succ]
  refine wpAnyH_take (i := 5) (oi := _) (v := ?_) rfl (by kernel_rfl) (by kernel_rfl) (by kernel_rfl) (fun _ _ _ h => h) (Or.inl ⟨by rfl, ?_⟩) (by assumption) ?_
  rotate_left
  · intro w hSw
    (try dsimp only at hSw)
    go_simp
    with_reducible rfl
  try simp only [Act.put, List.setIfInBounds_toArray, List.set_cons_zero, List.set_cons_succ]
  refine wpAnyH_take (i := 6) (oi := _) (v := ?_) rfl (by kernel_rfl) (by kernel_rfl) (by kernel_rfl) (fun _ _ _ h => h) (Or.inl ⟨by rfl, ?_⟩) (by assumption) ?_
  rotate_left
  · intro w hSw
    (try dsimp only at hSw)
    go_simp
    with_reducible rfl
  try simp only [Act.put, List.setIfInBounds_toArray, List.set_cons_zero, List.set_cons_succ]
  refine wpAnyH_take (i := 7) (oi := _) (v := ?_) rfl (by kernel_rfl) (by kernel_rfl) (by kernel_rfl) (fun _ _ _ h => h) (Or.inl ⟨by rfl, ?_⟩) (by assumption) ?_
  rotate_left
  · intro w hSw
    (try dsimp only at hSw)
    go_simp
    with_reducible rfl
  try simp only [Act.put, List.setIfInBounds_toArray, List.set_cons_zero, List.set_cons_succ]
  refine wpAnyH_call (i := 8) (oi := _) (v := .int .i64 ad) rfl (by kernel_rfl) (by kernel_rfl) (by kernel_rfl) (fun _ _ _ h => h) ⟨by rfl, fun w hSw => ⟨_, _, ?_, find_atc hSw.2.1⟩⟩ (by assumption) ?_
  · go_simp
  try simp only [Act.put, List.setIfInBounds_toArray, List.set_cons_zero, List.set_cons_succ]
  refine wpAnyH_take (i := 9) (oi := _) (v := ?_) rfl (by kernel_rfl) (by kernel_rfl) (by kernel_rfl) (fun _ _ _ h => h) (Or.inl ⟨by rfl, ?_⟩) (by assumption) ?_
  rotate_left
  · intro w hSw
    (try dsimp only at hSw)
    go_simp
    with_reducible rfl
  try simp only [Act.put, List.setIfInBounds_toArray, List.set_cons_zero, List.set_cons_succ]
  refine wpAnyH_take (i := 10) (oi := _) (v := ?_) rfl (by kernel_rfl) (by kernel_rfl) (by kernel_rfl) (fun _ _ _ h => h) (Or.inl ⟨by rfl, ?_⟩) (by assumption) ?_
  rotate_left
  · intro w hSw
    (try dsimp only at hSw)
    go_simp
    with_reducible rfl
  try simp only [Act.put, List.setIfInBounds_toArray, List.set_cons_zero, List.set_cons_succ]
  refine wpAnyH_take (i := 11) (oi := _) (v := ?_) rfl (by kernel_rfl) (by kernel_rfl) (by kernel_rfl) (fun _ _ _ h => h) (Or.inl ⟨by rfl, ?_⟩) (by assumption) ?_
  rotate_left
  · intro w hSw
    (try dsimp only at hSw)
    go_simp
    with_reducible rfl
  try simp only [Act.put, List.setIfInBounds_toArray, List.set_cons_zero, List.set_cons_succ]
  refine wpAnyH_take (i := 12) (oi := _) (v := ?_) rfl (by kernel_rfl) (by kernel_rfl) (by kernel_rfl) (fun _ _ _ h => h) (Or.inl ⟨by rfl, ?_⟩) (by assumption) ?_
  rotate_left
  · intro w hSw
    (try dsimp only at hSw)
    go_simp
    with_reducible rfl
  try simp only [Act.put, List.setIfInBounds_toArray, List.set_cons_zero, List.set_cons_succ]
  refine wpAnyH_take (i := 13) (oi := _) (v := ?_) rfl (by kernel_rfl) (by kernel_rfl) (by kernel_rfl) (fun _ _ _ h => h) (Or.inl ⟨by rfl, ?_⟩) (by assumption) ?_
  rotate_left
  · intro w hSw
    (try dsimp only at hSw)
    go_simp
    with_reducible rfl
  try simp only [Act.put, List.setIfInBounds_toArray, List.set_cons_zero, List.set_cons_succ]
  refine wpAnyH_call (i := 14) (oi := _) (v := .bool r) rfl (by kernel_rfl) (by kernel_rfl) (by kernel_rfl) (fun _ _ _ h => h) ⟨by rfl, fun w hSw => ⟨_, _, ?_, find_refc h0 hSw.2.1 hSw.2.2⟩⟩ (by assumption) ?_
  · go_simp
  try simp only [Act.put, List.setIfInBounds_toArray, List.set_cons_zero, List.set_cons_succ]
  refine wpAnyH_take (i := 15) (oi := _) (v := ?_) rfl (by kernel_rfl) (by kernel_rfl) (by kernel_rfl) (fun _ _ _ h => h) (Or.inl ⟨by rfl, ?_⟩) (by assumption) ?_
  rotate_left
  · intro w hSw
    (try dsimp only at hSw)
    go_simp
    with_reducible rfl
  try simp only [Act.put, List.setIfInBounds_toArray, List.set_cons_zero, List.set_cons_succ]
  refine wpAnyH_take (i := 16) (oi := _) (v := ?_) rfl (by kernel_rfl) (by kernel_rfl) (by kernel_rfl) (fun _ _ _ h => h) (Or.inl ⟨by rfl, ?_⟩) (by assumption) ?_
  rotate_left
  · intro w hSw
    (try dsimp only at hSw)
    go_simp
    with_reducible rfl
  try simp only [Act.put, List.setIfInBounds_toArray, List.set_cons_zero, List.set_cons_succ]
  refine wpAnyH_take (i := 17) (oi := _) (v := ?_) rfl (by kernel_rfl) (by kernel_rfl) (by kernel_rfl) (fun _ _ _ h => h) (Or.inl ⟨by rfl, ?_⟩) (by assumption) ?_
  rotate_left
  · intro w hSw
    (try dsimp only at hSw)
    go_simp
    with_reducible rfl
  try simp only [Act.put, List.setIfInBounds_toArray, List.set_cons_zero, List.set_cons_succ]
  refine wpAnyH_ready (rs := [18]) (by kernel_rfl) (by simp) ?_
  refine AllReadyH.cons (o := _) rfl (fun K hK => ?_) AllReadyH.nil
  go_simp
  refine hK.out _ _ S2_ (fun hHeld => ?_)
  clear hK K
  try simp only [Act.put, List.setIfInBounds_toArray, List.set_cons_zero, List.set_cons_succ]
  refine wpAnyH_take (i := 19) (oi := _) (v := ?_) rfl (by kernel_rfl) (by kernel_rfl) (by kernel_rfl) (fun _ _ _ h => h) (Or.inl ⟨by rfl, ?_⟩) (by assumption) ?_
  rotate_left
  · intro w hSw
    (try dsimp only at hSw)
    go_simp
    with_reducible rfl
  try simp only [Act.put, List.setIfInBounds_toArray, List.set_cons_zero, List.set_cons_succ]
  refine wpAnyH_take (i := 20) (oi := _) (v := ?_) rfl (by kernel_rfl) (by kernel_rfl) (by kernel_rfl) (fun _ _ _ h => h) (Or.inl ⟨by rfl, ?_⟩) (by assumption) ?_
  rotate_left
  · intro w hSw
    (try dsimp only at hSw)
    go_simp
    with_reducible rfl
  try simp only [Act.put, List.setIfInBounds_toArray, List.set_cons_zero, List.set_cons_succ]
  refine wpAnyH_take (i := 21) (oi := _) (v := ?_) rfl (by kernel_rfl) (by kernel_rfl) (by kernel_rfl) (fun _ _ _ h => h) (Or.inl ⟨by rfl, ?_⟩) (by assumption) ?_
  rotate_left
  · intro w hSw
    (try dsimp only at hSw)
    go_simp
    with_reducible rfl
  try simp only [Act.put, List.setIfInBounds_toArray, List.set_cons_zero, List.set_cons_succ]
  refine wpAnyH_ready (rs := [22]) (by kernel_rfl) (by simp) ?_
  refine AllReadyH.cons (o := _) rfl (fun K hK => ?_) AllReadyH.nil
  go_simp
  refine hK.out _ _ S3_ (fun hHeld => ?_)
  clear hK K
  try simp only [Act.put, List.setIfInBounds_toArray, List.set_cons_zero, List.set_cons_succ]
  refine wpAnyH_take (i := 23) (oi := _) (v := ?_) rfl (by kernel_rfl) (by kernel_rfl) (by kernel_rfl) (fun _ _ _ h => h) (Or.inl ⟨by rfl, ?_⟩) (by assumption) ?_
  rotate_left
  · intro w hSw
    (try dsimp only at hSw)
    go_simp
    with_reducible rfl
  try simp only [Act.put, List.setIfInBounds_toArray, List.set_cons_zero, List.set_cons_succ]
  refine wpAnyH_take (i := 24) (oi := _) (v := ?_) rfl (by kernel_rfl) (by kernel_rfl) (by kernel_rfl) (fun _ _ _ h => h) (Or.inl ⟨by rfl, ?_⟩) (by assumption) ?_
  rotate_left
  · intro w hSw
    (try dsimp only at hSw)
    go_simp
    with_reducible rfl
  try simp only [Act.put, List.setIfInBounds_toArray, List.set_cons_zero, List.set_cons_succ]
  refine wpAnyH_take (i := 25) (oi := _) (v := ?_) rfl (by kernel_rfl) (by kernel_rfl) (by kernel_rfl) (fun _ _ _ h => h) (Or.inl ⟨by rfl, ?_⟩) (by assumption) ?_
  rotate_left
  · intro w hSw
    (try dsimp only at hSw)
    go_simp
    with_reducible rfl
  try simp only [Act.put, List.setIfInBounds_toArray, List.set_cons_zero, List.set_cons_succ]
  refine wpAnyH_ready (rs := [26]) (by kernel_rfl) (by simp) ?_
  refine AllReadyH.cons (o := _) rfl (fun K hK => ?_) AllReadyH.nil
  go_simp
  refine hK.out _ _ S4_ (fun hHeld => ?_)
  clear hK K
  try simp only [Act.put, List.setIfInBounds_toArray, List.set_cons_zero, List.set_cons_succ]
  refine wpAnyH_done (by kernel_rfl) ?_ _
  clear S1_ S2_ S3_ S4_ hHeld
  generalize World.setCell (World.setCell (World.setCell _ _ _) _ _) _ _ = w6 at *
  clear c13 f13 c14 f14 c11 f11 h0
  have o0 := HG.out.l.r.vc 0 (v := .int .i64 3) rfl
  clear o0
  have o0 := HG.out.l.r.vc 0 (v := .int .i64 3) rfl
  go_upto_region 9 with fail
  clear o0
  have hg : Goes (Sep (Sep (Core A c q) (LThr b t ov lg n { x with at_ := 2, addr := ad, ref := r, f := .pointer (some ⟨fb, 0, none⟩) } l X)) (Var rb #[.int .i64 0, .int .i64 0, .int .i64 0, .bool false, .complex .f64 0 0] 41)) S w w6 := HG.out.drop (Part.both (Part.trans (Part.left _ _) (Part.left _ _)) (Part.refl _))
  clear HG
  have q0_ := hg.r.vc 0 (v := .int .i64 0) rfl
  have p0_ := hg.r.vf 0
  have q1_ := hg.r.vc 1 (v := .int .i64 0) rfl
  have p1_ := hg.r.vf 1
  have q2_ := hg.r.vc 2 (v := .int .i64 0) rfl
  have p2_ := hg.r.vf 2
  have q3_ := hg.r.vc 3 (v := .bool false) rfl
  have p3_ := hg.r.vf 3
  have q4_ := hg.r.vc 4 (v := .complex .f64 0 0) rfl
  have p4_ := hg.r.vf 4
  have g8_ := hg.then fun S h => goesR (fun S h => (((((Goes.begin h).vput 0 (.int .i64 (0)) rfl).vput 1 (.int .i64 (0)) rfl).vput 2 (.int .i64 (0)) rfl).vput 3 (.bool (false)) rfl).vput 4 (.complex .f64 0 0) rfl) S h
  have k0_ := g8_.r.vc 0 (v := .int .i64 (0)) rfl
  have k1_ := g8_.r.vc 1 (v := .int .i64 (0)) rfl
  have k2_ := g8_.r.vc 2 (v := .int .i64 (0)) rfl
  have k3_ := g8_.r.vc 3 (v := .bool (false)) rfl
  have k4_ := g8_.r.vc 4 (v := .complex .f64 0 0) rfl
  have HF := Lib.hid g8_.l
  clear hg g8_
  go_wp2_with fail
  (try rw [via_ret])
  exact bodyPost_ret (v := .tuple #[.agg #[.int .i64 (0), .int .i64 (0), .int .i64 (0), .bool (false), .complex .f64 0 0], .bool false]) (by simp [results, Tryz.results111, go_sem, k0_, k1_, k2_, k3_, k4_]) rfl (by have h9 := HAD.out; subst h9; exact ⟨rfl, HF.out⟩)
end
end Go.Proofs.YtnkgnhpapcnebaaGreat
