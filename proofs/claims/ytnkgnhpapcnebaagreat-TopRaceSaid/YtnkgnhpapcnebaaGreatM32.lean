/- A thread: an operation's first step: what fails, and what needs no access. -/
import Derived.Test.YtnkgnhpapcnebaaGreatM30
import Derived.Test.YtnkgnhpapcnebaaGreatM31
import Derived.Test.YtnkgnhpapcnebaaGreatM22
import Derived.Test.YtnkgnhpapcnebaaGreatM29
set_option linter.unusedVariables false
set_option linter.unusedSimpArgs false
set_option maxHeartbeats 8000000
namespace Go.Proofs.YtnkgnhpapcnebaaGreat
open Go.RowKit
attribute [local go_sem] run_store_complex via_ret via_normal via_exit via_panic
section
variable {b t : Nat} {ov lv : Value} {x : Tc} {X : Thing} {S : Nat → Prop} {w w' : World} {A : CA} {c : Cf} {q : Q} {lg n : Nat} {l : Nat → Lc}
set_option maxRecDepth 100000 in
theorem act_starts3f {o : Opn} {j : Nat} (hc : c.ok) (hk : o.kd = 3) (hjo : o.b = j) (hj : j < n) (hs : (l j).k ≤ 17 ∧ (l j).i ≤ 17) (he : opE (l j) = 3) (hA : o.a < c.locals) (hB : j < c.locals) (hph : x.ph = 2) (hnx : x.nx ≤ 1000) (h : (Sep (Core A c q) (LThr b t ov lg n x l X)).at_ S w) :
    Calls Tryz.prog 110 #[.pointer (some ⟨b, 0, none⟩), .pointer (some ⟨A.b, 0, none⟩), .agg (opc o)] w fun e w' => e = .returned (Rs.v ⟨x.nx, x.own, 3, false, 0, 0, true⟩) ∧ Goes (Sep (Core A c q) (LThr b t ov lg n x.next l X)) S w w' := by
  have hoc : opc o = #[.int .i64 3, .int .i64 (o.a : Int), .int .i64 (j : Int), .int .i64 (o.c : Int), .int .i64 (o.n : Int), .complex .f64 o.z1 o.z2] := by unfold opc; rw [hk, hjo]; rfl
  have g0 := ((Goes.begin h).moreSt (St.fresh #[.int .i64 3, .int .i64 (o.a : Int), .int .i64 (j : Int), .int .i64 (o.c : Int), .int .i64 (o.n : Int), .complex .f64 o.z1 o.z2] 26)).moreSt (St.fresh zeroRes 41)
  rw [World.size_alloc] at g0
  obtain ⟨vb, hvb⟩ : ∃ k, w.heap.size = k := ⟨_, rfl⟩
  obtain ⟨rb, hrb⟩ : ∃ k, vb + 1 = k := ⟨_, rfl⟩
  rw [hvb, hrb] at g0
  simp only [zeroRes] at g0
  have g1 := g0.drew_
  obtain ⟨c0, c1, c2, c3, c4, c5, c6, c7, c8⟩ := core9 g1.l.l.l
  have p0 := g1.l.r.vc 0 (v := .int .i64 3) rfl
  have p1 := g1.l.r.vc 1 (v := .int .i64 (o.a : Int)) rfl
  have p2 := g1.l.r.vc 2 (v := .int .i64 (j : Int)) rfl
  have p3 := g1.l.r.vc 3 (v := .int .i64 (o.c : Int)) rfl
  have p4 := g1.l.r.vc 4 (v := .int .i64 (o.n : Int)) rfl
  have p5 := g1.l.r.vc 5 (v := .complex .f64 o.z1 o.z2) rfl
  have HL := Lib.hid (g1.plain (op_check3 hc hA hB (A := o.a) (B := j) (C := o.c) (N := o.n) (z1 := o.z1) (z2 := o.z2) (core_confIs g1.l.l.l.is).choose_spec))
  have HO := Lib.hid fun w1 (gg : Goes (Sep (Sep (Sep (Core A c q) (LThr b t ov lg n x l X)) (Var vb #[.int .i64 3, .int .i64 (o.a : Int), .int .i64 (j : Int), .int .i64 (o.c : Int), .int .i64 (o.n : Int), .complex .f64 o.z1 o.z2] 26)) (Var rb #[.int .i64 0, .int .i64 0, .int .i64 0, .bool false, .complex .f64 0 0] 41)) S w w1) => gg.call (sepL (sepL (sepR fun S h => act_operands3 hk hjo hj hs h)))
  have HF := Lib.hid fun w1 (gg : Goes (Sep (Sep (Sep (Core A c q) (LThr b t ov lg n x l X)) (Var vb #[.int .i64 3, .int .i64 (o.a : Int), .int .i64 (j : Int), .int .i64 (o.c : Int), .int .i64 (o.n : Int), .complex .f64 o.z1 o.z2] 26)) (Var rb #[.int .i64 0, .int .i64 0, .int .i64 0, .bool false, .complex .f64 0 0] 41)) S w w1) => gg.call (sepL (sepL (sepR fun S h => act_fails (er := 3) (by decide) hph hnx h)))
  unfold Rs.v at *
  rw [hoc] at HO
  rw [hoc]
  unfold cfV at HL
  rw [he] at HO
  clear h g0 g1 hoc hk hjo hc hs
  go_enter Tryz.func110, Tryz.ntmps110
  go_upto_region 1 with fail
  generalize (w.alloc _).alloc _ = w1 at *
  go_still_tail 5, (by kernel_rfl)
  change wpList _ _ _ _ _ w1.drew
  generalize w1.drew = w2 at *
  go_wp2_with fail
  with_reducible refine HL.out.mono ?_
  rintro e w3 ⟨rfl, hg⟩
  have HC := Lib.hid (HO.out _ hg)
  clear HL HO c0 c1 c2 c3 c4 c5 c6 c7 c8 p0 p1 p2 p3 p4 p5
  have p0 := hg.l.r.vc 0 (v := .int .i64 3) rfl
  have p1 := hg.l.r.vc 1 (v := .int .i64 (o.a : Int)) rfl
  have p2 := hg.l.r.vc 2 (v := .int .i64 (j : Int)) rfl
  have p3 := hg.l.r.vc 3 (v := .int .i64 (o.c : Int)) rfl
  have p4 := hg.l.r.vc 4 (v := .int .i64 (o.n : Int)) rfl
  have p5 := hg.l.r.vc 5 (v := .complex .f64 o.z1 o.z2) rfl
  clear hg
  go_wp2_with fail
  with_reducible refine HC.out.mono ?_
  rintro e w4 ⟨rfl, hg⟩
  clear HC p0 p1 p2 p3 p4 p5
  have HFC := Lib.hid (HF.out _ hg)
  clear HF hg
  go_wp2_with fail
  with_reducible refine HFC.out.mono ?_
  rintro e w5 ⟨rfl, hgx⟩
  have hg : Goes (Sep (Sep (Sep (Core A c q) (LThr b t ov lg n x.next l X)) (Var vb #[.int .i64 3, .int .i64 (o.a : Int), .int .i64 (j : Int), .int .i64 (o.c : Int), .int .i64 (o.n : Int), .complex .f64 o.z1 o.z2] 26)) (Var rb #[.int .i64 0, .int .i64 0, .int .i64 0, .bool false, .complex .f64 0 0] 41)) S w w5 := hgx
  clear HFC hgx
  have q0_ := hg.r.vc 0 (v := .int .i64 0) rfl
  have p0_ := hg.r.vf 0
  have q1_ := hg.r.vc 1 (v := .int .i64 0) rfl
  have p1_ := hg.r.vf 1
  have q2_ := hg.r.vc 2 (v := .int .i64 0) rfl
  have p2_ := hg.r.vf 2
  have q3_ := hg.r.vc 3 (v := .bool false) rfl
  have p3_ := hg.r.vf 3
  have q4_ := hg.r.vc 4 (v := .complex .f64 0 0) rfl
  have p4_ := hg.r.vf 4
  have g8_ := hg.then fun S h => goesR (fun S h => (((((Goes.begin h).vput 0 (.int .i64 (x.nx)) rfl).vput 1 (.int .i64 (x.own)) rfl).vput 2 (.int .i64 (3)) rfl).vput 3 (.bool (false)) rfl).vput 4 (.complex .f64 0 0) rfl) S h
  have k0_ := g8_.r.vc 0 (v := .int .i64 (x.nx)) rfl
  have k1_ := g8_.r.vc 1 (v := .int .i64 (x.own)) rfl
  have k2_ := g8_.r.vc 2 (v := .int .i64 (3)) rfl
  have k3_ := g8_.r.vc 3 (v := .bool (false)) rfl
  have k4_ := g8_.r.vc 4 (v := .complex .f64 0 0) rfl
  have HF := Lib.hid g8_.l
  clear hg g8_
  go_wp2_with fail
  (try rw [via_ret])
  exact bodyPost_ret (v := .tuple #[.agg #[.int .i64 (x.nx), .int .i64 (x.own), .int .i64 (3), .bool (false), .complex .f64 0 0], .bool true]) (by simp [results, Tryz.results110, go_sem, k0_, k1_, k2_, k3_, k4_]) rfl ⟨rfl, HF.out.l⟩
set_option maxRecDepth 100000 in
theorem act_starts4f {o : Opn} {j : Nat} (hc : c.ok) (hk : o.kd = 4) (hjo : o.a = j) (hj : j < n) (hs : (l j).k ≤ 17 ∧ (l j).i ≤ 17) (he : opE (l j) = 3) (hA : j < c.locals) (hB : o.b < c.locals) (hph : x.ph = 2) (hnx : x.nx ≤ 1000) (h : (Sep (Core A c q) (LThr b t ov lg n x l X)).at_ S w) :
    Calls Tryz.prog 110 #[.pointer (some ⟨b, 0, none⟩), .pointer (some ⟨A.b, 0, none⟩), .agg (opc o)] w fun e w' => e = .returned (Rs.v ⟨x.nx, x.own, 3, false, 0, 0, true⟩) ∧ Goes (Sep (Core A c q) (LThr b t ov lg n x.next l X)) S w w' := by
  have hoc : opc o = #[.int .i64 4, .int .i64 (j : Int), .int .i64 (o.b : Int), .int .i64 (o.c : Int), .int .i64 (o.n : Int), .complex .f64 o.z1 o.z2] := by unfold opc; rw [hk, hjo]; rfl
  have g0 := ((Goes.begin h).moreSt (St.fresh #[.int .i64 4, .int .i64 (j : Int), .int .i64 (o.b : Int), .int .i64 (o.c : Int), .int .i64 (o.n : Int), .complex .f64 o.z1 o.z2] 26)).moreSt (St.fresh zeroRes 41)
  rw [World.size_alloc] at g0
  obtain ⟨vb, hvb⟩ : ∃ k, w.heap.size = k := ⟨_, rfl⟩
  obtain ⟨rb, hrb⟩ : ∃ k, vb + 1 = k := ⟨_, rfl⟩
  rw [hvb, hrb] at g0
  simp only [zeroRes] at g0
  have g1 := g0.drew_
  obtain ⟨c0, c1, c2, c3, c4, c5, c6, c7, c8⟩ := core9 g1.l.l.l
  have p0 := g1.l.r.vc 0 (v := .int .i64 4) rfl
  have p1 := g1.l.r.vc 1 (v := .int .i64 (j : Int)) rfl
  have p2 := g1.l.r.vc 2 (v := .int .i64 (o.b : Int)) rfl
  have p3 := g1.l.r.vc 3 (v := .int .i64 (o.c : Int)) rfl
  have p4 := g1.l.r.vc 4 (v := .int .i64 (o.n : Int)) rfl
  have p5 := g1.l.r.vc 5 (v := .complex .f64 o.z1 o.z2) rfl
  have HL := Lib.hid (g1.plain (op_check4 hc hA hB (A := j) (B := o.b) (C := o.c) (N := o.n) (z1 := o.z1) (z2 := o.z2) (core_confIs g1.l.l.l.is).choose_spec))
  have HO := Lib.hid fun w1 (gg : Goes (Sep (Sep (Sep (Core A c q) (LThr b t ov lg n x l X)) (Var vb #[.int .i64 4, .int .i64 (j : Int), .int .i64 (o.b : Int), .int .i64 (o.c : Int), .int .i64 (o.n : Int), .complex .f64 o.z1 o.z2] 26)) (Var rb #[.int .i64 0, .int .i64 0, .int .i64 0, .bool false, .complex .f64 0 0] 41)) S w w1) => gg.call (sepL (sepL (sepR fun S h => act_operands4 hk hjo hj hs h)))
  have HF := Lib.hid fun w1 (gg : Goes (Sep (Sep (Sep (Core A c q) (LThr b t ov lg n x l X)) (Var vb #[.int .i64 4, .int .i64 (j : Int), .int .i64 (o.b : Int), .int .i64 (o.c : Int), .int .i64 (o.n : Int), .complex .f64 o.z1 o.z2] 26)) (Var rb #[.int .i64 0, .int .i64 0, .int .i64 0, .bool false, .complex .f64 0 0] 41)) S w w1) => gg.call (sepL (sepL (sepR fun S h => act_fails (er := 3) (by decide) hph hnx h)))
  unfold Rs.v at *
  rw [hoc] at HO
  rw [hoc]
  unfold cfV at HL
  rw [he] at HO
  clear h g0 g1 hoc hk hjo hc hs
  go_enter Tryz.func110, Tryz.ntmps110
  go_upto_region 1 with fail
  generalize (w.alloc _).alloc _ = w1 at *
  go_still_tail 5, (by kernel_rfl)
  change wpList _ _ _ _ _ w1.drew
  generalize w1.drew = w2 at *
  go_wp2_with fail
  with_reducible refine HL.out.mono ?_
  rintro e w3 ⟨rfl, hg⟩
  have HC := Lib.hid (HO.out _ hg)
  clear HL HO c0 c1 c2 c3 c4 c5 c6 c7 c8 p0 p1 p2 p3 p4 p5
  have p0 := hg.l.r.vc 0 (v := .int .i64 4) rfl
  have p1 := hg.l.r.vc 1 (v := .int .i64 (j : Int)) rfl
  have p2 := hg.l.r.vc 2 (v := .int .i64 (o.b : Int)) rfl
  have p3 := hg.l.r.vc 3 (v := .int .i64 (o.c : Int)) rfl
  have p4 := hg.l.r.vc 4 (v := .int .i64 (o.n : Int)) rfl
  have p5 := hg.l.r.vc 5 (v := .complex .f64 o.z1 o.z2) rfl
  clear hg
  go_wp2_with fail
  with_reducible refine HC.out.mono ?_
  rintro e w4 ⟨rfl, hg⟩
  clear HC p0 p1 p2 p3 p4 p5
  have HFC := Lib.hid (HF.out _ hg)
  clear HF hg
  go_wp2_with fail
  with_reducible refine HFC.out.mono ?_
  rintro e w5 ⟨rfl, hgx⟩
  have hg : Goes (Sep (Sep (Sep (Core A c q) (LThr b t ov lg n x.next l X)) (Var vb #[.int .i64 4, .int .i64 (j : Int), .int .i64 (o.b : Int), .int .i64 (o.c : Int), .int .i64 (o.n : Int), .complex .f64 o.z1 o.z2] 26)) (Var rb #[.int .i64 0, .int .i64 0, .int .i64 0, .bool false, .complex .f64 0 0] 41)) S w w5 := hgx
  clear HFC hgx
  have q0_ := hg.r.vc 0 (v := .int .i64 0) rfl
  have p0_ := hg.r.vf 0
  have q1_ := hg.r.vc 1 (v := .int .i64 0) rfl
  have p1_ := hg.r.vf 1
  have q2_ := hg.r.vc 2 (v := .int .i64 0) rfl
  have p2_ := hg.r.vf 2
  have q3_ := hg.r.vc 3 (v := .bool false) rfl
  have p3_ := hg.r.vf 3
  have q4_ := hg.r.vc 4 (v := .complex .f64 0 0) rfl
  have p4_ := hg.r.vf 4
  have g8_ := hg.then fun S h => goesR (fun S h => (((((Goes.begin h).vput 0 (.int .i64 (x.nx)) rfl).vput 1 (.int .i64 (x.own)) rfl).vput 2 (.int .i64 (3)) rfl).vput 3 (.bool (false)) rfl).vput 4 (.complex .f64 0 0) rfl) S h
  have k0_ := g8_.r.vc 0 (v := .int .i64 (x.nx)) rfl
  have k1_ := g8_.r.vc 1 (v := .int .i64 (x.own)) rfl
  have k2_ := g8_.r.vc 2 (v := .int .i64 (3)) rfl
  have k3_ := g8_.r.vc 3 (v := .bool (false)) rfl
  have k4_ := g8_.r.vc 4 (v := .complex .f64 0 0) rfl
  have HF := Lib.hid g8_.l
  clear hg g8_
  go_wp2_with fail
  (try rw [via_ret])
  exact bodyPost_ret (v := .tuple #[.agg #[.int .i64 (x.nx), .int .i64 (x.own), .int .i64 (3), .bool (false), .complex .f64 0 0], .bool true]) (by simp [results, Tryz.results110, go_sem, k0_, k1_, k2_, k3_, k4_]) rfl ⟨rfl, HF.out.l⟩
set_option maxRecDepth 100000 in
theorem act_starts8f {o : Opn} {j : Nat} (hc : c.ok) (hk : o.kd = 8) (hjo : o.b = j) (hj : j < n) (hs : (l j).k ≤ 17 ∧ (l j).i ≤ 17) (he : (if (l j).ref then (0 : Int) else 4) = 4) (hB : j < c.locals) (hN : o.n < c.globals) (hph : x.ph = 2) (hnx : x.nx ≤ 1000) (h : (Sep (Core A c q) (LThr b t ov lg n x l X)).at_ S w) :
    Calls Tryz.prog 110 #[.pointer (some ⟨b, 0, none⟩), .pointer (some ⟨A.b, 0, none⟩), .agg (opc o)] w fun e w' => e = .returned (Rs.v ⟨x.nx, x.own, 4, false, 0, 0, true⟩) ∧ Goes (Sep (Core A c q) (LThr b t ov lg n x.next l X)) S w w' := by
  have hoc : opc o = #[.int .i64 8, .int .i64 (o.a : Int), .int .i64 (j : Int), .int .i64 (o.c : Int), .int .i64 (o.n : Int), .complex .f64 o.z1 o.z2] := by unfold opc; rw [hk, hjo]; rfl
  have g0 := ((Goes.begin h).moreSt (St.fresh #[.int .i64 8, .int .i64 (o.a : Int), .int .i64 (j : Int), .int .i64 (o.c : Int), .int .i64 (o.n : Int), .complex .f64 o.z1 o.z2] 26)).moreSt (St.fresh zeroRes 41)
  rw [World.size_alloc] at g0
  obtain ⟨vb, hvb⟩ : ∃ k, w.heap.size = k := ⟨_, rfl⟩
  obtain ⟨rb, hrb⟩ : ∃ k, vb + 1 = k := ⟨_, rfl⟩
  rw [hvb, hrb] at g0
  simp only [zeroRes] at g0
  have g1 := g0.drew_
  obtain ⟨c0, c1, c2, c3, c4, c5, c6, c7, c8⟩ := core9 g1.l.l.l
  have p0 := g1.l.r.vc 0 (v := .int .i64 8) rfl
  have p1 := g1.l.r.vc 1 (v := .int .i64 (o.a : Int)) rfl
  have p2 := g1.l.r.vc 2 (v := .int .i64 (j : Int)) rfl
  have p3 := g1.l.r.vc 3 (v := .int .i64 (o.c : Int)) rfl
  have p4 := g1.l.r.vc 4 (v := .int .i64 (o.n : Int)) rfl
  have p5 := g1.l.r.vc 5 (v := .complex .f64 o.z1 o.z2) rfl
  have HL := Lib.hid (g1.plain (op_check8 hc hB hN (A := o.a) (B := j) (C := o.c) (N := o.n) (z1 := o.z1) (z2 := o.z2) (core_confIs g1.l.l.l.is).choose_spec))
  have HO := Lib.hid fun w1 (gg : Goes (Sep (Sep (Sep (Core A c q) (LThr b t ov lg n x l X)) (Var vb #[.int .i64 8, .int .i64 (o.a : Int), .int .i64 (j : Int), .int .i64 (o.c : Int), .int .i64 (o.n : Int), .complex .f64 o.z1 o.z2] 26)) (Var rb #[.int .i64 0, .int .i64 0, .int .i64 0, .bool false, .complex .f64 0 0] 41)) S w w1) => gg.call (sepL (sepL (sepR fun S h => act_operands8 hk hjo hj hs h)))
  have HF := Lib.hid fun w1 (gg : Goes (Sep (Sep (Sep (Core A c q) (LThr b t ov lg n x l X)) (Var vb #[.int .i64 8, .int .i64 (o.a : Int), .int .i64 (j : Int), .int .i64 (o.c : Int), .int .i64 (o.n : Int), .complex .f64 o.z1 o.z2] 26)) (Var rb #[.int .i64 0, .int .i64 0, .int .i64 0, .bool false, .complex .f64 0 0] 41)) S w w1) => gg.call (sepL (sepL (sepR fun S h => act_fails (er := 4) (by decide) hph hnx h)))
  unfold Rs.v at *
  rw [hoc] at HO
  rw [hoc]
  unfold cfV at HL
  skip
  rw [he] at HO
  clear h g0 g1 hoc hk hjo hc hs
  go_enter Tryz.func110, Tryz.ntmps110
  go_upto_region 1 with fail
  generalize (w.alloc _).alloc _ = w1 at *
  go_still_tail 5, (by kernel_rfl)
  change wpList _ _ _ _ _ w1.drew
  generalize w1.drew = w2 at *
  go_wp2_with fail
  with_reducible refine HL.out.mono ?_
  rintro e w3 ⟨rfl, hg⟩
  have HC := Lib.hid (HO.out _ hg)
  clear HL HO c0 c1 c2 c3 c4 c5 c6 c7 c8 p0 p1 p2 p3 p4 p5
  have p0 := hg.l.r.vc 0 (v := .int .i64 8) rfl
  have p1 := hg.l.r.vc 1 (v := .int .i64 (o.a : Int)) rfl
  have p2 := hg.l.r.vc 2 (v := .int .i64 (j : Int)) rfl
  have p3 := hg.l.r.vc 3 (v := .int .i64 (o.c : Int)) rfl
  have p4 := hg.l.r.vc 4 (v := .int .i64 (o.n : Int)) rfl
  have p5 := hg.l.r.vc 5 (v := .complex .f64 o.z1 o.z2) rfl
  clear hg
  go_wp2_with fail
  with_reducible refine HC.out.mono ?_
  rintro e w4 ⟨rfl, hg⟩
  clear HC p0 p1 p2 p3 p4 p5
  have HFC := Lib.hid (HF.out _ hg)
  clear HF hg
  go_wp2_with fail
  with_reducible refine HFC.out.mono ?_
  rintro e w5 ⟨rfl, hgx⟩
  have hg : Goes (Sep (Sep (Sep (Core A c q) (LThr b t ov lg n x.next l X)) (Var vb #[.int .i64 8, .int .i64 (o.a : Int), .int .i64 (j : Int), .int .i64 (o.c : Int), .int .i64 (o.n : Int), .complex .f64 o.z1 o.z2] 26)) (Var rb #[.int .i64 0, .int .i64 0, .int .i64 0, .bool false, .complex .f64 0 0] 41)) S w w5 := hgx
  clear HFC hgx
  have q0_ := hg.r.vc 0 (v := .int .i64 0) rfl
  have p0_ := hg.r.vf 0
  have q1_ := hg.r.vc 1 (v := .int .i64 0) rfl
  have p1_ := hg.r.vf 1
  have q2_ := hg.r.vc 2 (v := .int .i64 0) rfl
  have p2_ := hg.r.vf 2
  have q3_ := hg.r.vc 3 (v := .bool false) rfl
  have p3_ := hg.r.vf 3
  have q4_ := hg.r.vc 4 (v := .complex .f64 0 0) rfl
  have p4_ := hg.r.vf 4
  have g8_ := hg.then fun S h => goesR (fun S h => (((((Goes.begin h).vput 0 (.int .i64 (x.nx)) rfl).vput 1 (.int .i64 (x.own)) rfl).vput 2 (.int .i64 (4)) rfl).vput 3 (.bool (false)) rfl).vput 4 (.complex .f64 0 0) rfl) S h
  have k0_ := g8_.r.vc 0 (v := .int .i64 (x.nx)) rfl
  have k1_ := g8_.r.vc 1 (v := .int .i64 (x.own)) rfl
  have k2_ := g8_.r.vc 2 (v := .int .i64 (4)) rfl
  have k3_ := g8_.r.vc 3 (v := .bool (false)) rfl
  have k4_ := g8_.r.vc 4 (v := .complex .f64 0 0) rfl
  have HF := Lib.hid g8_.l
  clear hg g8_
  go_wp2_with fail
  (try rw [via_ret])
  exact bodyPost_ret (v := .tuple #[.agg #[.int .i64 (x.nx), .int .i64 (x.own), .int .i64 (4), .bool (false), .complex .f64 0 0], .bool true]) (by simp [results, Tryz.results110, go_sem, k0_, k1_, k2_, k3_, k4_]) rfl ⟨rfl, HF.out.l⟩
set_option maxRecDepth 100000 in
theorem act_starts12 {o : Opn} {k i : Nat} (hc : c.ok) (hk : o.kd = 12) (hz1 : o.z1 = fl k) (hz2 : o.z2 = fl i) (hA : o.a < c.locals) (hn : n = c.locals) (hph : x.ph = 2) (hnx : x.nx ≤ 1000) (h : (Sep (Core A c q) (LThr b t ov lg n x l X)).at_ S w) :
    Calls Tryz.prog 110 #[.pointer (some ⟨b, 0, none⟩), .pointer (some ⟨A.b, 0, none⟩), .agg (opc o)] w fun e w' => e = .returned (Rs.v ⟨x.nx, x.own, 0, false, fl k, fl i, true⟩) ∧ Goes (Sep (Core A c q) (LThr b t ov lg n x.next (updL l o.a ⟨false, k, i⟩) X)) S w w' := by
  have hoc : opc o = #[.int .i64 12, .int .i64 (o.a : Int), .int .i64 (o.b : Int), .int .i64 (o.c : Int), .int .i64 (o.n : Int), .complex .f64 o.z1 o.z2] := by unfold opc; rw [hk]; rfl
  have g0 := ((Goes.begin h).moreSt (St.fresh #[.int .i64 12, .int .i64 (o.a : Int), .int .i64 (o.b : Int), .int .i64 (o.c : Int), .int .i64 (o.n : Int), .complex .f64 o.z1 o.z2] 26)).moreSt (St.fresh zeroRes 41)
  rw [World.size_alloc] at g0
  obtain ⟨vb, hvb⟩ : ∃ k, w.heap.size = k := ⟨_, rfl⟩
  obtain ⟨rb, hrb⟩ : ∃ k, vb + 1 = k := ⟨_, rfl⟩
  rw [hvb, hrb] at g0
  simp only [zeroRes] at g0
  have g1 := g0.drew_
  obtain ⟨c0, c1, c2, c3, c4, c5, c6, c7, c8⟩ := core9 g1.l.l.l
  have p0 := g1.l.r.vc 0 (v := .int .i64 12) rfl
  have p1 := g1.l.r.vc 1 (v := .int .i64 (o.a : Int)) rfl
  have p2 := g1.l.r.vc 2 (v := .int .i64 (o.b : Int)) rfl
  have p3 := g1.l.r.vc 3 (v := .int .i64 (o.c : Int)) rfl
  have p4 := g1.l.r.vc 4 (v := .int .i64 (o.n : Int)) rfl
  have p5 := g1.l.r.vc 5 (v := .complex .f64 o.z1 o.z2) rfl
  have HL := Lib.hid (g1.plain (op_check12 hc hA (A := o.a) (B := o.b) (C := o.c) (N := o.n) (z1 := o.z1) (z2 := o.z2) (core_confIs g1.l.l.l.is).choose_spec))
  have HO := Lib.hid fun w1 (gg : Goes (Sep (Sep (Sep (Core A c q) (LThr b t ov lg n x l X)) (Var vb #[.int .i64 12, .int .i64 (o.a : Int), .int .i64 (o.b : Int), .int .i64 (o.c : Int), .int .i64 (o.n : Int), .complex .f64 o.z1 o.z2] 26)) (Var rb #[.int .i64 0, .int .i64 0, .int .i64 0, .bool false, .complex .f64 0 0] 41)) S w w1) => gg.call (sepL (sepL (sepR fun S h => act_operands12 hk h)))
  have HP := Lib.hid fun w1 (gg : Goes (Sep (Sep (Sep (Core A c q) (LThr b t ov lg n x l X)) (Var vb #[.int .i64 12, .int .i64 (o.a : Int), .int .i64 (o.b : Int), .int .i64 (o.c : Int), .int .i64 (o.n : Int), .complex .f64 o.z1 o.z2] 26)) (Var rb #[.int .i64 0, .int .i64 0, .int .i64 0, .bool false, .complex .f64 0 0] 41)) S w w1) => gg.call (sepL (sepL (sepR fun S h => act_plain12 hk h)))
  have HY := Lib.hid fun w1 pb (gg : Goes (Sep (Sep (Sep (Sep (Core A c q) (LThr b t ov lg n x l X)) (Var vb #[.int .i64 12, .int .i64 (o.a : Int), .int .i64 (o.b : Int), .int .i64 (o.c : Int), .int .i64 (o.n : Int), .complex .f64 o.z1 o.z2] 26)) (Var rb #[.int .i64 0, .int .i64 0, .int .i64 0, .bool false, .complex .f64 0 0] 41)) (Var pb #[.bool false, .complex .f64 o.z1 o.z2] 39)) S w w1) => gg.call (sepL (sepL (sepL (sepR fun S h => act_lays (v := ⟨false, k, i⟩) (show o.a < n by omega) (by have := hc.locals; omega) hph hnx h))))
  unfold cx at HY
  simp only [← hz1, ← hz2] at HY ⊢
  rw [hoc] at HO HP
  rw [hoc]
  unfold cfV at HL
  unfold Rs.v at *
  clear h g0 g1 hoc hk hc hz1 hz2
  go_enter Tryz.func110, Tryz.ntmps110
  go_upto_region 1 with fail
  generalize (w.alloc _).alloc _ = w1 at *
  go_still_tail 5, (by kernel_rfl)
  change wpList _ _ _ _ _ w1.drew
  generalize w1.drew = w2 at *
  go_wp2_with fail
  with_reducible refine HL.out.mono ?_
  rintro e w3 ⟨rfl, hg⟩
  have HC := Lib.hid (HO.out _ hg)
  clear HL HO c0 c1 c2 c3 c4 c5 c6 c7 c8 p0 p1 p2 p3 p4 p5
  have p0 := hg.l.r.vc 0 (v := .int .i64 12) rfl
  have p1 := hg.l.r.vc 1 (v := .int .i64 (o.a : Int)) rfl
  have p2 := hg.l.r.vc 2 (v := .int .i64 (o.b : Int)) rfl
  have p3 := hg.l.r.vc 3 (v := .int .i64 (o.c : Int)) rfl
  have p4 := hg.l.r.vc 4 (v := .int .i64 (o.n : Int)) rfl
  have p5 := hg.l.r.vc 5 (v := .complex .f64 o.z1 o.z2) rfl
  clear hg
  go_wp2_with fail
  with_reducible refine HC.out.mono ?_
  rintro e w4 ⟨rfl, hg⟩
  clear HC p0 p1 p2 p3 p4 p5
  have HPC := Lib.hid (HP.out _ hg)
  have p0 := hg.l.r.vc 0 (v := .int .i64 12) rfl
  have p1 := hg.l.r.vc 1 (v := .int .i64 (o.a : Int)) rfl
  have p2 := hg.l.r.vc 2 (v := .int .i64 (o.b : Int)) rfl
  have p3 := hg.l.r.vc 3 (v := .int .i64 (o.c : Int)) rfl
  have p4 := hg.l.r.vc 4 (v := .int .i64 (o.n : Int)) rfl
  have p5 := hg.l.r.vc 5 (v := .complex .f64 o.z1 o.z2) rfl
  clear HP hg
  go_wp2_with fail
  with_reducible refine HPC.out.mono ?_
  rintro e w5 ⟨rfl, hg⟩
  have g6 := hg.moreSt (St.fresh #[.bool false, .complex .f64 o.z1 o.z2] 39)
  obtain ⟨pb, hpb⟩ : ∃ k, w5.heap.size = k := ⟨_, rfl⟩
  rw [hpb] at g6
  have HYC := Lib.hid (HY.out _ _ g6)
  clear HPC HY p0 p1 p2 p3 p4 p5 hg
  have p1 := g6.l.l.r.vc 1 (v := .int .i64 (o.a : Int)) rfl
  have v0 := g6.r.vc 0 (v := .bool false) rfl
  have v1 := g6.r.vc 1 (v := .complex .f64 o.z1 o.z2) rfl
  clear g6
  go_upto_region 8 with fail
  generalize w5.alloc _ = w6 at *
  go_wp2_with fail
  with_reducible refine HYC.out.mono ?_
  rintro e w7 ⟨rfl, hgx⟩
  have hg : Goes (Sep (Sep (Sep (Core A c q) (LThr b t ov lg n x.next (updL l o.a ⟨false, k, i⟩) X)) (Var vb #[.int .i64 12, .int .i64 (o.a : Int), .int .i64 (o.b : Int), .int .i64 (o.c : Int), .int .i64 (o.n : Int), .complex .f64 o.z1 o.z2] 26)) (Var rb #[.int .i64 0, .int .i64 0, .int .i64 0, .bool false, .complex .f64 0 0] 41)) S w w7 := hgx.l
  clear HYC hgx p1 v0 v1
  have q0_ := hg.r.vc 0 (v := .int .i64 0) rfl
  have p0_ := hg.r.vf 0
  have q1_ := hg.r.vc 1 (v := .int .i64 0) rfl
  have p1_ := hg.r.vf 1
  have q2_ := hg.r.vc 2 (v := .int .i64 0) rfl
  have p2_ := hg.r.vf 2
  have q3_ := hg.r.vc 3 (v := .bool false) rfl
  have p3_ := hg.r.vf 3
  have q4_ := hg.r.vc 4 (v := .complex .f64 0 0) rfl
  have p4_ := hg.r.vf 4
  have g8_ := hg.then fun S h => goesR (fun S h => (((((Goes.begin h).vput 0 (.int .i64 (x.nx)) rfl).vput 1 (.int .i64 (x.own)) rfl).vput 2 (.int .i64 (0)) rfl).vput 3 (.bool (false)) rfl).vput 4 (.complex .f64 o.z1 o.z2) rfl) S h
  have k0_ := g8_.r.vc 0 (v := .int .i64 (x.nx)) rfl
  have k1_ := g8_.r.vc 1 (v := .int .i64 (x.own)) rfl
  have k2_ := g8_.r.vc 2 (v := .int .i64 (0)) rfl
  have k3_ := g8_.r.vc 3 (v := .bool (false)) rfl
  have k4_ := g8_.r.vc 4 (v := .complex .f64 o.z1 o.z2) rfl
  have HF := Lib.hid g8_.l
  clear hg g8_
  go_wp2_with fail
  (try rw [via_ret])
  exact bodyPost_ret (v := .tuple #[.agg #[.int .i64 (x.nx), .int .i64 (x.own), .int .i64 (0), .bool (false), .complex .f64 o.z1 o.z2], .bool true]) (by simp [results, Tryz.results110, go_sem, k0_, k1_, k2_, k3_, k4_]) rfl ⟨rfl, HF.out.l⟩
set_option maxRecDepth 100000 in
theorem act_starts13 {o : Opn} (hc : c.ok) (hk : o.kd = 13) (hA : o.a < c.locals) (hn : n = c.locals) (hph : x.ph = 2) (hnx : x.nx ≤ 1000) (h : (Sep (Core A c q) (LThr b t ov lg n x l X)).at_ S w) :
    Calls Tryz.prog 110 #[.pointer (some ⟨b, 0, none⟩), .pointer (some ⟨A.b, 0, none⟩), .agg (opc o)] w fun e w' => e = .returned (Rs.v ⟨x.nx, x.own, 0, true, fl 0, fl 1, true⟩) ∧ Goes (Sep (Core A c q) (LThr b t ov lg n x.next (updL l o.a ⟨true, 0, 1⟩) X)) S w w' := by
  have hoc : opc o = #[.int .i64 13, .int .i64 (o.a : Int), .int .i64 (o.b : Int), .int .i64 (o.c : Int), .int .i64 (o.n : Int), .complex .f64 o.z1 o.z2] := by unfold opc; rw [hk]; rfl
  have g0 := ((Goes.begin h).moreSt (St.fresh #[.int .i64 13, .int .i64 (o.a : Int), .int .i64 (o.b : Int), .int .i64 (o.c : Int), .int .i64 (o.n : Int), .complex .f64 o.z1 o.z2] 26)).moreSt (St.fresh zeroRes 41)
  rw [World.size_alloc] at g0
  obtain ⟨vb, hvb⟩ : ∃ k, w.heap.size = k := ⟨_, rfl⟩
  obtain ⟨rb, hrb⟩ : ∃ k, vb + 1 = k := ⟨_, rfl⟩
  rw [hvb, hrb] at g0
  simp only [zeroRes] at g0
  have g1 := g0.drew_
  obtain ⟨c0, c1, c2, c3, c4, c5, c6, c7, c8⟩ := core9 g1.l.l.l
  have p0 := g1.l.r.vc 0 (v := .int .i64 13) rfl
  have p1 := g1.l.r.vc 1 (v := .int .i64 (o.a : Int)) rfl
  have p2 := g1.l.r.vc 2 (v := .int .i64 (o.b : Int)) rfl
  have p3 := g1.l.r.vc 3 (v := .int .i64 (o.c : Int)) rfl
  have p4 := g1.l.r.vc 4 (v := .int .i64 (o.n : Int)) rfl
  have p5 := g1.l.r.vc 5 (v := .complex .f64 o.z1 o.z2) rfl
  have HL := Lib.hid (g1.plain (op_check13 hc hA (A := o.a) (B := o.b) (C := o.c) (N := o.n) (z1 := o.z1) (z2 := o.z2) (core_confIs g1.l.l.l.is).choose_spec))
  have HO := Lib.hid fun w1 (gg : Goes (Sep (Sep (Sep (Core A c q) (LThr b t ov lg n x l X)) (Var vb #[.int .i64 13, .int .i64 (o.a : Int), .int .i64 (o.b : Int), .int .i64 (o.c : Int), .int .i64 (o.n : Int), .complex .f64 o.z1 o.z2] 26)) (Var rb #[.int .i64 0, .int .i64 0, .int .i64 0, .bool false, .complex .f64 0 0] 41)) S w w1) => gg.call (sepL (sepL (sepR fun S h => act_operands13 hk h)))
  have HP := Lib.hid fun w1 (gg : Goes (Sep (Sep (Sep (Core A c q) (LThr b t ov lg n x l X)) (Var vb #[.int .i64 13, .int .i64 (o.a : Int), .int .i64 (o.b : Int), .int .i64 (o.c : Int), .int .i64 (o.n : Int), .complex .f64 o.z1 o.z2] 26)) (Var rb #[.int .i64 0, .int .i64 0, .int .i64 0, .bool false, .complex .f64 0 0] 41)) S w w1) => gg.call (sepL (sepL (sepR fun S h => act_plain13 hk h)))
  have HY := Lib.hid fun w1 pb (gg : Goes (Sep (Sep (Sep (Sep (Core A c q) (LThr b t ov lg n x l X)) (Var vb #[.int .i64 13, .int .i64 (o.a : Int), .int .i64 (o.b : Int), .int .i64 (o.c : Int), .int .i64 (o.n : Int), .complex .f64 o.z1 o.z2] 26)) (Var rb #[.int .i64 0, .int .i64 0, .int .i64 0, .bool false, .complex .f64 0 0] 41)) (Var pb #[.bool true, .complex .f64 0 4607182418800017408] 39)) S w w1) => gg.call (sepL (sepL (sepL (sepR fun S h => act_lays (v := ⟨true, 0, 1⟩) (show o.a < n by omega) (by have := hc.locals; omega) hph hnx h))))
  simp only [cx01] at HY
  unfold vNone at *
  rw [fl0, fl1] at *
  rw [hoc] at HO HP
  rw [hoc]
  unfold cfV at HL
  unfold Rs.v at *
  clear h g0 g1 hoc hk hc
  go_enter Tryz.func110, Tryz.ntmps110
  go_upto_region 1 with fail
  generalize (w.alloc _).alloc _ = w1 at *
  go_still_tail 5, (by kernel_rfl)
  change wpList _ _ _ _ _ w1.drew
  generalize w1.drew = w2 at *
  go_wp2_with fail
  with_reducible refine HL.out.mono ?_
  rintro e w3 ⟨rfl, hg⟩
  have HC := Lib.hid (HO.out _ hg)
  clear HL HO c0 c1 c2 c3 c4 c5 c6 c7 c8 p0 p1 p2 p3 p4 p5
  have p0 := hg.l.r.vc 0 (v := .int .i64 13) rfl
  have p1 := hg.l.r.vc 1 (v := .int .i64 (o.a : Int)) rfl
  have p2 := hg.l.r.vc 2 (v := .int .i64 (o.b : Int)) rfl
  have p3 := hg.l.r.vc 3 (v := .int .i64 (o.c : Int)) rfl
  have p4 := hg.l.r.vc 4 (v := .int .i64 (o.n : Int)) rfl
  have p5 := hg.l.r.vc 5 (v := .complex .f64 o.z1 o.z2) rfl
  clear hg
  go_wp2_with fail
  with_reducible refine HC.out.mono ?_
  rintro e w4 ⟨rfl, hg⟩
  clear HC p0 p1 p2 p3 p4 p5
  have HPC := Lib.hid (HP.out _ hg)
  have p0 := hg.l.r.vc 0 (v := .int .i64 13) rfl
  have p1 := hg.l.r.vc 1 (v := .int .i64 (o.a : Int)) rfl
  have p2 := hg.l.r.vc 2 (v := .int .i64 (o.b : Int)) rfl
  have p3 := hg.l.r.vc 3 (v := .int .i64 (o.c : Int)) rfl
  have p4 := hg.l.r.vc 4 (v := .int .i64 (o.n : Int)) rfl
  have p5 := hg.l.r.vc 5 (v := .complex .f64 o.z1 o.z2) rfl
  clear HP hg
  go_wp2_with fail
  with_reducible refine HPC.out.mono ?_
  rintro e w5 ⟨rfl, hg⟩
  have g6 := hg.moreSt (St.fresh #[.bool true, .complex .f64 0 4607182418800017408] 39)
  obtain ⟨pb, hpb⟩ : ∃ k, w5.heap.size = k := ⟨_, rfl⟩
  rw [hpb] at g6
  have HYC := Lib.hid (HY.out _ _ g6)
  clear HPC HY p0 p1 p2 p3 p4 p5 hg
  have p1 := g6.l.l.r.vc 1 (v := .int .i64 (o.a : Int)) rfl
  have v0 := g6.r.vc 0 (v := .bool true) rfl
  have v1 := g6.r.vc 1 (v := .complex .f64 0 4607182418800017408) rfl
  clear g6
  go_upto_region 8 with fail
  generalize w5.alloc _ = w6 at *
  go_wp2_with fail
  with_reducible refine HYC.out.mono ?_
  rintro e w7 ⟨rfl, hgx⟩
  have hg : Goes (Sep (Sep (Sep (Core A c q) (LThr b t ov lg n x.next (updL l o.a ⟨true, 0, 1⟩) X)) (Var vb #[.int .i64 13, .int .i64 (o.a : Int), .int .i64 (o.b : Int), .int .i64 (o.c : Int), .int .i64 (o.n : Int), .complex .f64 o.z1 o.z2] 26)) (Var rb #[.int .i64 0, .int .i64 0, .int .i64 0, .bool false, .complex .f64 0 0] 41)) S w w7 := hgx.l
  clear HYC hgx p1 v0 v1
  have q0_ := hg.r.vc 0 (v := .int .i64 0) rfl
  have p0_ := hg.r.vf 0
  have q1_ := hg.r.vc 1 (v := .int .i64 0) rfl
  have p1_ := hg.r.vf 1
  have q2_ := hg.r.vc 2 (v := .int .i64 0) rfl
  have p2_ := hg.r.vf 2
  have q3_ := hg.r.vc 3 (v := .bool false) rfl
  have p3_ := hg.r.vf 3
  have q4_ := hg.r.vc 4 (v := .complex .f64 0 0) rfl
  have p4_ := hg.r.vf 4
  have g8_ := hg.then fun S h => goesR (fun S h => (((((Goes.begin h).vput 0 (.int .i64 (x.nx)) rfl).vput 1 (.int .i64 (x.own)) rfl).vput 2 (.int .i64 (0)) rfl).vput 3 (.bool (true)) rfl).vput 4 (.complex .f64 0 4607182418800017408) rfl) S h
  have k0_ := g8_.r.vc 0 (v := .int .i64 (x.nx)) rfl
  have k1_ := g8_.r.vc 1 (v := .int .i64 (x.own)) rfl
  have k2_ := g8_.r.vc 2 (v := .int .i64 (0)) rfl
  have k3_ := g8_.r.vc 3 (v := .bool (true)) rfl
  have k4_ := g8_.r.vc 4 (v := .complex .f64 0 4607182418800017408) rfl
  have HF := Lib.hid g8_.l
  clear hg g8_
  go_wp2_with fail
  (try rw [via_ret])
  exact bodyPost_ret (v := .tuple #[.agg #[.int .i64 (x.nx), .int .i64 (x.own), .int .i64 (0), .bool (true), .complex .f64 0 4607182418800017408], .bool true]) (by simp [results, Tryz.results110, go_sem, k0_, k1_, k2_, k3_, k4_]) rfl ⟨rfl, HF.out.l⟩
end
end Go.Proofs.YtnkgnhpapcnebaaGreat
