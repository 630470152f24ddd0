/- A thread: an operation's first step: Kind_. -/
import Derived.Test.YtnkgnhpapcnebaaGreatM32
import Derived.Test.YtnkgnhpapcnebaaGreatM42
import Derived.Test.YtnkgnhpapcnebaaGreatM40
import Derived.Test.YtnkgnhpapcnebaaGreatM41
import Derived.Test.YtnkgnhpapcnebaaGreatM19
import Derived.Test.YtnkgnhpapcnebaaGreatM20
set_option linter.unusedVariables false
set_option linter.unusedSimpArgs false
set_option maxHeartbeats 8000000
namespace Go.Proofs.YtnkgnhpapcnebaaGreat
open Go.RowKit
attribute [local go_sem] run_store_complex via_ret via_normal via_exit via_panic
section
variable {b t : Nat} {ov lv : Value} {x : Tc} {X : Thing} {S : Nat → Prop} {w w' : World} {A : CA} {c : Cf} {q : Q} {lg n : Nat} {l : Nat → Lc}
set_option maxRecDepth 100000 in
theorem act_starts11f {o : Opn} {j : Nat} (hc : c.ok) (hk : o.kd = 11) (hjo : o.b = j) (hj : j < n) (hs : (l j).k ≤ 17 ∧ (l j).i ≤ 17) (he : opE (l j) = 4) (hA : o.a < c.locals) (hB : j < c.locals) (hph : x.ph = 2) (hnx : x.nx ≤ 1000) (h : (Sep (Core A c q) (LThr b t ov lg n x l X)).at_ S w) :
    Calls Tryz.prog 110 #[.pointer (some ⟨b, 0, none⟩), .pointer (some ⟨A.b, 0, none⟩), .agg (opc o)] w fun e w' => e = .returned (Rs.v ⟨x.nx, x.own, 4, false, 0, 0, true⟩) ∧ Goes (Sep (Core A c q) (LThr b t ov lg n x.next l X)) S w w' := by
  have hoc : opc o = #[.int .i64 11, .int .i64 (o.a : Int), .int .i64 (j : Int), .int .i64 (o.c : Int), .int .i64 (o.n : Int), .complex .f64 o.z1 o.z2] := by unfold opc; rw [hk, hjo]; rfl
  have g0 := ((Goes.begin h).moreSt (St.fresh #[.int .i64 11, .int .i64 (o.a : Int), .int .i64 (j : Int), .int .i64 (o.c : Int), .int .i64 (o.n : Int), .complex .f64 o.z1 o.z2] 26)).moreSt (St.fresh zeroRes 41)
  rw [World.size_alloc] at g0
  obtain ⟨vb, hvb⟩ : ∃ k, w.heap.size = k := ⟨_, rfl⟩
  obtain ⟨rb, hrb⟩ : ∃ k, vb + 1 = k := ⟨_, rfl⟩
  rw [hvb, hrb] at g0
  simp only [zeroRes] at g0
  have g1 := g0.drew_
  obtain ⟨c0, c1, c2, c3, c4, c5, c6, c7, c8⟩ := core9 g1.l.l.l
  have p0 := g1.l.r.vc 0 (v := .int .i64 11) rfl
  have p1 := g1.l.r.vc 1 (v := .int .i64 (o.a : Int)) rfl
  have p2 := g1.l.r.vc 2 (v := .int .i64 (j : Int)) rfl
  have p3 := g1.l.r.vc 3 (v := .int .i64 (o.c : Int)) rfl
  have p4 := g1.l.r.vc 4 (v := .int .i64 (o.n : Int)) rfl
  have p5 := g1.l.r.vc 5 (v := .complex .f64 o.z1 o.z2) rfl
  have HL := Lib.hid (g1.plain (op_check11 hc hA hB (A := o.a) (B := j) (C := o.c) (N := o.n) (z1 := o.z1) (z2 := o.z2) (core_confIs g1.l.l.l.is).choose_spec))
  have HO := Lib.hid fun w1 (gg : Goes (Sep (Sep (Sep (Core A c q) (LThr b t ov lg n x l X)) (Var vb #[.int .i64 11, .int .i64 (o.a : Int), .int .i64 (j : Int), .int .i64 (o.c : Int), .int .i64 (o.n : Int), .complex .f64 o.z1 o.z2] 26)) (Var rb #[.int .i64 0, .int .i64 0, .int .i64 0, .bool false, .complex .f64 0 0] 41)) S w w1) => gg.call (sepL (sepL (sepR fun S h => act_operands11 hk hjo hj hs h)))
  have HF := Lib.hid fun w1 (gg : Goes (Sep (Sep (Sep (Core A c q) (LThr b t ov lg n x l X)) (Var vb #[.int .i64 11, .int .i64 (o.a : Int), .int .i64 (j : Int), .int .i64 (o.c : Int), .int .i64 (o.n : Int), .complex .f64 o.z1 o.z2] 26)) (Var rb #[.int .i64 0, .int .i64 0, .int .i64 0, .bool false, .complex .f64 0 0] 41)) S w w1) => gg.call (sepL (sepL (sepR fun S h => act_fails (er := 4) (by decide) hph hnx h)))
  unfold Rs.v at *
  rw [hoc] at HO
  rw [hoc]
  unfold cfV at HL
  rw [he] at HO
  clear h g0 g1 hoc hk hjo hc hs
  go_enter Tryz.func110, Tryz.ntmps110
  go_upto_region 1 with fail
  generalize (w.alloc _).alloc _ = w1 at *
  go_still_tail 5, (by kernel_rfl)
  change wpList _ _ _ _ _ w1.drew
  generalize w1.drew = w2 at *
  go_wp2_with fail
  with_reducible refine HL.out.mono ?_
  rintro e w3 ⟨rfl, hg⟩
  have HC := Lib.hid (HO.out _ hg)
  clear HL HO c0 c1 c2 c3 c4 c5 c6 c7 c8 p0 p1 p2 p3 p4 p5
  have p0 := hg.l.r.vc 0 (v := .int .i64 11) rfl
  have p1 := hg.l.r.vc 1 (v := .int .i64 (o.a : Int)) rfl
  have p2 := hg.l.r.vc 2 (v := .int .i64 (j : Int)) rfl
  have p3 := hg.l.r.vc 3 (v := .int .i64 (o.c : Int)) rfl
  have p4 := hg.l.r.vc 4 (v := .int .i64 (o.n : Int)) rfl
  have p5 := hg.l.r.vc 5 (v := .complex .f64 o.z1 o.z2) rfl
  clear hg
  go_wp2_with fail
  with_reducible refine HC.out.mono ?_
  rintro e w4 ⟨rfl, hg⟩
  clear HC p0 p1 p2 p3 p4 p5
  have HFC := Lib.hid (HF.out _ hg)
  clear HF hg
  go_wp2_with fail
  with_reducible refine HFC.out.mono ?_
  rintro e w5 ⟨rfl, hgx⟩
  have hg : Goes (Sep (Sep (Sep (Core A c q) (LThr b t ov lg n x.next l X)) (Var vb #[.int .i64 11, .int .i64 (o.a : Int), .int .i64 (j : Int), .int .i64 (o.c : Int), .int .i64 (o.n : Int), .complex .f64 o.z1 o.z2] 26)) (Var rb #[.int .i64 0, .int .i64 0, .int .i64 0, .bool false, .complex .f64 0 0] 41)) S w w5 := hgx
  clear HFC hgx
  have q0_ := hg.r.vc 0 (v := .int .i64 0) rfl
  have p0_ := hg.r.vf 0
  have q1_ := hg.r.vc 1 (v := .int .i64 0) rfl
  have p1_ := hg.r.vf 1
  have q2_ := hg.r.vc 2 (v := .int .i64 0) rfl
  have p2_ := hg.r.vf 2
  have q3_ := hg.r.vc 3 (v := .bool false) rfl
  have p3_ := hg.r.vf 3
  have q4_ := hg.r.vc 4 (v := .complex .f64 0 0) rfl
  have p4_ := hg.r.vf 4
  have g8_ := hg.then fun S h => goesR (fun S h => (((((Goes.begin h).vput 0 (.int .i64 (x.nx)) rfl).vput 1 (.int .i64 (x.own)) rfl).vput 2 (.int .i64 (4)) rfl).vput 3 (.bool (false)) rfl).vput 4 (.complex .f64 0 0) rfl) S h
  have k0_ := g8_.r.vc 0 (v := .int .i64 (x.nx)) rfl
  have k1_ := g8_.r.vc 1 (v := .int .i64 (x.own)) rfl
  have k2_ := g8_.r.vc 2 (v := .int .i64 (4)) rfl
  have k3_ := g8_.r.vc 3 (v := .bool (false)) rfl
  have k4_ := g8_.r.vc 4 (v := .complex .f64 0 0) rfl
  have HF := Lib.hid g8_.l
  clear hg g8_
  go_wp2_with fail
  (try rw [via_ret])
  exact bodyPost_ret (v := .tuple #[.agg #[.int .i64 (x.nx), .int .i64 (x.own), .int .i64 (4), .bool (false), .complex .f64 0 0], .bool true]) (by simp [results, Tryz.results110, go_sem, k0_, k1_, k2_, k3_, k4_]) rfl ⟨rfl, HF.out.l⟩
set_option maxRecDepth 100000 in
theorem act_starts11 {o : Opn} {j : Nat} {ll : List Bool} (hc : c.ok) (hsh : c.shapes[0]? = some (false, ll)) (hwr : 1 < q.m.wr) (hk : o.kd = 11) (hjo : o.b = j) (hj : j < n) (hs : (l j).k ≤ 17 ∧ (l j).i ≤ 17) (hix : ixI (l j).k (l j).i = c.F) (he : opE (l j) = 0) (hA : o.a < c.locals) (hB : j < c.locals) (hn : n = c.locals) (hph : x.ph = 2) (hnx : x.nx ≤ 1000) (h : (Sep (Core A c q) (LThr b t ov lg n x l X)).at_ S w) :
    Calls Tryz.prog 110 #[.pointer (some ⟨b, 0, none⟩), .pointer (some ⟨A.b, 0, none⟩), .agg (opc o)] w fun e w' => e = .returned (Rs.v ⟨x.nx, x.own, 0, false, fl 0, fl 0, true⟩) ∧ Goes (Sep (Core A c q) (LThr b t ov lg n x.next (updL l o.a ⟨false, 0, 0⟩) X)) S w w' := by
  have hoc : opc o = #[.int .i64 11, .int .i64 (o.a : Int), .int .i64 (j : Int), .int .i64 (o.c : Int), .int .i64 (o.n : Int), .complex .f64 o.z1 o.z2] := by unfold opc; rw [hk, hjo]; rfl
  have g0 := ((Goes.begin h).moreSt (St.fresh #[.int .i64 11, .int .i64 (o.a : Int), .int .i64 (j : Int), .int .i64 (o.c : Int), .int .i64 (o.n : Int), .complex .f64 o.z1 o.z2] 26)).moreSt (St.fresh zeroRes 41)
  rw [World.size_alloc] at g0
  obtain ⟨vb, hvb⟩ : ∃ k, w.heap.size = k := ⟨_, rfl⟩
  obtain ⟨rb, hrb⟩ : ∃ k, vb + 1 = k := ⟨_, rfl⟩
  rw [hvb, hrb] at g0
  simp only [zeroRes] at g0
  have g1 := g0.drew_
  obtain ⟨c0, c1, c2, c3, c4, c5, c6, c7, c8⟩ := core9 g1.l.l.l
  have p0 := g1.l.r.vc 0 (v := .int .i64 11) rfl
  have p1 := g1.l.r.vc 1 (v := .int .i64 (o.a : Int)) rfl
  have p2 := g1.l.r.vc 2 (v := .int .i64 (j : Int)) rfl
  have p3 := g1.l.r.vc 3 (v := .int .i64 (o.c : Int)) rfl
  have p4 := g1.l.r.vc 4 (v := .int .i64 (o.n : Int)) rfl
  have p5 := g1.l.r.vc 5 (v := .complex .f64 o.z1 o.z2) rfl
  have HL := Lib.hid (g1.plain (op_check11 hc hA hB (A := o.a) (B := j) (C := o.c) (N := o.n) (z1 := o.z1) (z2 := o.z2) (core_confIs g1.l.l.l.is).choose_spec))
  have HO := Lib.hid fun w1 (gg : Goes (Sep (Sep (Sep (Core A c q) (LThr b t ov lg n x l X)) (Var vb #[.int .i64 11, .int .i64 (o.a : Int), .int .i64 (j : Int), .int .i64 (o.c : Int), .int .i64 (o.n : Int), .complex .f64 o.z1 o.z2] 26)) (Var rb #[.int .i64 0, .int .i64 0, .int .i64 0, .bool false, .complex .f64 0 0] 41)) S w w1) => gg.call (sepL (sepL (sepR fun S h => act_operands11 hk hjo hj hs h)))
  have HP := Lib.hid fun w1 (gg : Goes (Sep (Sep (Sep (Core A c q) (LThr b t ov lg n x l X)) (Var vb #[.int .i64 11, .int .i64 (o.a : Int), .int .i64 (j : Int), .int .i64 (o.c : Int), .int .i64 (o.n : Int), .complex .f64 o.z1 o.z2] 26)) (Var rb #[.int .i64 0, .int .i64 0, .int .i64 0, .bool false, .complex .f64 0 0] 41)) S w w1) => gg.call (sepL (sepL (sepR fun S h => act_plain11 hk h)))
  have HR := Lib.hid fun w1 pb (gg : Goes (Sep (Sep (Sep (Sep (Core A c q) (LThr b t ov lg n x l X)) (Var vb #[.int .i64 11, .int .i64 (o.a : Int), .int .i64 (j : Int), .int .i64 (o.c : Int), .int .i64 (o.n : Int), .complex .f64 o.z1 o.z2] 26)) (Var rb #[.int .i64 0, .int .i64 0, .int .i64 0, .bool false, .complex .f64 0 0] 41)) (Var pb #[.bool false, .complex .f64 0 0] 39)) S w w1) => gg.call (sepL (sepL (sepL fun S h => act_tells hc hsh hwr hk hjo hj hs hix (show o.a < n by omega) (by have := hc.locals; omega) hph hnx h)))
  rw [hoc] at HR
  unfold Rs.v at *
  rw [fl0] at *
  rw [hoc] at HO HP
  rw [hoc]
  unfold cfV at HL
  rw [he] at HO
  clear h g0 g1 hoc hk hjo hc hsh hs hix he hwr
  go_enter Tryz.func110, Tryz.ntmps110
  go_upto_region 1 with fail
  generalize (w.alloc _).alloc _ = w1 at *
  go_still_tail 5, (by kernel_rfl)
  change wpList _ _ _ _ _ w1.drew
  generalize w1.drew = w2 at *
  go_wp2_with fail
  with_reducible refine HL.out.mono ?_
  rintro e w3 ⟨rfl, hg⟩
  have HC := Lib.hid (HO.out _ hg)
  clear HL HO c0 c1 c2 c3 c4 c5 c6 c7 c8 p0 p1 p2 p3 p4 p5
  have p0 := hg.l.r.vc 0 (v := .int .i64 11) rfl
  have p1 := hg.l.r.vc 1 (v := .int .i64 (o.a : Int)) rfl
  have p2 := hg.l.r.vc 2 (v := .int .i64 (j : Int)) rfl
  have p3 := hg.l.r.vc 3 (v := .int .i64 (o.c : Int)) rfl
  have p4 := hg.l.r.vc 4 (v := .int .i64 (o.n : Int)) rfl
  have p5 := hg.l.r.vc 5 (v := .complex .f64 o.z1 o.z2) rfl
  clear hg
  go_wp2_with fail
  with_reducible refine HC.out.mono ?_
  rintro e w4 ⟨rfl, hg⟩
  clear HC p0 p1 p2 p3 p4 p5
  have HPC := Lib.hid (HP.out _ hg)
  have p0 := hg.l.r.vc 0 (v := .int .i64 11) rfl
  have p1 := hg.l.r.vc 1 (v := .int .i64 (o.a : Int)) rfl
  have p2 := hg.l.r.vc 2 (v := .int .i64 (j : Int)) rfl
  have p3 := hg.l.r.vc 3 (v := .int .i64 (o.c : Int)) rfl
  have p4 := hg.l.r.vc 4 (v := .int .i64 (o.n : Int)) rfl
  have p5 := hg.l.r.vc 5 (v := .complex .f64 o.z1 o.z2) rfl
  clear HP hg
  go_wp2_with fail
  with_reducible refine HPC.out.mono ?_
  rintro e w5 ⟨rfl, hg⟩
  have g6 := hg.moreSt (St.fresh #[.bool false, .complex .f64 0 0] 39)
  obtain ⟨pb, hpb⟩ : ∃ k, w5.heap.size = k := ⟨_, rfl⟩
  rw [hpb] at g6
  clear HPC p0 p1 p2 p3 p4 p5 hg
  have v0 := g6.r.vc 0 (v := .bool false) rfl
  have v1 := g6.r.vc 1 (v := .complex .f64 0 0) rfl
  have p0 := g6.l.l.r.vc 0 (v := .int .i64 11) rfl
  have p1 := g6.l.l.r.vc 1 (v := .int .i64 (o.a : Int)) rfl
  have p2 := g6.l.l.r.vc 2 (v := .int .i64 (j : Int)) rfl
  have p3 := g6.l.l.r.vc 3 (v := .int .i64 (o.c : Int)) rfl
  have p4 := g6.l.l.r.vc 4 (v := .int .i64 (o.n : Int)) rfl
  have p5 := g6.l.l.r.vc 5 (v := .complex .f64 o.z1 o.z2) rfl
  have HRC := Lib.hid (HR.out _ _ g6)
  clear HR g6
  go_upto_region 9 with fail
  generalize w5.alloc _ = w6 at *
  go_wp2_with fail
  with_reducible refine HRC.out.mono ?_
  rintro e w7 ⟨rfl, hgx⟩
  have hg := hgx.l
  clear HRC hgx p0 p1 p2 p3 p4 p5 v0 v1
  have q0_ := hg.r.vc 0 (v := .int .i64 0) rfl
  have p0_ := hg.r.vf 0
  have q1_ := hg.r.vc 1 (v := .int .i64 0) rfl
  have p1_ := hg.r.vf 1
  have q2_ := hg.r.vc 2 (v := .int .i64 0) rfl
  have p2_ := hg.r.vf 2
  have q3_ := hg.r.vc 3 (v := .bool false) rfl
  have p3_ := hg.r.vf 3
  have q4_ := hg.r.vc 4 (v := .complex .f64 0 0) rfl
  have p4_ := hg.r.vf 4
  have g8_ := hg.then fun S h => goesR (fun S h => (((((Goes.begin h).vput 0 (.int .i64 (x.nx)) rfl).vput 1 (.int .i64 (x.own)) rfl).vput 2 (.int .i64 (0)) rfl).vput 3 (.bool (false)) rfl).vput 4 (.complex .f64 0 0) rfl) S h
  have k0_ := g8_.r.vc 0 (v := .int .i64 (x.nx)) rfl
  have k1_ := g8_.r.vc 1 (v := .int .i64 (x.own)) rfl
  have k2_ := g8_.r.vc 2 (v := .int .i64 (0)) rfl
  have k3_ := g8_.r.vc 3 (v := .bool (false)) rfl
  have k4_ := g8_.r.vc 4 (v := .complex .f64 0 0) rfl
  have HF := Lib.hid g8_.l
  clear hg g8_
  go_wp2_with fail
  (try rw [via_ret])
  exact bodyPost_ret (v := .tuple #[.agg #[.int .i64 (x.nx), .int .i64 (x.own), .int .i64 (0), .bool (false), .complex .f64 0 0], .bool true]) (by simp [results, Tryz.results110, go_sem, k0_, k1_, k2_, k3_, k4_]) rfl ⟨rfl, HF.out.l⟩
end
end Go.Proofs.YtnkgnhpapcnebaaGreat
/- A step of the thread that makes the object. -/
namespace Go.Proofs.YtnkgnhpapcnebaaGreat
open Go.RowKit
/-- Its script: an object, and one thing more. -/
def o0 (k i : Nat) : Opn := if i = 0 then ⟨1, 0, 0, 0, 0, 0, 0⟩ else ⟨k, 0, 0, 0, 0, 0, 0⟩
set_option maxRecDepth 100000 in
theorem o0_0 {k i : Nat} (h : i = 0) : o0 k i = ⟨1, 0, 0, 0, 0, 0, 0⟩ := by unfold o0; rw [if_pos h]
set_option maxRecDepth 100000 in
theorem o0_1 {k i : Nat} (h : i = 1) : o0 k i = ⟨k, 0, 0, 0, 0, 0, 0⟩ := by unfold o0; rw [if_neg (by omega)]
/-- What the configuration has to be. -/
structure CfZ (c : Cf) (k : Nat) : Prop where
  ok : c.ok
  sh : c.shapes[0]? = some (false, c.l0)
  F : c.F ≤ 16
  b4 : plB c.l0 4 = 0
  kk : (k = 8 ∧ 0 < c.globals) ∨ k = 11
inductive At0 (c : Cf) (k : Nat) (q : Q) (p : P) : Prop
  | out (h : p.x.ph = 0) (h1 : p.x.nx = 0) (h2 : p.E = Emp)
  | look (h : p.x.ph = 1) (h1 : p.x.pc = 0) (h2 : p.E = Emp)
  | grey (h : p.x.ph = 1) (h1 : p.x.pc = 1) (h2 : p.E = Got p.x.grey c.F) (h3 : 0 ≤ p.x.seen) (h4 : p.x.seen ≤ 4)
  | give (h : p.x.ph = 1) (h1 : p.x.pc = 2) (h2 : p.E = Emp) (h3 : 0 ≤ p.x.seen) (h4 : p.x.seen ≤ 4)
  | drain (h : p.x.ph = 1) (h1 : p.x.pc = 3) (h2 : p.E = Emp) (h3 : p.x.nx = 2)
  | leave (h : p.x.ph = 1) (h1 : p.x.pc = 4) (h2 : p.E = Emp) (h3 : p.x.nx = 2)
  | start (h : p.x.ph = 2) (h1 : p.x.nx < 2) (h2 : p.E = Emp) (h3 : p.x.at_ = 0)
  | make (r : Nat) (h : p.x.ph = 2) (h1 : p.x.nx = 0) (h2 : p.E = Sep (Seq 2 p.x.wr (r + 1) (wd c.F (yl c.l0) (7 - r) (r + 1))) (Got p.x.got c.F)) (h3 : p.x.at_ = 7) (h4 : r ≤ 7) (h5 : q.m.wr = 7 - r)
  | born (h : p.x.ph = 2) (h1 : p.x.nx = 0) (h2 : p.E = Got p.x.got c.F) (h3 : p.x.at_ = 8) (h4 : q.m.wr = 8)
  | shade (h : p.x.ph = 2) (h1 : p.x.nx = 1) (h2 : p.E = Emp) (h3 : p.x.at_ = 5) (h4 : p.x.addr = ((c.glob 0 : Nat) : Int)) (h5 : p.x.w1 = fl (c.F + 1)) (h6 : p.x.w2 = fl 1) (h7 : k = 8) (h8 : holds p.l = true)
  | write (h : p.x.ph = 2) (h1 : p.x.nx = 1) (h2 : p.E = Emp) (h3 : p.x.at_ = 6) (h4 : p.x.addr = ((c.glob 0 : Nat) : Int)) (h5 : p.x.w1 = fl (c.F + 1)) (h6 : p.x.w2 = fl 1) (h7 : k = 8) (h8 : holds p.l = true)
  | gone (h : p.x.ph = 4) (h2 : p.E = Emp)
structure J0 (c : Cf) (k : Nat) (q : Q) (p : P) : Prop where
  nx : p.x.nx ≤ 2
  loc : LocOk c.F c.locals p.l
  lref : (p.l 0).ref = true → (p.l 0).k = c.F + 1
  hw : holds p.l = true → q.m.wr = 8
  pb : p.x.nx < 2 → q.m.pb = false
  zero : p.x.nx = 0 → p.x.ph ≠ 2 ∨ p.x.at_ = 0 → q.ask = false ∧ q.m.wr = 0
  bz : p.x.nx = 0 → q.bn = false
  end4 : p.x.ph = 4 → p.x.nx = 2
  out : p.x.ph = 0 → q.h.own 0 = -1
  here : p.x.ph = 1 ∨ p.x.ph = 2 → q.h.own 0 ≠ -1
  at0 : At0 c k q p
/-- How many steps are left, where nothing is asked of it. -/
def rank (wr : Nat) (x : Tc) : Nat :=
  if x.ph = 0 then 17 else if x.ph = 4 then 0 else if x.ph = 1 then (if x.pc = 0 then (if x.nx = 0 then 16 else if x.nx = 1 then 5 else 3) else if x.pc = 3 then 2 else 1)
  else if x.nx = 0 then (if x.at_ = 0 then 15 else if x.at_ = 7 then 14 - wr else 6) else 4
def Quiet (q : Q) (x : Tc) : Prop := (x.ph = 1 ∨ x.ph = 2 → x.st = q.h.st) ∧ (x.ph = 1 → x.pc = 0 ∨ x.pc = 3 ∨ x.pc = 4)
structure Rel0 (c : Cf) (k : Nat) (q : Q) (p : P) (rs : Rs) (q' : Q) (p' : P) : Prop where
  j : J0 c k q' p'
  own : ∀ i, i ≠ 0 → q'.h.own i = q.h.own i
  st : q'.h.st = q.h.st
  lk : q'.m.lk = q.m.lk ∧ q'.m.li = q.m.li
  pb : q.m.pb = true → q'.m.pb = true
  bn : q.bn = true → q'.bn = true
  g : Gi c q'
  d : (rs.d = false ∧ p'.x.nx = p.x.nx) ∨ (rs.d = true ∧ p'.x.nx = p.x.nx + 1)
  rk : k = 11 → Quiet q p.x → rank q'.m.wr p'.x = rank q.m.wr p.x - 1 ∧ Quiet q' p'.x
section
variable {S : Nat → Prop} {w w' : World} {A : CA} {c : Cf} {q q' : Q} {a : TA} {p p' : P} {rs : Rs} {e : Ending} {k : Nat}
set_option maxRecDepth 100000 in
/-- What lies behind the thread. -/
theorem st0_wc {ox : Opn} {x : Tc} {l : Nat → Lc} {E : Thing} {at_ : Int} (hnx : x.nx < 2) (hat : x.at_ = at_) (hox : o0 k x.nx = ox) : ∀ S w, (Sep (Core A c q) (Th a 0 c.locals 2 (o0 k) ⟨{ x with own := wrap64 (x.own + 1) }, l, E⟩)).at_ S w → WCells a.b a.og a.oo 2 a.oc x.nx at_ ox w := fun S w h => by
  have := th_wcells (p := ⟨{ x with own := wrap64 (x.own + 1) }, l, E⟩) hnx hox h
  simp only [hat] at this
  exact this
set_option maxRecDepth 100000 in
theorem st0_new (cf : CfZ c k) (g : Gi c q) (j : J0 c k q p) (hph : p.x.ph = 2) (hnx : p.x.nx = 0) (hE : p.E = Emp) (hat : p.x.at_ = 0) : StepDoes A c q a 0 c.locals 2 (o0 k) p (Rel0 c k q p) := by
  obtain ⟨x, l, E⟩ := p
  simp only at hph hnx hE hat
  subst hE
  obtain ⟨hask, hwr⟩ := j.zero hnx (.inr hat)
  have hth := cf.ok.threads
  have hlc := cf.ok.locals
  refine st_within hph ?_
  refine act_within0 (α := Rs × Q × P) (rs := fun y => y.1) (st0_wc (x := x) (by omega) hat (o0_0 hnx)) (by omega) fun w S h => ?_
  refine (act_starts1 (x := { x with own := wrap64 (x.own + 1) }) (o := ⟨1, 0, 0, 0, 0, 0, 0⟩) cf.ok cf.sh rfl rfl (by show 0 < c.locals; omega) (by omega) hask (th_emp' h)).mono ?_
  rintro e w' ⟨v, u, he, hg⟩
  refine st_pack (q' := { q with ask := true }) (p' := ⟨{ x with own := wrap64 (x.own + 1), wr := u, got := v, ph := 2, at_ := 7 }, l, Sep (Seq 2 u 8 (wd c.F (yl c.l0) 0 8)) (Got v c.F)⟩) (hg.conv fun S w h => th_in (sepAt.assoc (sepAt.rot (by rw [← wd_all]; exact h)))) he ?_
  refine ⟨⟨j.nx, j.loc, j.lref, j.hw, j.pb, fun _ h => ?_, j.bz, fun h => absurd h (by show ¬ (2 : Int) = 4; decide), fun h => absurd h (by show ¬ (2 : Int) = 0; decide), fun _ => j.here (.inr hph), .make 7 rfl hnx rfl rfl (by omega) hwr⟩, fun _ _ => rfl, rfl, ⟨rfl, rfl⟩, fun h => h, fun h => h, ⟨g.st0, g.st4, g.lk, g.li, g.pb, g.bn, g.no⟩, .inl ⟨rfl, rfl⟩, fun _ hq => ⟨?_, fun _ => hq.1 (.inr hph), fun h => absurd h (by show ¬ (2 : Int) = 1; decide)⟩⟩
  · rcases h with h | h
    · exact absurd rfl h
    · exact absurd h (by show ¬ (7 : Int) = 0; decide)
  · simp [rank, hph, hnx, hat, hwr]
set_option maxRecDepth 100000 in
theorem st0_make {r : Nat} (cf : CfZ c k) (g : Gi c q) (j : J0 c k q p) (hph : p.x.ph = 2) (hnx : p.x.nx = 0) (hE : p.E = Sep (Seq 2 p.x.wr (r + 1) (wd c.F (yl c.l0) (7 - r) (r + 1))) (Got p.x.got c.F)) (hat : p.x.at_ = 7) (hr : r ≤ 7) (hwr : q.m.wr = 7 - r) : StepDoes A c q a 0 c.locals 2 (o0 k) p (Rel0 c k q p) := by
  obtain ⟨x, l, E⟩ := p
  simp only at hph hnx hE hat
  subst hE
  have hpb := j.pb (show x.nx < 2 by omega)
  have hbz := j.bz hnx
  have hF := cf.ok.frags
  have hfw : c.F * 8 + (7 - r) < c.words := by unfold Cf.words Cf.F; omega
  have hm : ∀ f, MemOk c q.m f → MemOk c { q.m with wr := 7 - r + 1 } (setV f (c.F * 8 + (7 - r)) (.complex .f64 (fl 0) (yl c.l0 (7 - r)))) := fun f hf => memok_plan cf.ok hwr (by omega) cf.b4 (g.no hpb) hf
  refine st_within hph ?_
  refine act_within7 (α := Rs × Q × P) (rs := fun y => y.1) (st0_wc (x := x) (by omega) hat (o0_0 hnx)) (by omega) fun w S h => ?_
  have h2 := sepAt.assoc' (th_out h)
  have gi : Gi c { q with m := { q.m with wr := 7 - r + 1 } } := ⟨g.st0, g.st4, g.lk, g.li, fun h => absurd h (by show ¬ q.m.pb = true; rw [hpb]; decide), fun h => absurd h (by show ¬ q.bn = true; rw [hbz]; decide), g.no⟩
  have hno : holds l = true → False := fun hh => by have := j.hw hh; omega
  match r, hr, hwr, hm, h2, gi with
  | 0, hr, hwr, hm, h2, gi =>
    refine (sepLx (B := Got x.got c.F) (fun S h => act_makes_last (A := A) (q := q) (b := a.b) (t := 0) (ov := a.ov 2) (lv := .slice (some ⟨a.lg, 0, none⟩) c.locals c.locals) (X := Sep (Vals a.lg (c.locals * 2) 39 (locM l)) (Ops (a.ov 2) 2 (o0 k))) (x := { x with own := wrap64 (x.own + 1) }) (v := x.wr) cf.ok rfl hfw hm h) S h2).mono ?_
    rintro e w' ⟨v', he, hg⟩
    refine st_pack (q' := { q with m := { q.m with wr := 7 - 0 + 1 } }) (p' := ⟨{ x with own := wrap64 (x.own + 1), wr := v', at_ := 8 }, l, Got x.got c.F⟩) (hg.conv fun S w h => th_in h) he ?_
    refine ⟨⟨j.nx, j.loc, j.lref, fun h => (hno h).elim, j.pb, fun _ h => ?_, j.bz, fun h => absurd (show x.ph = 4 from h) (by omega), fun h => absurd (show x.ph = 0 from h) (by omega), fun _ => j.here (.inr hph), .born hph hnx rfl rfl rfl⟩, fun _ _ => rfl, rfl, ⟨rfl, rfl⟩, fun h => h, fun h => h, gi, .inl ⟨rfl, rfl⟩, fun _ hq => ⟨?_, fun _ => hq.1 (.inr hph), fun h => absurd (show x.ph = 1 from h) (by omega)⟩⟩
    · rcases h with h | h
      · exact absurd hph h
      · exact absurd h (by show ¬ (8 : Int) = 0; decide)
    · simp [rank, hph, hnx, hat, hwr]
  | r + 1, hr, hwr, hm, h2, gi =>
    have e1 : wd c.F (yl c.l0) (7 - (r + 1)) (r + 1 + 1) = .int .i64 ((c.F * 8 + (7 - (r + 1)) : Nat) : Int) :: .complex .f64 (fl 0) (yl c.l0 (7 - (r + 1))) :: wd c.F (yl c.l0) (7 - r) (r + 1) := by
      rw [wd, show 7 - (r + 1) + 1 = 7 - r by omega]
    rw [e1] at h2
    refine (sepLx (B := Got x.got c.F) (fun S h => act_makes_on (A := A) (q := q) (b := a.b) (t := 0) (ov := a.ov 2) (lv := .slice (some ⟨a.lg, 0, none⟩) c.locals c.locals) (X := Sep (Vals a.lg (c.locals * 2) 39 (locM l)) (Ops (a.ov 2) 2 (o0 k))) (x := { x with own := wrap64 (x.own + 1) }) (v := x.wr) (r := r) (N := r + 1 + 1) (rest := wd c.F (yl c.l0) (7 - r) (r + 1)) (by omega) rfl cf.ok rfl hfw hm h) S h2).mono ?_
    rintro e w' ⟨v', he, hg⟩
    refine st_pack (q' := { q with m := { q.m with wr := 7 - (r + 1) + 1 } }) (p' := ⟨{ x with own := wrap64 (x.own + 1), wr := v' }, l, Sep (Seq 2 v' (r + 1) (wd c.F (yl c.l0) (7 - r) (r + 1))) (Got x.got c.F)⟩) (hg.conv fun S w h => th_in (sepAt.assoc h)) he ?_
    refine ⟨⟨j.nx, j.loc, j.lref, fun h => (hno h).elim, j.pb, fun _ h => ?_, j.bz, fun h => absurd (show x.ph = 4 from h) (by omega), fun h => absurd (show x.ph = 0 from h) (by omega), fun _ => j.here (.inr hph), .make r hph hnx rfl hat (by omega) (by show 7 - (r + 1) + 1 = 7 - r; omega)⟩, fun _ _ => rfl, rfl, ⟨rfl, rfl⟩, fun h => h, fun h => h, gi, .inl ⟨rfl, rfl⟩, fun _ hq => ⟨?_, fun _ => hq.1 (.inr hph), fun h => absurd (show x.ph = 1 from h) (by omega)⟩⟩
    · rcases h with h | h
      · exact absurd hph h
      · exact absurd (show x.at_ = 0 from h) (by omega)
    · simp [rank, hph, hnx, hat, hwr]; omega
set_option maxRecDepth 100000 in
theorem st0_born (cf : CfZ c k) (g : Gi c q) (j : J0 c k q p) (hph : p.x.ph = 2) (hnx : p.x.nx = 0) (hE : p.E = Got p.x.got c.F) (hat : p.x.at_ = 8) (hwr : q.m.wr = 8) : StepDoes A c q a 0 c.locals 2 (o0 k) p (Rel0 c k q p) := by
  obtain ⟨x, l, E⟩ := p
  simp only at hph hnx hE hat
  subst hE
  have hpb := j.pb (show x.nx < 2 by omega)
  have hlc := cf.ok.locals
  have hF := cf.F
  refine st_within hph ?_
  refine act_within8 (α := Rs × Q × P) (rs := fun y => y.1) (st0_wc (x := x) (by omega) hat (o0_0 hnx)) (by omega) fun w S h => ?_
  refine (act_bears (x := { x with own := wrap64 (x.own + 1) }) (o := ⟨1, 0, 0, 0, 0, 0, 0⟩) (v := x.got) hF rfl (by show 0 < c.locals; omega) hlc.2 hph (show x.nx ≤ 1000 by omega) (th_out h)).mono ?_
  rintro e w' ⟨r, he, hg⟩
  have gi : Gi c { q with bn := q.bn || r } := ⟨g.st0, g.st4, g.lk, g.li, g.pb, fun _ => hwr, g.no⟩
  refine st_pack (q' := { q with bn := q.bn || r }) (p' := ⟨Tc.next { x with own := wrap64 (x.own + 1) }, if r then updL l 0 ⟨true, c.F + 1, 1⟩ else l, Emp⟩) (hg.conv fun S w h => th_emp h) he ?_
  refine ⟨⟨?_, ?_, ?_, fun _ => hwr, fun _ => hpb, fun h => absurd (show x.nx + 1 = 0 from h) (by omega), fun h => absurd (show x.nx + 1 = 0 from h) (by omega), fun h => absurd h (by show ¬ (1 : Int) = 4; decide), fun h => absurd h (by show ¬ (1 : Int) = 0; decide), fun _ => j.here (.inr hph), .look rfl rfl rfl⟩, fun _ _ => rfl, rfl, ⟨rfl, rfl⟩, fun h => h, fun h => by show (q.bn || r) = true; rw [h]; rfl, gi, .inr ⟨rfl, rfl⟩, fun _ hq => ⟨?_, fun _ => hq.1 (.inr hph), fun _ => .inl rfl⟩⟩
  · show x.nx + 1 ≤ 2; omega
  · show LocOk c.F c.locals (if r then updL l 0 ⟨true, c.F + 1, 1⟩ else l)
    cases r with
    | false => exact j.loc
    | true => exact locOk_upd0 j.loc hF (.inr rfl)
  · show ((if r then updL l 0 ⟨true, c.F + 1, 1⟩ else l) 0).ref = true → ((if r then updL l 0 ⟨true, c.F + 1, 1⟩ else l) 0).k = c.F + 1
    cases r with
    | false => exact j.lref
    | true => exact fun _ => rfl
  · simp [rank, Tc.next, hph, hnx, hat]
end
end Go.Proofs.YtnkgnhpapcnebaaGreat
