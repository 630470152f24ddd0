/- A thread: an operation's first step: Store. -/
import Derived.Test.YtnkgnhpapcnebaaGreatM33
import Derived.Test.YtnkgnhpapcnebaaGreatM23
set_option linter.unusedVariables false
set_option linter.unusedSimpArgs false
set_option maxHeartbeats 8000000
namespace Go.Proofs.YtnkgnhpapcnebaaGreat
open Go.RowKit
attribute [local go_sem] run_store_complex via_ret via_normal via_exit via_panic
section
variable {b t : Nat} {ov lv : Value} {x : Tc} {X : Thing} {S : Nat → Prop} {w w' : World} {A : CA} {c : Cf} {q : Q} {lg n : Nat} {l : Nat → Lc}
set_option maxRecDepth 100000 in
theorem act_starts4 {o : Opn} {j : Nat} {ll : List Bool} (hc : c.ok) (hsh : c.shapes[0]? = some (false, ll)) (hl : c.l0 = ll) (hr : ll[o.n]? = some false) (hwr : 1 < q.m.wr) (hk : o.kd = 4) (hjo : o.a = j) (hj : j < n) (hs : (l j).k ≤ 17 ∧ (l j).i ≤ 17) (hix : ixI (l j).k (l j).i = (c.F : Int)) (he : opE (l j) = 0) (hA : j < c.locals) (hB : o.b < c.locals) (hj2 : o.b < n) (hlr : (l o.b).ref = false) (h : (Sep (Core A c q) (LThr b t ov lg n x l X)).at_ S w) :
    Calls Tryz.prog 110 #[.pointer (some ⟨b, 0, none⟩), .pointer (some ⟨A.b, 0, none⟩), .agg (opc o)] w fun e w' => ∃ fv, e = .returned (Rs.v ⟨0, 0, 0, false, 0, 0, false⟩) ∧ Goes (Sep (Core A c q) (LThr b t ov lg n { x with f := fv, at_ := 6, addr := ((c.F * 8 + (2 + o.n) : Nat) : Int), ref := false, w1 := fl (l o.b).k, w2 := fl (l o.b).i } l X)) S w w' := by
  have hoc : opc o = #[.int .i64 4, .int .i64 (j : Int), .int .i64 (o.b : Int), .int .i64 (o.c : Int), .int .i64 (o.n : Int), .complex .f64 o.z1 o.z2] := by unfold opc; rw [hk, hjo]; rfl
  have g0 := ((Goes.begin h).moreSt (St.fresh #[.int .i64 4, .int .i64 (j : Int), .int .i64 (o.b : Int), .int .i64 (o.c : Int), .int .i64 (o.n : Int), .complex .f64 o.z1 o.z2] 26)).moreSt (St.fresh zeroRes 41)
  rw [World.size_alloc] at g0
  obtain ⟨vb, hvb⟩ : ∃ k, w.heap.size = k := ⟨_, rfl⟩
  obtain ⟨rb, hrb⟩ : ∃ k, vb + 1 = k := ⟨_, rfl⟩
  rw [hvb, hrb] at g0
  simp only [zeroRes] at g0
  have g1 := g0.drew_
  obtain ⟨c0, c1, c2, c3, c4, c5, c6, c7, c8⟩ := core9 g1.l.l.l
  have p0 := g1.l.r.vc 0 (v := .int .i64 4) rfl
  have p1 := g1.l.r.vc 1 (v := .int .i64 (j : Int)) rfl
  have p2 := g1.l.r.vc 2 (v := .int .i64 (o.b : Int)) rfl
  have p3 := g1.l.r.vc 3 (v := .int .i64 (o.c : Int)) rfl
  have p4 := g1.l.r.vc 4 (v := .int .i64 (o.n : Int)) rfl
  have p5 := g1.l.r.vc 5 (v := .complex .f64 o.z1 o.z2) rfl
  have HL := Lib.hid (g1.plain (op_check4 hc hA hB (A := j) (B := o.b) (C := o.c) (N := o.n) (z1 := o.z1) (z2 := o.z2) (core_confIs g1.l.l.l.is).choose_spec))
  have HO := Lib.hid fun w1 (gg : Goes (Sep (Sep (Sep (Core A c q) (LThr b t ov lg n x l X)) (Var vb #[.int .i64 4, .int .i64 (j : Int), .int .i64 (o.b : Int), .int .i64 (o.c : Int), .int .i64 (o.n : Int), .complex .f64 o.z1 o.z2] 26)) (Var rb #[.int .i64 0, .int .i64 0, .int .i64 0, .bool false, .complex .f64 0 0] 41)) S w w1) => gg.call (sepL (sepL (sepR fun S h => act_operands4 hk hjo hj hs h)))
  have HP := Lib.hid fun w1 (gg : Goes (Sep (Sep (Sep (Core A c q) (LThr b t ov lg n x l X)) (Var vb #[.int .i64 4, .int .i64 (j : Int), .int .i64 (o.b : Int), .int .i64 (o.c : Int), .int .i64 (o.n : Int), .complex .f64 o.z1 o.z2] 26)) (Var rb #[.int .i64 0, .int .i64 0, .int .i64 0, .bool false, .complex .f64 0 0] 41)) S w w1) => gg.call (sepL (sepL (sepR fun S h => act_plain4 hk h)))
  have HR := Lib.hid fun w1 pb (gg : Goes (Sep (Sep (Sep (Sep (Core A c q) (LThr b t ov lg n x l X)) (Var vb #[.int .i64 4, .int .i64 (j : Int), .int .i64 (o.b : Int), .int .i64 (o.c : Int), .int .i64 (o.n : Int), .complex .f64 o.z1 o.z2] 26)) (Var rb #[.int .i64 0, .int .i64 0, .int .i64 0, .bool false, .complex .f64 0 0] 41)) (Var pb #[.bool false, .complex .f64 0 0] 39)) S w w1) => Does.on (Does.lX (Does.lX (Does.lX (fun S h => (act_program4 hc hk hjo hj hs hix h).mono fun e w' ⟨fb, g', cap', he, hg⟩ => ⟨(fb, g', cap'), he, hg⟩ : Does Tryz.prog 172 #[.pointer (some ⟨A.b, 0, none⟩), .agg (opc o), .func (.func 173) #[.pointer (some ⟨b, 0, none⟩)] #[]] w1 (Sep (Core A c q) (LThr b t ov lg n x l X)) (fun (y : Nat × Nat × Nat) e => e = .returned (.pointer (some ⟨y.1, 0, none⟩))) (fun y => Sep (Sep (Core A c q) (LThr b t ov lg n x l X)) (Find y.1 c y.2.1 y.2.2 ⟨c.F, o.n, 0, -1, false, 0⟩)))))) gg
  have HD := Lib.hid fun w1 pb fb g' cap' (gg : Goes (Sep (Sep (Sep (Sep (Sep (Core A c q) (LThr b t ov lg n { x with f := .pointer (some ⟨fb, 0, none⟩) } l X)) (Find fb c g' cap' ⟨c.F, o.n, 0, -1, false, 0⟩)) (Var vb #[.int .i64 4, .int .i64 (j : Int), .int .i64 (o.b : Int), .int .i64 (o.c : Int), .int .i64 (o.n : Int), .complex .f64 o.z1 o.z2] 26)) (Var rb #[.int .i64 0, .int .i64 0, .int .i64 0, .bool false, .complex .f64 0 0] 41)) (Var pb #[.bool false, .complex .f64 0 0] 39)) S w w1) => gg.call (O' := (Sep (Sep (Sep (Sep (Core A c q) (LThr b t ov lg n { x with f := (.pointer (some ⟨fb, 0, none⟩)), at_ := 6, addr := ((c.F * 8 + (2 + o.n) : Nat) : Int), ref := false, w1 := fl (l o.b).k, w2 := fl (l o.b).i } l X)) (Var vb #[.int .i64 4, .int .i64 (j : Int), .int .i64 (o.b : Int), .int .i64 (o.c : Int), .int .i64 (o.n : Int), .complex .f64 o.z1 o.z2] 26)) (Var rb #[.int .i64 0, .int .i64 0, .int .i64 0, .bool false, .complex .f64 0 0] 41)) (Var pb #[.bool false, .complex .f64 0 0] 39))) (R := fun e => e = .returned (Rs.v ⟨0, 0, 0, false, 0, 0, false⟩)) (sepL (sepL (sepL fun S h => (act_finds4 hc hsh hl hr hwr hk hj2 hlr rfl h).mono fun e w' ⟨he, hg⟩ => ⟨he, by rw [Bool.false_and, if_neg (by decide)] at hg; exact hg⟩)))
  rw [hoc] at HR HD
  unfold Rs.v at *
  rw [hoc] at HO HP
  rw [hoc]
  unfold cfV at HL
  rw [he] at HO
  clear h g0 g1 hoc hk hjo hc hs he hix hsh hl hwr
  go_enter Tryz.func110, Tryz.ntmps110
  go_upto_region 1 with fail
  generalize (w.alloc _).alloc _ = w1 at *
  go_still_tail 5, (by kernel_rfl)
  change wpList _ _ _ _ _ w1.drew
  generalize w1.drew = w2 at *
  go_wp2_with fail
  with_reducible refine HL.out.mono ?_
  rintro e w3 ⟨rfl, hg⟩
  have HC := Lib.hid (HO.out _ hg)
  clear HL HO c0 c1 c2 c3 c4 c5 c6 c7 c8 p0 p1 p2 p3 p4 p5
  have p0 := hg.l.r.vc 0 (v := .int .i64 4) rfl
  have p1 := hg.l.r.vc 1 (v := .int .i64 (j : Int)) rfl
  have p2 := hg.l.r.vc 2 (v := .int .i64 (o.b : Int)) rfl
  have p3 := hg.l.r.vc 3 (v := .int .i64 (o.c : Int)) rfl
  have p4 := hg.l.r.vc 4 (v := .int .i64 (o.n : Int)) rfl
  have p5 := hg.l.r.vc 5 (v := .complex .f64 o.z1 o.z2) rfl
  clear hg
  go_wp2_with fail
  with_reducible refine HC.out.mono ?_
  rintro e w4 ⟨rfl, hg⟩
  clear HC p0 p1 p2 p3 p4 p5
  have HPC := Lib.hid (HP.out _ hg)
  have p0 := hg.l.r.vc 0 (v := .int .i64 4) rfl
  have p1 := hg.l.r.vc 1 (v := .int .i64 (j : Int)) rfl
  have p2 := hg.l.r.vc 2 (v := .int .i64 (o.b : Int)) rfl
  have p3 := hg.l.r.vc 3 (v := .int .i64 (o.c : Int)) rfl
  have p4 := hg.l.r.vc 4 (v := .int .i64 (o.n : Int)) rfl
  have p5 := hg.l.r.vc 5 (v := .complex .f64 o.z1 o.z2) rfl
  clear HP hg
  go_wp2_with fail
  with_reducible refine HPC.out.mono ?_
  rintro e w5 ⟨rfl, hg⟩
  have g6 := hg.moreSt (St.fresh #[.bool false, .complex .f64 0 0] 39)
  obtain ⟨pb, hpb⟩ : ∃ k, w5.heap.size = k := ⟨_, rfl⟩
  rw [hpb] at g6
  clear HPC p0 p1 p2 p3 p4 p5 hg
  have v0 := g6.r.vc 0 (v := .bool false) rfl
  have v1 := g6.r.vc 1 (v := .complex .f64 0 0) rfl
  have p0 := g6.l.l.r.vc 0 (v := .int .i64 4) rfl
  have p1 := g6.l.l.r.vc 1 (v := .int .i64 (j : Int)) rfl
  have p2 := g6.l.l.r.vc 2 (v := .int .i64 (o.b : Int)) rfl
  have p3 := g6.l.l.r.vc 3 (v := .int .i64 (o.c : Int)) rfl
  have p4 := g6.l.l.r.vc 4 (v := .int .i64 (o.n : Int)) rfl
  have p5 := g6.l.l.r.vc 5 (v := .complex .f64 o.z1 o.z2) rfl
  have HRC := Lib.hid (HR.out _ _ g6)
  clear HR
  go_upto_region 9 with fail
  generalize w5.alloc _ = w6 at *
  go_wp2_with fail
  with_reducible refine HRC.out.mono ?_
  rintro e w7 ⟨⟨fb, g', cap'⟩, rfl, hgx⟩
  have hg : Goes (Sep (Sep (Sep (Sep (Sep (Core A c q) (LThr b t ov lg n x l X)) (Var vb #[.int .i64 4, .int .i64 (j : Int), .int .i64 (o.b : Int), .int .i64 (o.c : Int), .int .i64 (o.n : Int), .complex .f64 o.z1 o.z2] 26)) (Var rb #[.int .i64 0, .int .i64 0, .int .i64 0, .bool false, .complex .f64 0 0] 41)) (Var pb #[.bool false, .complex .f64 0 0] 39)) (Find fb c g' cap' ⟨c.F, o.n, 0, -1, false, 0⟩)) S w w7 := hgx
  clear HRC hgx g6 p0 p1 p2 p3 p4 p5 v0 v1
  have c12 := hg.l.l.l.l.r.c 12 (v := x.f) rfl
  have f12 := hg.l.l.l.l.r.fr 12
  have g8 : Goes (Sep (Sep (Sep (Sep (Sep (Core A c q) (LThr b t ov lg n { x with f := .pointer (some ⟨fb, 0, none⟩) } l X)) (Var vb #[.int .i64 4, .int .i64 (j : Int), .int .i64 (o.b : Int), .int .i64 (o.c : Int), .int .i64 (o.n : Int), .complex .f64 o.z1 o.z2] 26)) (Var rb #[.int .i64 0, .int .i64 0, .int .i64 0, .bool false, .complex .f64 0 0] 41)) (Var pb #[.bool false, .complex .f64 0 0] 39)) (Find fb c g' cap' ⟨c.F, o.n, 0, -1, false, 0⟩)) S w (w7.setCell ⟨b, 12, none⟩ (.pointer (some ⟨fb, 0, none⟩))) := hg.then fun S h => goesL (fun S h => goesL (fun S h => goesL (fun S h => goesL (fun S h => goesR (fun S h => (Goes.begin h).put 12 (.pointer (some ⟨fb, 0, none⟩)) (cs' := thCells t ov (.slice (some ⟨lg, 0, none⟩) n n) { x with f := .pointer (some ⟨fb, 0, none⟩) }) rfl) S h) S h) S h) S h) S h
  have g9 := g8.conv fun S w h => sepAt.rot3 h
  have HDC := Lib.hid (HD.out _ _ _ _ _ g9)
  clear HD hg g8
  have p0 := g9.l.l.r.vc 0 (v := .int .i64 4) rfl
  have p1 := g9.l.l.r.vc 1 (v := .int .i64 (j : Int)) rfl
  have p2 := g9.l.l.r.vc 2 (v := .int .i64 (o.b : Int)) rfl
  have p3 := g9.l.l.r.vc 3 (v := .int .i64 (o.c : Int)) rfl
  have p4 := g9.l.l.r.vc 4 (v := .int .i64 (o.n : Int)) rfl
  have p5 := g9.l.l.r.vc 5 (v := .complex .f64 o.z1 o.z2) rfl
  clear g9
  go_wp2_with fail
  with_reducible refine HDC.out.mono ?_
  rintro e w9 ⟨rfl, hgx⟩
  have hg := hgx.l
  clear HDC hgx c12 f12 p0 p1 p2 p3 p4 p5
  have q0_ := hg.r.vc 0 (v := .int .i64 0) rfl
  have p0_ := hg.r.vf 0
  have q1_ := hg.r.vc 1 (v := .int .i64 0) rfl
  have p1_ := hg.r.vf 1
  have q2_ := hg.r.vc 2 (v := .int .i64 0) rfl
  have p2_ := hg.r.vf 2
  have q3_ := hg.r.vc 3 (v := .bool false) rfl
  have p3_ := hg.r.vf 3
  have q4_ := hg.r.vc 4 (v := .complex .f64 0 0) rfl
  have p4_ := hg.r.vf 4
  have g8_ := hg.then fun S h => goesR (fun S h => (((((Goes.begin h).vput 0 (.int .i64 (0)) rfl).vput 1 (.int .i64 (0)) rfl).vput 2 (.int .i64 (0)) rfl).vput 3 (.bool (false)) rfl).vput 4 (.complex .f64 0 0) rfl) S h
  have k0_ := g8_.r.vc 0 (v := .int .i64 (0)) rfl
  have k1_ := g8_.r.vc 1 (v := .int .i64 (0)) rfl
  have k2_ := g8_.r.vc 2 (v := .int .i64 (0)) rfl
  have k3_ := g8_.r.vc 3 (v := .bool (false)) rfl
  have k4_ := g8_.r.vc 4 (v := .complex .f64 0 0) rfl
  have HF := Lib.hid g8_.l
  clear hg g8_
  go_wp2_with fail
  (try rw [via_ret])
  exact bodyPost_ret (v := .tuple #[.agg #[.int .i64 (0), .int .i64 (0), .int .i64 (0), .bool (false), .complex .f64 0 0], .bool false]) (by simp [results, Tryz.results110, go_sem, k0_, k1_, k2_, k3_, k4_]) rfl ⟨_, rfl, HF.out.l⟩
end
end Go.Proofs.YtnkgnhpapcnebaaGreat
/- The collector: its stages but roots, marks and hauls. -/
namespace Go.Proofs.YtnkgnhpapcnebaaGreat
open Go.RowKit
attribute [local go_sem] run_store_complex via_ret via_normal via_exit via_panic
section
variable {b : Nat} {y : Yc} {K : Thing} {S : Nat → Prop} {w w' : World} {A : CA} {c : Cf} {q : Q}
set_option maxRecDepth 100000 in
theorem cy_starts0 (hat : y.at_ = 0) (h : (Sep (Core A c q) (Cyc b y K)).at_ S w) :
    Calls Tryz.prog 43 #[.pointer (some ⟨b, 0, none⟩), .pointer (some ⟨A.b, 0, none⟩)] w fun e w' => e = .returned (.tuple #[]) ∧ Goes (Sep (Core A c q) (Cyc b { y with at_ := 2 } K)) S w w' := by
  have c1 := (Goes.begin h).r.c 1 (v := .int .i64 y.at_) rfl
  rw [hat] at c1
  have k11 := (Goes.begin h).l.c 11 (v := .pointer (some ⟨A.bsp, 0, none⟩)) rfl
  have HL := Lib.hid ((core_spR (sp_begin _)).l.on (Goes.begin h))
  clear h
  go_enter Tryz.func43, Tryz.ntmps43
  go_wp2_with fail
  with_reducible refine HL.out.mono ?_
  rintro e w2 ⟨_, rfl, hgx⟩
  have hg : Goes (Sep (Core A c q) (Cyc b y K)) S w w2 := hgx
  clear HL c1 k11 hgx
  have c1 := hg.r.c 1 (v := .int .i64 y.at_) rfl
  have f1 := hg.r.fr 1
  have g3 : Goes (Sep (Core A c q) (Cyc b { y with at_ := 2 } K)) S w _ := hg.then fun S h => goesR (fun S h => (Goes.begin h).put 1 (.int .i64 2) (cs' := cyCells { y with at_ := 2 }) rfl) S h
  have HG := Lib.hid g3
  clear hg g3
  go_wp2_with fail
  first | go_end0 | ((try simp only [Exit.inBlock, Exit.then]); refine bodyPost_ret (results_none rfl _ _ _) rfl ?_)
  exact ⟨rfl, HG.out⟩
set_option maxRecDepth 100000 in
theorem cy_starts1 (hat : ¬ y.at_ = 0) (h : (Sep (Core A c q) (Cyc b y K)).at_ S w) :
    Calls Tryz.prog 43 #[.pointer (some ⟨b, 0, none⟩), .pointer (some ⟨A.b, 0, none⟩)] w fun e w' => e = .returned (.tuple #[]) ∧ Goes (Sep (Core A c { q with h := { q.h with st := 1, sn := q.h.sn != true } }) (Cyc b (({ y with sd := wrap64 (y.sd + 1), sn := !y.sn, sp := 0 } : Yc).to 2) K)) S w w' := by
  have c1 := (Goes.begin h).r.c 1 (v := .int .i64 y.at_) rfl
  have k12 := (Goes.begin h).l.c 12 (v := .pointer (some ⟨A.bh, 0, none⟩)) rfl
  have HL := Lib.hid ((core_hn (k := fun _ => { q.h with st := 1, sn := q.h.sn != true }) (hni_post 1 true (by decide) (by decide) _)).l.on (Goes.begin h))
  clear h
  go_enter Tryz.func43, Tryz.ntmps43
  go_wp2_with fail
  with_reducible refine HL.out.mono ?_
  rintro e w2 ⟨_, rfl, hgx⟩
  have hg : Goes (Sep (Core A c { q with h := { q.h with st := 1, sn := q.h.sn != true } }) (Cyc b y K)) S w w2 := hgx
  clear HL c1 k12 hgx
  have c7 := hg.r.c 7 (v := .bool y.sn) rfl
  have c8 := hg.r.c 8 (v := .int .i64 y.sd) rfl
  have c12 := hg.r.c 12 (v := .int .i64 y.sp) rfl
  have f7 := hg.r.fr 7
  have f8 := hg.r.fr 8
  have f12 := hg.r.fr 12
  have g3 : Goes (Sep (Core A c { q with h := { q.h with st := 1, sn := q.h.sn != true } }) (Cyc b { y with sd := wrap64 (y.sd + 1), sn := !y.sn, sp := 0 } K)) S w _ := hg.then fun S h => goesR (fun S h => (((Goes.begin h).put 8 (.int .i64 (wrap64 (y.sd + 1))) (cs' := cyCells { y with sd := wrap64 (y.sd + 1) }) rfl).put 7 (.bool (!y.sn)) (cs' := cyCells { y with sd := wrap64 (y.sd + 1), sn := !y.sn }) rfl).put 12 (.int .i64 0) (cs' := cyCells { y with sd := wrap64 (y.sd + 1), sn := !y.sn, sp := 0 }) rfl) S h
  have HE := Lib.hid (g3.call (sepR fun S h => cy_enters 2 h))
  clear hg g3
  go_wp2_with fail
  with_reducible refine HE.out.mono ?_
  rintro e w2 ⟨rfl, hg⟩
  have HG := Lib.hid hg
  clear HE hg
  go_wp2_with fail
  first | go_end0 | ((try simp only [Exit.inBlock, Exit.then]); refine bodyPost_ret (results_none rfl _ _ _) rfl ?_)
  exact ⟨rfl, HG.out⟩
set_option maxRecDepth 100000 in
theorem cy_settles0 (hc : c.ok) (hat : y.at_ = 0) (h : (Sep (Core A c q) (Cyc b y K)).at_ S w) :
    Calls Tryz.prog 49 #[.pointer (some ⟨b, 0, none⟩), .pointer (some ⟨A.b, 0, none⟩)] w fun e w' => ∃ (a i : Int), e = .returned (.tuple #[]) ∧ Goes (Sep (Core A c q) (Cyc b { y with at_ := a, i := i } K)) S w w' := by
  have c1 := (Goes.begin h).r.c 1 (v := .int .i64 y.at_) rfl
  rw [hat] at c1
  have HL := Lib.hid (cy_polls hc h)
  clear h hc
  go_enter Tryz.func49, Tryz.ntmps49
  go_wp2_with fail
  with_reducible refine HL.out.mono ?_
  rintro e w2 ⟨r, i, rfl, hg⟩
  clear HL c1
  cases r with
  | false =>
    have HG := Lib.hid hg
    clear hg
    go_wp2_with fail
    first | go_end0 | ((try simp only [Exit.inBlock, Exit.then]); refine bodyPost_ret (results_none rfl _ _ _) rfl ?_)
    exact ⟨_, _, rfl, HG.out⟩
  | true =>
    have c1 := hg.r.c 1 (v := .int .i64 y.at_) rfl
    have f1 := hg.r.fr 1
    have g3 : Goes (Sep (Core A c q) (Cyc b { y with at_ := 7, i := i } K)) S w _ := hg.then fun S h => goesR (fun S h => (Goes.begin h).put 1 (.int .i64 7) (cs' := cyCells { y with at_ := 7, i := i }) rfl) S h
    have HG := Lib.hid g3
    clear hg g3
    go_wp2_with fail
    first | go_end0 | ((try simp only [Exit.inBlock, Exit.then]); refine bodyPost_ret (results_none rfl _ _ _) rfl ?_)
    exact ⟨_, _, rfl, HG.out⟩
set_option maxRecDepth 100000 in
theorem cy_settles1 (hat : ¬ y.at_ = 0) (h : (Sep (Core A c q) (Cyc b y K)).at_ S w) :
    Calls Tryz.prog 49 #[.pointer (some ⟨b, 0, none⟩), .pointer (some ⟨A.b, 0, none⟩)] w fun e w' => e = .returned (.tuple #[]) ∧ Goes (Sep (Core A c q) (Cyc b (y.to 9) K)) S w w' := by
  have c1 := (Goes.begin h).r.c 1 (v := .int .i64 y.at_) rfl
  have k11 := (Goes.begin h).l.c 11 (v := .pointer (some ⟨A.bsp, 0, none⟩)) rfl
  have HL := Lib.hid ((core_spR (sp_done _)).l.on (Goes.begin h))
  clear h
  go_enter Tryz.func49, Tryz.ntmps49
  go_wp2_with fail
  with_reducible refine HL.out.mono ?_
  rintro e w2 ⟨_, rfl, hgx⟩
  have hg : Goes (Sep (Core A c q) (Cyc b y K)) S w w2 := hgx
  have HE := Lib.hid (hg.call (sepR fun S h => cy_enters 9 h))
  clear HL c1 k11 hg hgx
  go_wp2_with fail
  with_reducible refine HE.out.mono ?_
  rintro e w2 ⟨rfl, hg⟩
  have HG := Lib.hid hg
  clear HE hg
  go_wp2_with fail
  first | go_end0 | ((try simp only [Exit.inBlock, Exit.then]); refine bodyPost_ret (results_none rfl _ _ _) rfl ?_)
  exact ⟨rfl, HG.out⟩
set_option maxRecDepth 100000 in
theorem cy_turns0 (hc : c.ok) (hat : y.at_ = 0) (h : (Sep (Core A c q) (Cyc b y K)).at_ S w) :
    Calls Tryz.prog 47 #[.pointer (some ⟨b, 0, none⟩), .pointer (some ⟨A.b, 0, none⟩)] w fun e w' => e = .returned (.tuple #[]) ∧ Goes (Sep (Core A c q) (Cyc b { y with at_ := 2 } K)) S w w' := by
  have c1 := (Goes.begin h).r.c 1 (v := .int .i64 y.at_) rfl
  rw [hat] at c1
  have k11 := (Goes.begin h).l.c 11 (v := .pointer (some ⟨A.bsp, 0, none⟩)) rfl
  have HL := Lib.hid ((core_spR (sp_turn hc _)).l.on (Goes.begin h))
  clear h hc
  go_enter Tryz.func47, Tryz.ntmps47
  go_wp2_with fail
  with_reducible refine HL.out.mono ?_
  rintro e w2 ⟨_, rfl, hgx⟩
  have hg : Goes (Sep (Core A c q) (Cyc b y K)) S w w2 := hgx
  clear HL c1 k11 hgx
  have c1 := hg.r.c 1 (v := .int .i64 y.at_) rfl
  have f1 := hg.r.fr 1
  have g3 : Goes (Sep (Core A c q) (Cyc b { y with at_ := 2 } K)) S w _ := hg.then fun S h => goesR (fun S h => (Goes.begin h).put 1 (.int .i64 2) (cs' := cyCells { y with at_ := 2 }) rfl) S h
  have HG := Lib.hid g3
  clear hg g3
  go_wp2_with fail
  first | go_end0 | ((try simp only [Exit.inBlock, Exit.then]); refine bodyPost_ret (results_none rfl _ _ _) rfl ?_)
  exact ⟨rfl, HG.out⟩
set_option maxRecDepth 100000 in
theorem cy_turns1 (hat : y.at_ = 2) (h : (Sep (Core A c q) (Cyc b y K)).at_ S w) :
    Calls Tryz.prog 47 #[.pointer (some ⟨b, 0, none⟩), .pointer (some ⟨A.b, 0, none⟩)] w fun e w' => e = .returned (.tuple #[]) ∧ Goes (Sep (Core A c { q with h := { q.h with st := 4, sn := q.h.sn != false } }) (Cyc b { y with at_ := 1 } K)) S w w' := by
  have c1 := (Goes.begin h).r.c 1 (v := .int .i64 y.at_) rfl
  rw [hat] at c1
  have k12 := (Goes.begin h).l.c 12 (v := .pointer (some ⟨A.bh, 0, none⟩)) rfl
  have HL := Lib.hid ((core_hn (k := fun _ => { q.h with st := 4, sn := q.h.sn != false }) (hni_post 4 false (by decide) (by decide) _)).l.on (Goes.begin h))
  clear h
  go_enter Tryz.func47, Tryz.ntmps47
  go_wp2_with fail
  with_reducible refine HL.out.mono ?_
  rintro e w2 ⟨_, rfl, hgx⟩
  have hg : Goes (Sep (Core A c { q with h := { q.h with st := 4, sn := q.h.sn != false } }) (Cyc b y K)) S w w2 := hgx
  clear HL c1 k12 hgx
  have c1 := hg.r.c 1 (v := .int .i64 y.at_) rfl
  have f1 := hg.r.fr 1
  have g3 : Goes (Sep (Core A c { q with h := { q.h with st := 4, sn := q.h.sn != false } }) (Cyc b { y with at_ := 1 } K)) S w _ := hg.then fun S h => goesR (fun S h => (Goes.begin h).put 1 (.int .i64 1) (cs' := cyCells { y with at_ := 1 }) rfl) S h
  have HG := Lib.hid g3
  clear hg g3
  go_wp2_with fail
  first | go_end0 | ((try simp only [Exit.inBlock, Exit.then]); refine bodyPost_ret (results_none rfl _ _ _) rfl ?_)
  exact ⟨rfl, HG.out⟩
set_option maxRecDepth 100000 in
theorem cy_turns2 (hc : c.ok) (hat : ¬ y.at_ = 0) (hat2 : ¬ y.at_ = 2) (h : (Sep (Core A c q) (Cyc b y K)).at_ S w) :
    Calls Tryz.prog 47 #[.pointer (some ⟨b, 0, none⟩), .pointer (some ⟨A.b, 0, none⟩)] w fun e w' => ∃ y' : Yc, (e = .returned (.tuple #[]) ∧ ((∃ i, y' = { y with i := i }) ∨ (∃ i, y' = { ({ y with i := i } : Yc).to 7 with h := .pointer none }))) ∧ Goes (Sep (Core A c q) (Cyc b y' K)) S w w' := by
  have c1 := (Goes.begin h).r.c 1 (v := .int .i64 y.at_) rfl
  have HL := Lib.hid (cy_polls hc h)
  clear h hc
  go_enter Tryz.func47, Tryz.ntmps47
  go_wp2_with fail
  with_reducible refine HL.out.mono ?_
  rintro e w2 ⟨r, i, rfl, hg⟩
  clear HL c1
  cases r with
  | false =>
    have HG := Lib.hid hg
    clear hg
    go_wp2_with fail
    first | go_end0 | ((try simp only [Exit.inBlock, Exit.then]); refine bodyPost_ret (results_none rfl _ _ _) rfl ?_)
    exact ⟨_, ⟨rfl, .inl ⟨_, rfl⟩⟩, HG.out⟩
  | true =>
    have HE := Lib.hid (hg.call (sepR fun S h => cy_enters 7 h))
    clear hg
    go_wp2_with fail
    with_reducible refine HE.out.mono ?_
    rintro e w2 ⟨rfl, hg⟩
    clear HE
    have c6 := hg.r.c 6 (v := y.h) rfl
    have f6 := hg.r.fr 6
    have g3 : Goes (Sep (Core A c q) (Cyc b { ({ y with i := i } : Yc).to 7 with h := .pointer none } K)) S w _ := hg.then fun S h => goesR (fun S h => (Goes.begin h).put 6 (.pointer none) (cs' := cyCells { ({ y with i := i } : Yc).to 7 with h := .pointer none }) rfl) S h
    have HG := Lib.hid g3
    clear hg g3
    go_wp2_with fail
    first | go_end0 | ((try simp only [Exit.inBlock, Exit.then]); refine bodyPost_ret (results_none rfl _ _ _) rfl ?_)
    exact ⟨_, ⟨rfl, .inr ⟨_, rfl⟩⟩, HG.out⟩
set_option maxRecDepth 100000 in
theorem cy_sweeps (hc : c.ok) (h : (Sep (Core A c q) (Cyc b y K)).at_ S w) :
    Calls Tryz.prog 50 #[.pointer (some ⟨b, 0, none⟩), .pointer (some ⟨A.b, 0, none⟩)] w fun e w' => ∃ y' : Yc, (e = .returned (.tuple #[]) ∧ ((∃ i f, y' = { y with i := i, fr := f }) ∨ (∃ i f, y' = ({ y with i := i, fr := f } : Yc).to 10))) ∧ Goes (Sep (Core A c q) (Cyc b y' K)) S w w' := by
  have g1 := (Goes.begin h).drew_
  have k11 := g1.l.c 11 (v := .pointer (some ⟨A.bsp, 0, none⟩)) rfl
  have d2 := g1.r.c 2 (v := .int .i64 y.i) rfl
  have d7 := g1.r.c 7 (v := .bool y.sn) rfl
  have HL := Lib.hid ((core_two (bn := fun _ => q.bn) (ask := fun _ => q.ask) (sp_sweep y.i y.sn hc _)).l.on g1)
  clear g1 h hc
  go_enter Tryz.func50, Tryz.ntmps50
  go_wp2_with fail
  go_still_tail 12, (by kernel_rfl)
  change wpList _ _ _ _ _ w.drew
  generalize w.drew = w1 at *
  go_wp2_with fail
  with_reducible refine HL.out.mono ?_
  rintro e w2 ⟨r, ⟨rfl, _⟩, hgx⟩
  have hg : Goes (Sep (Core A c q) (Cyc b y K)) S w w2 := hgx
  clear HL hgx k11 d2 d7
  have hgo : ∃ f, Goes (Sep (Core A c q) (Cyc b { y with fr := f } K)) S w (if r = true then w2.setCell ⟨b, 10, none⟩ (.int .i64 (wrap64 (y.fr + 1))) else w2) := by
    cases r with
    | false => exact ⟨y.fr, hg⟩
    | true => exact ⟨_, hg.then fun S h => goesR (fun S h => (Goes.begin h).put 10 (.int .i64 (wrap64 (y.fr + 1))) (cs' := cyCells { y with fr := wrap64 (y.fr + 1) }) rfl) S h⟩
  obtain ⟨f, hgo⟩ := hgo
  have c10 := hg.r.c 10 (v := .int .i64 y.fr) rfl
  have f10 := hg.r.fr 10
  have main : ∀ w3, Goes (Sep (Core A c q) (Cyc b { y with fr := f } K)) S w w3 → True := fun _ _ => trivial
  clear main
  cases r with
  | false =>
    simp only [if_neg (show ¬ (false = true) by decide)] at hgo
    clear c10 f10 hg
    have c2 := hgo.r.c 2 (v := .int .i64 y.i) rfl
    have f2 := hgo.r.fr 2
    have g3 : Goes (Sep (Core A c q) (Cyc b { y with fr := f, i := wrap64 (y.i + 1) } K)) S w _ := hgo.then fun S h => goesR (fun S h => (Goes.begin h).put 2 (.int .i64 (wrap64 (y.i + 1))) (cs' := cyCells { y with fr := f, i := wrap64 (y.i + 1) }) rfl) S h
    have HG := Lib.hid g3
    clear hgo g3
    go_upto_region 3 with fail
    generalize World.setCell _ _ _ = w4 at *
    clear c2 f2
    have d2 := HG.out.r.c 2 (v := .int .i64 (wrap64 (y.i + 1))) rfl
    have k0 := HG.out.l.c 0 (v := .int .i64 c.frags) rfl
    generalize wrap64 (y.i + 1) = i1 at *
    by_cases hi : i1 = (c.frags : Int)
    · have hd : decide (i1 = (c.frags : Int)) = true := by simpa using hi
      go_wp2_with fail
      go_quiet (fail)
      have HE := Lib.hid ((HG.out.drewN_ nq).call (sepR fun S h => cy_enters 10 h))
      clear d2 k0 HG
      go_wp2_with fail
      with_reducible refine HE.out.mono ?_
      rintro e w2 ⟨rfl, hg⟩
      have HG := Lib.hid hg
      clear HE hg
      go_wp2_with fail
      first | go_end0 | ((try simp only [Exit.inBlock, Exit.then]); refine bodyPost_ret (results_none rfl _ _ _) rfl ?_)
      exact ⟨_, ⟨rfl, .inr ⟨_, _, rfl⟩⟩, HG.out⟩
    · have hd : decide (i1 = (c.frags : Int)) = false := by simpa using hi
      go_wp2_with fail
      go_quiet (fail)
      have HG2 := Lib.hid (HG.out.drewN_ nq)
      clear HG d2 k0
      go_wp2_with fail
      first | go_end0 | ((try simp only [Exit.inBlock, Exit.then]); refine bodyPost_ret (results_none rfl _ _ _) rfl ?_)
      exact ⟨_, ⟨rfl, .inl ⟨_, _, rfl⟩⟩, HG2.out⟩
  | true =>
    simp only [if_pos] at hgo
    have HGO := Lib.hid hgo
    clear hgo hg
    go_upto_region 2 with fail
    generalize World.setCell _ _ _ = w3 at *
    clear c10 f10
    have hgo := HGO.out
    clear HGO
    have c2 := hgo.r.c 2 (v := .int .i64 y.i) rfl
    have f2 := hgo.r.fr 2
    have g3 : Goes (Sep (Core A c q) (Cyc b { y with fr := f, i := wrap64 (y.i + 1) } K)) S w _ := hgo.then fun S h => goesR (fun S h => (Goes.begin h).put 2 (.int .i64 (wrap64 (y.i + 1))) (cs' := cyCells { y with fr := f, i := wrap64 (y.i + 1) }) rfl) S h
    have HG := Lib.hid g3
    clear hgo g3
    go_upto_region 3 with fail
    generalize World.setCell _ _ _ = w4 at *
    clear c2 f2
    have d2 := HG.out.r.c 2 (v := .int .i64 (wrap64 (y.i + 1))) rfl
    have k0 := HG.out.l.c 0 (v := .int .i64 c.frags) rfl
    generalize wrap64 (y.i + 1) = i1 at *
    by_cases hi : i1 = (c.frags : Int)
    · have hd : decide (i1 = (c.frags : Int)) = true := by simpa using hi
      go_wp2_with fail
      go_quiet (fail)
      have HE := Lib.hid ((HG.out.drewN_ nq).call (sepR fun S h => cy_enters 10 h))
      clear d2 k0 HG
      go_wp2_with fail
      with_reducible refine HE.out.mono ?_
      rintro e w2 ⟨rfl, hg⟩
      have HG := Lib.hid hg
      clear HE hg
      go_wp2_with fail
      first | go_end0 | ((try simp only [Exit.inBlock, Exit.then]); refine bodyPost_ret (results_none rfl _ _ _) rfl ?_)
      exact ⟨_, ⟨rfl, .inr ⟨_, _, rfl⟩⟩, HG.out⟩
    · have hd : decide (i1 = (c.frags : Int)) = false := by simpa using hi
      go_wp2_with fail
      go_quiet (fail)
      have HG2 := Lib.hid (HG.out.drewN_ nq)
      clear HG d2 k0
      go_wp2_with fail
      first | go_end0 | ((try simp only [Exit.inBlock, Exit.then]); refine bodyPost_ret (results_none rfl _ _ _) rfl ?_)
      exact ⟨_, ⟨rfl, .inl ⟨_, _, rfl⟩⟩, HG2.out⟩
set_option maxRecDepth 100000 in
theorem cy_serves0 (hat : y.at_ = 0) (h : (Sep (Core A c q) (Cyc b y K)).at_ S w) :
    Calls Tryz.prog 51 #[.pointer (some ⟨b, 0, none⟩), .pointer (some ⟨A.b, 0, none⟩)] w fun e w' => e = .returned (.tuple #[]) ∧ Goes (Sep (Core A c q) (Cyc b { y with at_ := 7 } K)) S w w' := by
  have c1 := (Goes.begin h).r.c 1 (v := .int .i64 y.at_) rfl
  rw [hat] at c1
  have k11 := (Goes.begin h).l.c 11 (v := .pointer (some ⟨A.bsp, 0, none⟩)) rfl
  have HL := Lib.hid ((core_spR (sp_end _)).l.on (Goes.begin h))
  clear h
  go_enter Tryz.func51, Tryz.ntmps51
  go_wp2_with fail
  with_reducible refine HL.out.mono ?_
  rintro e w2 ⟨_, rfl, hgx⟩
  have hg : Goes (Sep (Core A c q) (Cyc b y K)) S w w2 := hgx
  clear HL c1 k11 hgx
  have c1 := hg.r.c 1 (v := .int .i64 y.at_) rfl
  have f1 := hg.r.fr 1
  have g3 : Goes (Sep (Core A c q) (Cyc b { y with at_ := 7 } K)) S w _ := hg.then fun S h => goesR (fun S h => (Goes.begin h).put 1 (.int .i64 7) (cs' := cyCells { y with at_ := 7 }) rfl) S h
  have HG := Lib.hid g3
  clear hg g3
  go_wp2_with fail
  first | go_end0 | ((try simp only [Exit.inBlock, Exit.then]); refine bodyPost_ret (results_none rfl _ _ _) rfl ?_)
  exact ⟨rfl, HG.out⟩
set_option maxRecDepth 100000 in
theorem cy_serves1 (hat : ¬ y.at_ = 0) (h : (Sep (Core A c q) (Cyc b y K)).at_ S w) :
    Calls Tryz.prog 51 #[.pointer (some ⟨b, 0, none⟩), .pointer (some ⟨A.b, 0, none⟩)] w fun e w' => e = .returned (.tuple #[]) ∧ Goes (Sep (Core A c q) (Cyc b (({ y with fi := wrap64 (y.fi + 1) } : Yc).to 0) K)) S w w' := by
  have c1 := (Goes.begin h).r.c 1 (v := .int .i64 y.at_) rfl
  have g1 := (Goes.begin h).drew_
  have k11 := g1.l.c 11 (v := .pointer (some ⟨A.bsp, 0, none⟩)) rfl
  have d7 := g1.r.c 7 (v := .bool y.sn) rfl
  have HL := Lib.hid ((core_spR (sp_serve y.sn _)).l.on g1)
  clear h g1
  go_enter Tryz.func51, Tryz.ntmps51
  go_wp2_with fail
  go_still_tail 8, (by kernel_rfl)
  change wpList _ _ _ _ _ w.drew
  generalize w.drew = w1 at *
  go_wp2_with fail
  with_reducible refine HL.out.mono ?_
  rintro e w2 ⟨_, rfl, hgx⟩
  have hg : Goes (Sep (Core A c q) (Cyc b y K)) S w w2 := hgx
  clear HL c1 k11 d7 hgx
  have c9 := hg.r.c 9 (v := .int .i64 y.fi) rfl
  have f9 := hg.r.fr 9
  have g3 : Goes (Sep (Core A c q) (Cyc b { y with fi := wrap64 (y.fi + 1) } K)) S w _ := hg.then fun S h => goesR (fun S h => (Goes.begin h).put 9 (.int .i64 (wrap64 (y.fi + 1))) (cs' := cyCells { y with fi := wrap64 (y.fi + 1) }) rfl) S h
  have HE := Lib.hid (g3.call (sepR fun S h => cy_enters 0 h))
  clear hg g3
  go_wp2_with fail
  with_reducible refine HE.out.mono ?_
  rintro e w2 ⟨rfl, hg⟩
  have HG := Lib.hid hg
  clear HE hg
  go_wp2_with fail
  first | go_end0 | ((try simp only [Exit.inBlock, Exit.then]); refine bodyPost_ret (results_none rfl _ _ _) rfl ?_)
  exact ⟨rfl, HG.out⟩
end
end Go.Proofs.YtnkgnhpapcnebaaGreat
