import Derived.Test.YtgcmiahhkalfmaaGreatM35
set_option maxRecDepth 100000
set_option maxHeartbeats 8000000
set_option linter.unusedVariables false
set_option linter.unusedSimpArgs false
namespace Go.Proofs.YtgcmiahhkalfmaaGreat
attribute [local go_sem] aF aI aO aV
open Go.Proofs.Tryz
open Go.RowKit
variable {a r:Bool} {A:CA} {c:Cf} {K:Int} {ll:List Bool} {Fr b g i j k lg n t tb z1 z2:Nat} {l:Nat→Lc} {S:Nat→Prop} {o:OpR} {q:Sw.Q} {x:Tc} {O X:aC} {lv ov:Value} {w w':World}
section
theorem act_finds4 {fb g' cap':Nat} (hc:c.ok) (hFr:Fr<c.frags) (hs:c.shapes[0]? = some (false,ll)) (hr:ll[o.n]? = some r) (hm1:q.m (Fr*8+1)=⟨0,1⟩) (hk:o.kd=4) (hj:o.b<n) (hlr:(l o.b).ref=r) (hf:x.f=.pointer (some ⟨fb,0,none⟩))
 (h:(Sep (Sep (aE A c q) (aT b t ov lg n x l X)) (dK fb c g' cap' ⟨Fr,o.n,0,-1,false,0⟩)).at_ S w):
 Calls prog 150 #[.pointer (some ⟨b,0,none⟩),.pointer (some ⟨A.b,0,none⟩),.agg (opc o)] w fun e w'=>e=.returned (Rs.v ⟨0,0,0,false,0,0,false⟩)∧aA (Sep (aE A c q) (aT b t ov lg n {x with at_:=if r&&shd x.st then 3 else 6,addr:=((Fr*8+(2+o.n):Nat):Int),ref:=r,w1:=fl (l o.b).k,w2:=fl (l o.b).i} l X)) S w w':=by
 generalize hav:(if r&&shd x.st then (3:Int) else 6)=av
 obtain ⟨x,rfl⟩:∃ y:Tc,x={y with f:=.pointer (some ⟨fb,0,none⟩)}:=⟨x,by rw [←hf]⟩
 simp only at hav
 have hoc:opc o=#[.int .i64 4,.int .i64 (o.a:Int),.int .i64 (o.b:Int),.int .i64 (o.c:Int),.int .i64 (o.n:Int),.complex .f64 o.z1 o.z2]:=by unfold opc;rw [hk];rfl
 rw [hoc]
 have g0:=((aA.begin h).moreSt (St.fresh #[.int .i64 4,.int .i64 (o.a:Int),.int .i64 (o.b:Int),.int .i64 (o.c:Int),.int .i64 (o.n:Int),.complex .f64 o.z1 o.z2] 27)).moreSt (St.fresh aQ 41)
 rw [World.size_alloc] at g0
 obtain ⟨vb,hvb⟩:∃ k,w.heap.size=k:=⟨_,rfl⟩
 obtain ⟨rb,hrb⟩:∃ k,vb+1=k:=⟨_,rfl⟩
 rw [hvb,hrb] at g0
 have c11:=g0.l.l.l.r.ci 11 x.at_
 have f11:=g0.l.l.l.r.fr 11
 have g1:aA (Sep (Sep (Sep (Sep (aE A c q) (aT b t ov lg n {x with at_:=1,f:=.pointer (some ⟨fb,0,none⟩)} l X)) (dK fb c g' cap' ⟨Fr,o.n,0,-1,false,0⟩)) (Var vb #[.int .i64 4,.int .i64 (o.a:Int),.int .i64 (o.b:Int),.int .i64 (o.c:Int),.int .i64 (o.n:Int),.complex .f64 o.z1 o.z2] 27)) (Var rb #[.int .i64 0,.int .i64 0,.int .i64 0,.bool false,.complex .f64 0 0] 41)) S w _:=g0.then (aG (aG (aG (aH (fun S h=>(aA.begin h).put 11 (.int .i64 1) (cs':=aM t ov (.slice (some ⟨lg,0,none⟩) n n) {x with at_:=1,f:=.pointer (some ⟨fb,0,none⟩)}) rfl)))))
 have g2:=g1.drew_
 have d12:=g2.l.l.l.r.cp 12 fb
 have k9:=g2.l.l.l.l.cp 9 A.bm
 have HL:=zz ((find_stepC (A:=A) (q:=q) (g':=g') (cap':=cap') (fb:=fb) hc hFr hs hr hm1 _).lY.l.l.on g2)
 have HLR:=zz hlr
 have HCH:=zz fun w5 S (h:(aT b t ov lg n {x with at_:=2,addr:=((Fr*8+(2+o.n):Nat):Int),ref:=r,f:=.pointer (some ⟨fb,0,none⟩)} l X).at_ S w5)=>(by have h9:=iX (o:=o) (r:=r) rfl hj h;simp only at h9;rw [hav] at h9;exact h9:Calls prog 225 #[.pointer (some ⟨b,0,none⟩),.agg (opc o)] w5 fun e w'=>e=.returned (.tuple #[])∧aA (aT b t ov lg n {x with at_:=av,addr:=((Fr*8+(2+o.n):Nat):Int),ref:=r,w1:=fl (l o.b).k,w2:=fl (l o.b).i,f:=.pointer (some ⟨fb,0,none⟩)} l X) S w5 w')
 rw [hoc] at HCH
 have hjn:(o.b:Int)<(n:Int):=by omega
 simp only [aQ] at*
 unfold Rs.v
 clear h g0 g1 hoc hc hs hr hm1 hk hlr
 go_enter func150,ntmps150
 go_upto_region 1 with fail
 generalize (w.alloc _).alloc _=w1 at*
 go_upto_region 2 with fail
 generalize World.setCell _ _ _=w2 at*
 go_still_tail 9,(by kernel_rfl)
 change wpList _ _ _ _ _ w2.drew
 generalize w2.drew=w3 at*
 go_wp2_with fail
 with_reducible refine HL.out.mono ?_
 rintro e w4 ⟨_,rfl,hgx⟩
 have hg:aA (Sep (Sep (Sep (Sep (aE A c q) (aT b t ov lg n {x with at_:=1,f:=.pointer (some ⟨fb,0,none⟩)} l X)) (dK fb c g' cap' (Fd.found ⟨Fr,o.n,0,-1,false,wrap64 (0+1)⟩ r))) (Var vb #[.int .i64 4,.int .i64 (o.a:Int),.int .i64 (o.b:Int),.int .i64 (o.c:Int),.int .i64 (o.n:Int),.complex .f64 o.z1 o.z2] 27)) (Var rb #[.int .i64 0,.int .i64 0,.int .i64 0,.bool false,.complex .f64 0 0] 41)) S w w4:=hgx
 clear HL hgx g2 c11 f11 d12 k9
 have HE:=zz (hg.l.l.r.is)
 have HER:=zz (find_errno HE.out)
 have d12:=hg.l.l.l.r.cp 12 fb
 clear HE
 go_wp2_with fail
 refine qq HER.out ?_
 clear HER
 go_upto_region 7 with fail
 have hg1:=hg.drew_
 have c13:=hg1.l.l.l.r.ci 13 x.addr
 have f13:=hg1.l.l.l.r.fr 13
 have g2:aA (Sep (Sep (Sep (Sep (aE A c q) (aT b t ov lg n {x with at_:=1,addr:=((Fr*8+(2+o.n):Nat):Int),f:=.pointer (some ⟨fb,0,none⟩)} l X)) (dK fb c g' cap' (Fd.found ⟨Fr,o.n,0,-1,false,wrap64 (0+1)⟩ r))) (Var vb #[.int .i64 4,.int .i64 (o.a:Int),.int .i64 (o.b:Int),.int .i64 (o.c:Int),.int .i64 (o.n:Int),.complex .f64 o.z1 o.z2] 27)) (Var rb #[.int .i64 0,.int .i64 0,.int .i64 0,.bool false,.complex .f64 0 0] 41)) S w _:=hg1.then (aG (aG (aG (aH (fun S h=>(aA.begin h).put 13 (.int .i64 ((Fr*8+(2+o.n):Nat):Int)) (cs':=aM t ov (.slice (some ⟨lg,0,none⟩) n n) {x with at_:=1,addr:=((Fr*8+(2+o.n):Nat):Int),f:=.pointer (some ⟨fb,0,none⟩)}) rfl)))))
 have c14:=g2.l.l.l.r.cb 14 x.ref
 have f14:=g2.l.l.l.r.fr 14
 have g3:aA (Sep (Sep (Sep (Sep (aE A c q) (aT b t ov lg n {x with at_:=1,addr:=((Fr*8+(2+o.n):Nat):Int),ref:=r,f:=.pointer (some ⟨fb,0,none⟩)} l X)) (dK fb c g' cap' (Fd.found ⟨Fr,o.n,0,-1,false,wrap64 (0+1)⟩ r))) (Var vb #[.int .i64 4,.int .i64 (o.a:Int),.int .i64 (o.b:Int),.int .i64 (o.c:Int),.int .i64 (o.n:Int),.complex .f64 o.z1 o.z2] 27)) (Var rb #[.int .i64 0,.int .i64 0,.int .i64 0,.bool false,.complex .f64 0 0] 41)) S w _:=g2.then (aG (aG (aG (aH (fun S h=>(aA.begin h).put 14 (.bool r) (cs':=aM t ov (.slice (some ⟨lg,0,none⟩) n n) {x with at_:=1,addr:=((Fr*8+(2+o.n):Nat):Int),ref:=r,f:=.pointer (some ⟨fb,0,none⟩)}) rfl)))))
 have c11:=g3.l.l.l.r.ci 11 1
 have f11:=g3.l.l.l.r.fr 11
 have g4:aA (Sep (Sep (Sep (Sep (aE A c q) (aT b t ov lg n {x with at_:=2,addr:=((Fr*8+(2+o.n):Nat):Int),ref:=r,f:=.pointer (some ⟨fb,0,none⟩)} l X)) (dK fb c g' cap' (Fd.found ⟨Fr,o.n,0,-1,false,wrap64 (0+1)⟩ r))) (Var vb #[.int .i64 4,.int .i64 (o.a:Int),.int .i64 (o.b:Int),.int .i64 (o.c:Int),.int .i64 (o.n:Int),.complex .f64 o.z1 o.z2] 27)) (Var rb #[.int .i64 0,.int .i64 0,.int .i64 0,.bool false,.complex .f64 0 0] 41)) S w _:=g3.then (aG (aG (aG (aH (fun S h=>(aA.begin h).put 11 (.int .i64 2) (cs':=aM t ov (.slice (some ⟨lg,0,none⟩) n n) {x with at_:=2,addr:=((Fr*8+(2+o.n):Nat):Int),ref:=r,f:=.pointer (some ⟨fb,0,none⟩)}) rfl)))))
 have S1_:=And.intro (hg1.l.l.l.r.cp 12 fb) (And.intro (hg1.l.l.r.ci 19 ((Fr*8+(2+o.n):Nat):Int)) (hg1.l.l.r.cb 20 r))
 have S2_:=And.intro (g2.l.l.l.r.cp 12 fb) (And.intro (g2.l.l.r.ci 19 ((Fr*8+(2+o.n):Nat):Int)) (g2.l.l.r.cb 20 r))
 have S3_:=And.intro (g3.l.l.l.r.cp 12 fb) (And.intro (g3.l.l.r.ci 19 ((Fr*8+(2+o.n):Nat):Int)) (g3.l.l.r.cb 20 r))
 have S4_:=And.intro (g4.l.l.l.r.cp 12 fb) (And.intro (g4.l.l.r.ci 19 ((Fr*8+(2+o.n):Nat):Int)) (g4.l.l.r.cb 20 r))
 have HG:=zz g4
 have h0:(0:Int)≤((Fr*8+(2+o.n):Nat):Int):=by omega
 clear hg hg1 g2 g3 g4 d12
 refine wp_region_held_drew (S:=(fun w'=>w'.cell? ⟨b,12,none⟩=some (.pointer (some ⟨fb,0,none⟩))∧w'.cell? ⟨fb,19,none⟩=some (.int .i64 ((Fr*8+(2+o.n):Nat):Int))∧w'.cell? ⟨fb,20,none⟩=some (.bool r))) (by kernel_rfl) S1_ (fun hHeld=>?_)
 generalize had:((Fr*8+(2+o.n):Nat):Int)=ad at*
 have HAD:=zz had
 clear had
 generalize w4.drew=wd at*
 refine tk 0 ?_
 refine tk 1 ?_
 refine tk 2 ?_
 refine tk 3 ?_
 refine tk 4 ?_
 refine tk 5 ?_
 refine tk 6 ?_
 refine tk 7 ?_
 refine dV (i:=8) (oi:=_) (v:=.int .i64 ad) rfl (by kernel_rfl) (by kernel_rfl) (by kernel_rfl) (fun _ _ _ h=>h) ⟨by rfl,fun w hSw=>⟨_,_,?_,find_atc hSw.2.1⟩⟩ (by assumption) ?_
 · go_simp
 try simp only [Act.put,List.setIfInBounds_toArray,List.set_cons_zero,List.set_cons_succ]
 refine tk 9 ?_
 refine tk 10 ?_
 refine tk 11 ?_
 refine tk 12 ?_
 refine tk 13 ?_
 refine dV (i:=14) (oi:=_) (v:=.bool r) rfl (by kernel_rfl) (by kernel_rfl) (by kernel_rfl) (fun _ _ _ h=>h) ⟨by rfl,fun w hSw=>⟨_,_,?_,find_refc h0 hSw.2.1 hSw.2.2⟩⟩ (by assumption) ?_
 · go_simp
 try simp only [Act.put,List.setIfInBounds_toArray,List.set_cons_zero,List.set_cons_succ]
 refine tk 15 ?_
 refine tk 16 ?_
 refine tk 17 ?_
 refine rdy 18 fun K hK=>?_
 go_simp
 refine hon hK S2_ fun hHeld=>?_
 clear hK K
 refine tk 19 ?_
 refine tk 20 ?_
 refine tk 21 ?_
 refine rdy 22 fun K hK=>?_
 go_simp
 refine hon hK S3_ fun hHeld=>?_
 clear hK K
 refine tk 23 ?_
 refine tk 24 ?_
 refine tk 25 ?_
 refine rdy 26 fun K hK=>?_
 go_simp
 refine hon hK S4_ fun hHeld=>?_
 clear hK K
 refine wpAnyH_done (by kernel_rfl) ?_ _
 clear S1_ S2_ S3_ S4_ hHeld
 generalize World.setCell (World.setCell (World.setCell _ _ _) _ _) _ _=w6 at*
 clear c13 f13 c14 f14 c11 f11 h0
 have o0:=HG.out.l.r.vi 0 4
 go_upto_region 10 with fail
 clear o0
 have hg1:=HG.out.drew_
 have c2:=hg1.l.l.l.r.cC 2 (.slice (some ⟨lg,0,none⟩) n n)
 have c14:=hg1.l.l.l.r.cb 14 r
 have v0:=hg1.l.r.vi 0 4
 have v1:=hg1.l.r.vi 1 (o.a:Int)
 have v2:=hg1.l.r.vi 2 (o.b:Int)
 have v3:=hg1.l.r.vi 3 (o.c:Int)
 have v4:=hg1.l.r.vi 4 (o.n:Int)
 have v5:=hg1.l.r.vC 5 (.complex .f64 o.z1 o.z2)
 have d0:=(dA hg1.l.l.l.r hj).1
 rw [HLR.out] at d0
 have HC2:=zz (hg1.call (bR (bR (bR (cY fun S h=>HCH.out _ S h)))))
 have hne1:(!(r==r))=false:=by cases r<;>rfl
 have hne2:(r==r)=true:=by cases r<;>rfl
 clear HLR HCH HG hg1 hav
 go_still_tail 14,(by kernel_rfl)
 change wpList _ _ _ _ _ w6.drew
 generalize w6.drew=w7 at*
 go_wp2_with fail
 refine qz HC2.out fun w8 hgx=>?_
 clear HC2 v0 v1 v2 v3 v4 v5
 have hg:aA (Sep (Sep (aE A c q) (aT b t ov lg n {x with at_:=av,addr:=ad,ref:=r,w1:=fl (l o.b).k,w2:=fl (l o.b).i,f:=.pointer (some ⟨fb,0,none⟩)} l X)) (Var rb #[.int .i64 0,.int .i64 0,.int .i64 0,.bool false,.complex .f64 0 0] 41)) S w w8:=hgx.drop (aU.both (aU.trans (aU.left _ _) (aU.left _ _)) (aU.refl _))
 clear hgx c2 c14 d0 hne1 hne2 hjn hf
 have q0_:=hg.r.vi 0 0
 have p0_:=hg.r.vf 0
 have q1_:=hg.r.vi 1 0
 have p1_:=hg.r.vf 1
 have q2_:=hg.r.vi 2 0
 have p2_:=hg.r.vf 2
 have q3_:=hg.r.vb 3 false
 have p3_:=hg.r.vf 3
 have q4_:=hg.r.vC 4 (.complex .f64 0 0)
 have p4_:=hg.r.vf 4
 have g8_:=hg.then (aH (fun S h=>(aA.begin h).p5 (.int .i64 (0)) (.int .i64 (0)) (.int .i64 (0)) (.bool (false)) (.complex .f64 0 0)))
 have k0_:=g8_.r.vi 0 (0)
 have k1_:=g8_.r.vi 1 (0)
 have k2_:=g8_.r.vi 2 (0)
 have k3_:=g8_.r.vb 3 (false)
 have k4_:=g8_.r.vC 4 (.complex .f64 0 0)
 have HF:=zz g8_.l
 clear hg g8_
 go_wp2_with fail
 (try rw [aI])
 exact bodyPost_ret (v:=.tuple #[.agg #[.int .i64 (0),.int .i64 (0),.int .i64 (0),.bool (false),.complex .f64 0 0],.bool false]) (by simp [results,results150,go_sem,k0_,k1_,k2_,k3_,k4_]) rfl (by have h9:=HAD.out;subst h9;exact ⟨rfl,HF.out⟩)
end
section
theorem act_plain12 (hk:o.kd=12) (h:(aT b t ov lg n x l X).at_ S w):
 Calls prog 220 #[.pointer (some ⟨b,0,none⟩),.agg (opc o)] w fun e w'=>e=.returned (.tuple #[.agg #[.bool false,.complex .f64 o.z1 o.z2],.bool true])∧aA (aT b t ov lg n x l X) S w w':=by
 have hoc:opc o=#[.int .i64 12,.int .i64 (o.a:Int),.int .i64 (o.b:Int),.int .i64 (o.c:Int),.int .i64 (o.n:Int),.complex .f64 o.z1 o.z2]:=by unfold opc;rw [hk];rfl
 rw [hoc]
 have g0:=((aA.begin h).moreSt (St.fresh #[.int .i64 12,.int .i64 (o.a:Int),.int .i64 (o.b:Int),.int .i64 (o.c:Int),.int .i64 (o.n:Int),.complex .f64 o.z1 o.z2] 27)).moreSt (St.fresh #[.bool false,.complex .f64 0 0] 39)
 rw [World.size_alloc] at g0
 obtain ⟨vb,hvb⟩:∃ k,w.heap.size=k:=⟨_,rfl⟩
 obtain ⟨rb,hrb⟩:∃ k,vb+1=k:=⟨_,rfl⟩
 rw [hvb,hrb] at g0
 have hg:=g0
 clear h g0 hoc hk
 have c2:=hg.l.l.cC 2 (.slice (some ⟨lg,0,none⟩) n n)
 have o0:=hg.l.r.vi 0 12
 have o5:=hg.l.r.vC 5 (.complex .f64 o.z1 o.z2)
 have q0:=hg.r.vb 0 false
 have q1:=hg.r.vC 1 (.complex .f64 0 0)
 have p0:=hg.r.vf 0
 have p1:=hg.r.vf 1
 have g8:=hg.then (aH (fun S h=>((aA.begin h).vput 0 (.bool false) rfl).vput 1 (.complex .f64 o.z1 o.z2) rfl))
 have k0:=g8.r.vb 0 false
 have k1:=g8.r.vC 1 (.complex .f64 o.z1 o.z2)
 have HF:=zz g8.l.l
 clear hg g8
 go_enter func220,ntmps220
 go_upto_region 1 with fail
 generalize (w.alloc _).alloc _=w1 at*
 go_wp2_with fail
 (try rw [aI])
 exact bodyPost_ret (v:=.tuple #[.agg #[.bool false,.complex .f64 o.z1 o.z2],.bool true]) (by simp [results,results220,go_sem,k0,k1]) rfl ⟨rfl,HF.out⟩
theorem act_plain13 (hk:o.kd=13) (h:(aT b t ov lg n x l X).at_ S w):
 Calls prog 220 #[.pointer (some ⟨b,0,none⟩),.agg (opc o)] w fun e w'=>e=.returned (.tuple #[.agg #[.bool true,cJ],.bool true])∧aA (aT b t ov lg n x l X) S w w':=by
 have hoc:opc o=#[.int .i64 13,.int .i64 (o.a:Int),.int .i64 (o.b:Int),.int .i64 (o.c:Int),.int .i64 (o.n:Int),.complex .f64 o.z1 o.z2]:=by unfold opc;rw [hk];rfl
 rw [hoc]
 have g0:=((aA.begin h).moreSt (St.fresh #[.int .i64 13,.int .i64 (o.a:Int),.int .i64 (o.b:Int),.int .i64 (o.c:Int),.int .i64 (o.n:Int),.complex .f64 o.z1 o.z2] 27)).moreSt (St.fresh #[.bool false,.complex .f64 0 0] 39)
 rw [World.size_alloc] at g0
 obtain ⟨vb,hvb⟩:∃ k,w.heap.size=k:=⟨_,rfl⟩
 obtain ⟨rb,hrb⟩:∃ k,vb+1=k:=⟨_,rfl⟩
 rw [hvb,hrb] at g0
 have hg:=g0
 clear h g0 hoc hk
 have c2:=hg.l.l.cC 2 (.slice (some ⟨lg,0,none⟩) n n)
 have o0:=hg.l.r.vi 0 13
 have o5:=hg.l.r.vC 5 (.complex .f64 o.z1 o.z2)
 have q0:=hg.r.vb 0 false
 have q1:=hg.r.vC 1 (.complex .f64 0 0)
 have p0:=hg.r.vf 0
 have p1:=hg.r.vf 1
 have g8:=hg.then (aH (fun S h=>((aA.begin h).vput 0 (.bool true) rfl).vput 1 cJ rfl))
 have k0:=g8.r.vb 0 true
 have k1:=g8.r.vC 1 cJ
 have HF:=zz g8.l.l
 clear hg g8
 have HN:=zz fun w=>fE w
 unfold cJ at*
 go_enter func220,ntmps220
 go_upto_region 1 with fail
 generalize (w.alloc _).alloc _=w1 at*
 go_wp2_with fail
 refine qq (HN.out _) ?_
 clear HN
 go_wp2_with fail
 (try rw [aI])
 exact bodyPost_ret (v:=.tuple #[.agg #[.bool true,.complex .f64 0 4607182418800017408],.bool true]) (by simp [results,results220,go_sem,k0,k1]) rfl ⟨rfl,HF.out⟩
theorem act_plainN (hK:(o.kd:Int)=K) (hk:K=1∨K=3∨K=4∨K=7∨K=8∨K=11) (h:(aT b t ov lg n x l X).at_ S w):
 Calls prog 220 #[.pointer (some ⟨b,0,none⟩),.agg (opc o)] w fun e w'=>e=.returned (.tuple #[.agg #[.bool false,.complex .f64 0 0],.bool false])∧aA (aT b t ov lg n x l X) S w w':=by
 have hoc:opc o=#[.int .i64 K,.int .i64 (o.a:Int),.int .i64 (o.b:Int),.int .i64 (o.c:Int),.int .i64 (o.n:Int),.complex .f64 o.z1 o.z2]:=by unfold opc;rw [hK]
 rw [hoc]
 have g0:=((aA.begin h).moreSt (St.fresh #[.int .i64 K,.int .i64 (o.a:Int),.int .i64 (o.b:Int),.int .i64 (o.c:Int),.int .i64 (o.n:Int),.complex .f64 o.z1 o.z2] 27)).moreSt (St.fresh #[.bool false,.complex .f64 0 0] 39)
 rw [World.size_alloc] at g0
 obtain ⟨vb,hvb⟩:∃ k,w.heap.size=k:=⟨_,rfl⟩
 obtain ⟨rb,hrb⟩:∃ k,vb+1=k:=⟨_,rfl⟩
 rw [hvb,hrb] at g0
 have hg:=g0
 clear h g0 hoc hK
 have c2:=hg.l.l.cC 2 (.slice (some ⟨lg,0,none⟩) n n)
 have o0:=hg.l.r.vi 0 K
 have o5:=hg.l.r.vC 5 (.complex .f64 o.z1 o.z2)
 have q0:=hg.r.vb 0 false
 have q1:=hg.r.vC 1 (.complex .f64 0 0)
 have p0:=hg.r.vf 0
 have p1:=hg.r.vf 1
 have g8:=hg.then (aH (fun S h=>((aA.begin h).vput 0 (.bool false) rfl).vput 1 (.complex .f64 0 0) rfl))
 have k0:=g8.r.vb 0 false
 have k1:=g8.r.vC 1 (.complex .f64 0 0)
 have HF:=zz g8.l.l
 clear hg g8
 rcases hk with rfl|rfl|rfl|rfl|rfl|rfl<;>(
  go_enter func220,ntmps220
  go_upto_region 1 with fail
  generalize (w.alloc _).alloc _=w1 at*
  go_wp2_with fail
  (try rw [aI])
  exact bodyPost_ret (v:=.tuple #[.agg #[.bool false,.complex .f64 0 0],.bool false]) (by simp [results,results220,go_sem,k0,k1]) rfl ⟨rfl,HF.out⟩)
end
section
theorem val_index_nil (caps:Array Value) (f:Nat) (h:O.at_ S w):
 Calls prog 314 #[.slice none 0 0,.func (.func f) #[] caps] w fun e w'=>e=.returned (.int .i64 (-1))∧aA O S w w':=by
 have HH:=zz h
 clear h
 go_enter func314,ntmps314
 go_wp2_with fail
 go_loopw [5,8] (fun u i wr=>i=.int .i64 0∧aA O S w wr) (fun _ _ _=>0)
 case atStart=>exact ⟨rfl,aA.same HH.out⟩
 case round=>
  obtain ⟨rfl,hb⟩:=hrel
  go_wp2_with fail
  go_ret
  exact ⟨rfl,hb⟩
theorem val_has_nil (caps:Array Value) (f:Nat) (h:O.at_ S w):
 Calls prog 271 #[.slice none 0 0,.func (.func f) #[] caps] w fun e w'=>e=.returned (.bool false)∧aA O S w w':=by
 have HI:=zz (val_index_nil caps f h)
 clear h
 go_enter func271,ntmps271
 go_wp2_with fail
 refine qz (HI.out) fun w' hb=>?_
 go_wp2_with fail
 go_ret
 exact ⟨rfl,hb⟩
theorem val_index_one1 (p:Value) (h:O.at_ S w) (hc:∀ w',aA O S w w'→w'.cell? ⟨g,0,none⟩=some (.bool a)∧w'.cell? ⟨g,1,none⟩=some (.complex .f64 z1 z2))
 (hF:∀ w',aA O S w w'→Calls prog 272 #[.agg #[.bool a,.complex .f64 z1 z2],p] w' fun e w2=>e=.returned (.bool r)∧aA O S w w2):
 Calls prog 314 #[.slice (some ⟨g,0,none⟩) 1 1,.func (.func 272) #[] #[p]] w fun e w'=>e=.returned (.int .i64 (if r then 0 else -1))∧aA O S w w':=by
 have HH:=zz h
 have HC:=zz hc
 have HF:=zz hF
 clear h hc hF
 go_enter func314,ntmps314
 go_wp2_with fail
 go_loopw [5,8] (fun u i wr=>(i=.int .i64 0∨i=.int .i64 1∧r=false)∧aA O S w wr) (fun _ i _=>1-(intOf i).toNat)
 case atStart=>exact ⟨.inl rfl,aA.same HH.out⟩
 case round=>
  obtain ⟨hi,hb⟩:=hrel
  rcases hi with rfl|⟨rfl,rfl⟩
  · obtain ⟨c0,c1⟩:=HC.out _ hb
    have HB:=zz hb
    clear hb
    go_wp2_with fail
    refine qz (HF.out _ HB.out) fun w3 hb=>?_
    clear HB
    cases r with
    | true=>
     go_wp2_with fail
     go_ret
     exact ⟨rfl,hb⟩
    | false=>
     go_wp2_with fail
     go_round
     case rel=>exact ⟨.inr ⟨rfl,trivial⟩,hb⟩
     case measure=>decide
  · go_wp2_with fail
    go_ret
    exact ⟨rfl,hb⟩
theorem gP (p:Value) (h:O.at_ S w) (hc:∀ w',aA O S w w'→w'.cell? ⟨g,0,none⟩=some (.bool a)∧w'.cell? ⟨g,1,none⟩=some (.complex .f64 z1 z2))
 (hF:∀ w',aA O S w w'→Calls prog 272 #[.agg #[.bool a,.complex .f64 z1 z2],p] w' fun e w2=>e=.returned (.bool r)∧aA O S w w2):
 Calls prog 271 #[.slice (some ⟨g,0,none⟩) 1 1,.func (.func 272) #[] #[p]] w fun e w'=>e=.returned (.bool r)∧aA O S w w':=by
 have HI:=zz (val_index_one1 p h hc hF)
 clear h hc hF
 cases r with
 | true=>
  go_enter func271,ntmps271
  go_wp2_with fail
  refine qz (HI.out) fun w' hb=>?_
  go_wp2_with fail
  go_ret
  exact ⟨rfl,hb⟩
 | false=>
  go_enter func271,ntmps271
  go_wp2_with fail
  refine qz (HI.out) fun w' hb=>?_
  go_wp2_with fail
  go_ret
  exact ⟨rfl,hb⟩
theorem val_index_one0 (h:O.at_ S w) (hc:∀ w',aA O S w w'→w'.cell? ⟨g,0,none⟩=some (.bool a)∧w'.cell? ⟨g,1,none⟩=some (.complex .f64 z1 z2))
 (hF:∀ w',aA O S w w'→Calls prog 273 #[.agg #[.bool a,.complex .f64 z1 z2]] w' fun e w2=>e=.returned (.bool r)∧aA O S w w2):
 Calls prog 314 #[.slice (some ⟨g,0,none⟩) 1 1,.func (.func 273) #[] #[]] w fun e w'=>e=.returned (.int .i64 (if r then 0 else -1))∧aA O S w w':=by
 have HH:=zz h
 have HC:=zz hc
 have HF:=zz hF
 clear h hc hF
 go_enter func314,ntmps314
 go_wp2_with fail
 go_loopw [5,8] (fun u i wr=>(i=.int .i64 0∨i=.int .i64 1∧r=false)∧aA O S w wr) (fun _ i _=>1-(intOf i).toNat)
 case atStart=>exact ⟨.inl rfl,aA.same HH.out⟩
 case round=>
  obtain ⟨hi,hb⟩:=hrel
  rcases hi with rfl|⟨rfl,rfl⟩
  · obtain ⟨c0,c1⟩:=HC.out _ hb
    have HB:=zz hb
    clear hb
    go_wp2_with fail
    refine qz (HF.out _ HB.out) fun w3 hb=>?_
    clear HB
    cases r with
    | true=>
     go_wp2_with fail
     go_ret
     exact ⟨rfl,hb⟩
    | false=>
     go_wp2_with fail
     go_round
     case rel=>exact ⟨.inr ⟨rfl,trivial⟩,hb⟩
     case measure=>decide
  · go_wp2_with fail
    go_ret
    exact ⟨rfl,hb⟩
theorem gQ (h:O.at_ S w) (hc:∀ w',aA O S w w'→w'.cell? ⟨g,0,none⟩=some (.bool a)∧w'.cell? ⟨g,1,none⟩=some (.complex .f64 z1 z2))
 (hF:∀ w',aA O S w w'→Calls prog 273 #[.agg #[.bool a,.complex .f64 z1 z2]] w' fun e w2=>e=.returned (.bool r)∧aA O S w w2):
 Calls prog 271 #[.slice (some ⟨g,0,none⟩) 1 1,.func (.func 273) #[] #[]] w fun e w'=>e=.returned (.bool r)∧aA O S w w':=by
 have HI:=zz (val_index_one0 h hc hF)
 clear h hc hF
 cases r with
 | true=>
  go_enter func271,ntmps271
  go_wp2_with fail
  refine qz (HI.out) fun w' hb=>?_
  go_wp2_with fail
  go_ret
  exact ⟨rfl,hb⟩
 | false=>
  go_enter func271,ntmps271
  go_wp2_with fail
  refine qz (HI.out) fun w' hb=>?_
  go_wp2_with fail
  go_ret
  exact ⟨rfl,hb⟩
theorem ops1 {t:Bool} (h:O.at_ S w) (ht:∀ w',aA O S w w'→w'.cell? ⟨tb,0,none⟩=some (.bool t)):
 Calls prog 272 #[.agg #[.bool r,.complex .f64 z1 z2],.pointer (some ⟨tb,0,none⟩)] w fun e w'=>e=.returned (.bool (!(r==t)))∧aA O S w w':=by
 have g1:=(aA.begin h).moreSt (St.fresh #[.bool r,.complex .f64 z1 z2] 39)
 obtain ⟨vb,hvb⟩:∃ k,w.heap.size=k:=⟨_,rfl⟩
 rw [hvb] at g1
 have v0:=g1.r.vb 0 r
 have t0:=ht _ g1.l
 have HG:=zz g1.l
 clear h ht g1
 go_enter func272,ntmps272
 go_upto_region 1 with fail
 generalize w.alloc _=w1 at*
 go_wp2_with fail
 go_ret
 exact ⟨rfl,HG.out⟩
theorem ops2 (hk:k≤63) (hi:i≤63) (h:O.at_ S w):
 Calls prog 273 #[.agg #[.bool r,cx k i]] w fun e w'=>e=.returned (.bool (k==0&&i==1))∧aA O S w w':=by
 have g1:=(aA.begin h).moreSt (St.fresh #[.bool r,cx k i] 39)
 obtain ⟨vb,hvb⟩:∃ k,w.heap.size=k:=⟨_,rfl⟩
 rw [hvb] at g1
 have v1:=g1.drew_.r.vC 1 (cx k i)
 have HG:=zz g1.drew_.l
 have HS:=zz fun w=>iP k i 0 1 w hk hi (by omega) (by omega)
 have HN:=zz fun w=>fE w
 clear h g1 hk hi
 unfold cJ cx at*
 go_enter func273,ntmps273
 go_upto_region 1 with fail
 generalize w.alloc _=w1 at*
 go_still_tail 4,(by kernel_rfl)
 still_call (HN.out _).mono fun e w' ⟨h1,h2⟩=>⟨h1,h2.symm⟩
 still_call (HS.out _).mono fun e w' ⟨h1,h2⟩=>⟨h1,h2.symm⟩
 repeat still_step
 refine wpStill_nil ?_
 go_wp2_with fail
 go_ret
 exact ⟨rfl,HG.out⟩
end
def opE (v:Lc):Int:=if v.ref then (if v.k==0&&v.i==1 then 3 else 0) else 4
section
theorem eR (hK:(o.kd:Int)=K) (hk:K=1∨K=7∨K=12∨K=13) (h:(aT b t ov lg n x l X).at_ S w):
 Calls prog 219 #[.pointer (some ⟨b,0,none⟩),.agg (opc o)] w fun e w'=>e=.returned (.int .i64 0)∧aA (aT b t ov lg n x l X) S w w':=by
 have hoc:opc o=#[.int .i64 K,.int .i64 (o.a:Int),.int .i64 (o.b:Int),.int .i64 (o.c:Int),.int .i64 (o.n:Int),.complex .f64 o.z1 o.z2]:=by unfold opc;rw [hK]
 rw [hoc]
 have ga:=(aA.begin h).moreSt (St.fresh #[.int .i64 K,.int .i64 (o.a:Int),.int .i64 (o.b:Int),.int .i64 (o.c:Int),.int .i64 (o.n:Int),.complex .f64 o.z1 o.z2] 27)
 have c2a:=ga.l.cC 2 (.slice (some ⟨lg,0,none⟩) n n)
 clear ga
 have g0:=((aA.begin h).moreSt (St.fresh #[.int .i64 K,.int .i64 (o.a:Int),.int .i64 (o.b:Int),.int .i64 (o.c:Int),.int .i64 (o.n:Int),.complex .f64 o.z1 o.z2] 27)).moreSt (St.fresh #[.bool true] 4)
 rw [World.size_alloc] at g0
 obtain ⟨vb,hvb⟩:∃ k,w.heap.size=k:=⟨_,rfl⟩
 obtain ⟨tb,htb⟩:∃ k,vb+1=k:=⟨_,rfl⟩
 rw [hvb,htb] at g0
 have c2:=g0.l.l.cC 2 (.slice (some ⟨lg,0,none⟩) n n)
 have o0:=g0.l.r.vi 0 K
 have t0:=g0.r.vb 0 true
 have HH:=zz (g0.call (fun S h=>val_has_nil #[.pointer (some ⟨tb,0,none⟩)] 272 h))
 have HH2:=zz (fun w w' (g:aA (Sep (Sep (aT b t ov lg n x l X) (Var vb #[.int .i64 K,.int .i64 (o.a:Int),.int .i64 (o.b:Int),.int .i64 (o.c:Int),.int .i64 (o.n:Int),.complex .f64 o.z1 o.z2] 27)) (Var tb #[.bool true] 4)) S w w')=>g.call (fun S h=>val_has_nil #[] 273 h))
 clear h g0 hoc hK
 rcases hk with rfl|rfl|rfl|rfl<;>(
  go_enter func219,ntmps219
  go_upto_region 4 with fail
  generalize (w.alloc _).alloc _=w1 at*
  go_wp2_with fail
  refine qz HH.out fun w2 hg=>?_
  have HC:=zz (HH2.out _ _ hg)
  clear HH HH2 hg c2 o0 t0 c2a
  go_wp2_with fail
  refine qz HC.out fun w3 hg=>?_
  clear HC
  go_wp2_with fail
  go_ret
  exact ⟨rfl,hg.l.l⟩)
theorem jP (hK:(o.kd:Int)=K) (hk:K=3∨K=11) (hjo:o.b=j) (hj:j<n) (hs:(l j).k≤63∧(l j).i≤63) (h:(aT b t ov lg n x l X).at_ S w):
 Calls prog 219 #[.pointer (some ⟨b,0,none⟩),.agg (opc o)] w fun e w'=>e=.returned (.int .i64 (opE (l j)))∧aA (aT b t ov lg n x l X) S w w':=by
 have hoc:opc o=#[.int .i64 K,.int .i64 (o.a:Int),.int .i64 (j:Int),.int .i64 (o.c:Int),.int .i64 (o.n:Int),.complex .f64 o.z1 o.z2]:=by unfold opc;rw [hK,hjo]
 rw [hoc]
 have ga:=(aA.begin h).moreSt (St.fresh #[.int .i64 K,.int .i64 (o.a:Int),.int .i64 (j:Int),.int .i64 (o.c:Int),.int .i64 (o.n:Int),.complex .f64 o.z1 o.z2] 27)
 have c2a:=ga.l.cC 2 (.slice (some ⟨lg,0,none⟩) n n)
 clear ga
 have g0:=((aA.begin h).moreSt (St.fresh #[.int .i64 K,.int .i64 (o.a:Int),.int .i64 (j:Int),.int .i64 (o.c:Int),.int .i64 (o.n:Int),.complex .f64 o.z1 o.z2] 27)).moreSt (St.fresh #[.bool true] 4)
 rw [World.size_alloc] at g0
 obtain ⟨vb,hvb⟩:∃ k,w.heap.size=k:=⟨_,rfl⟩
 obtain ⟨tb,htb⟩:∃ k,vb+1=k:=⟨_,rfl⟩
 rw [hvb,htb] at g0
 have c2:=g0.l.l.cC 2 (.slice (some ⟨lg,0,none⟩) n n)
 have o0:=g0.l.r.vi 0 K
 have o1:=g0.l.r.vi 2 (j:Int)
 have t0:=g0.r.vb 0 true
 obtain ⟨d0,d1⟩:=dA g0.l.l hj
 have hjn:(j:Int)<(n:Int):=by omega
 have gn:=g0.moreSt (St.fresh #[.bool (l j).ref,cx (l j).k (l j).i] 39)
 obtain ⟨g,hsz⟩:∃ k,((w.alloc (.cells #[.int .i64 K,.int .i64 (o.a:Int),.int .i64 (j:Int),.int .i64 (o.c:Int),.int .i64 (o.n:Int),.complex .f64 o.z1 o.z2] 27)).alloc (.cells #[.bool true] 4)).heap.size=k:=⟨_,rfl⟩
 rw [hsz] at gn
 have e1:∀ w',aA (Sep (Sep (Sep (aT b t ov lg n x l X) (Var vb #[.int .i64 K,.int .i64 (o.a:Int),.int .i64 (j:Int),.int .i64 (o.c:Int),.int .i64 (o.n:Int),.complex .f64 o.z1 o.z2] 27)) (Var tb #[.bool true] 4)) (Var g #[.bool (l j).ref,cx (l j).k (l j).i] 39)) S w w'→w'.cell? ⟨g,0,none⟩=some (.bool (l j).ref)∧w'.cell? ⟨g,1,none⟩=some (cx (l j).k (l j).i):=fun w' h=>⟨h.r.vc 0 rfl,h.r.vc 1 rfl⟩
 have HF:=zz (gn.call fun S' h=>gP (g:=g) (a:=(l j).ref) (z1:=fl (l j).k) (z2:=fl (l j).i) (r:=!((l j).ref==true)) (.pointer (some ⟨tb,0,none⟩)) h (fun w' h=>⟨h.r.vc 0 rfl,h.r.vc 1 rfl⟩) (fun w' hw=>hw.call fun S2 h2=>ops1 h2 fun w' h=>h.l.r.vc 0 rfl))
 have HH2:=zz (fun w w' (gg:aA (Sep (Sep (Sep (aT b t ov lg n x l X) (Var vb #[.int .i64 K,.int .i64 (o.a:Int),.int .i64 (j:Int),.int .i64 (o.c:Int),.int .i64 (o.n:Int),.complex .f64 o.z1 o.z2] 27)) (Var tb #[.bool true] 4)) (Var g #[.bool (l j).ref,cx (l j).k (l j).i] 39)) S w w')=>gg.call fun S' h=>gQ (g:=g) (a:=(l j).ref) (z1:=fl (l j).k) (z2:=fl (l j).i) (r:=((l j).k==0&&(l j).i==1)) h (fun w' h=>⟨h.r.vc 0 rfl,h.r.vc 1 rfl⟩) (fun w' hw=>hw.call fun S2 h2=>ops2 hs.1 hs.2 h2))
 clear h g0 hoc hK e1 gn hs hjo
 unfold cx opE at*
 generalize ((l j).k==0&&(l j).i==1)=bb at*
 generalize (l j).ref=rr at*
 generalize fl (l j).k=y1 at*
 generalize fl (l j).i=y2 at*
 rcases hk with rfl|rfl<;>(
  go_enter func219,ntmps219
  go_upto_region 4 with fail
  generalize (w.alloc _).alloc _=w1 at*
  go_wp2_with fail
  refine qz HF.out fun w3 hg=>?_
  have HG:=zz hg
  cases rr with
  | false=>
   clear HF HH2 hg c2 o0 o1 t0 c2a d0 d1
   go_wp2_with fail
   go_ret
   exact ⟨rfl,HG.out.l.l.l⟩
  | true=>
   clear HF hg c2 o0 o1 t0 c2a d0 d1
   have HC:=zz (HH2.out _ _ HG.out)
   clear HH2 HG
   go_wp2_with fail
   refine qz HC.out fun w4 hg=>?_
   clear HC
   cases bb with
   | true=>
    go_wp2_with fail
    go_ret
    exact ⟨rfl,hg.l.l.l⟩
   | false=>
    go_wp2_with fail
    go_ret
    exact ⟨rfl,hg.l.l.l⟩)
theorem act_operands4 (hk:o.kd=4) (hjo:o.a=j) (hj:j<n) (hs:(l j).k≤63∧(l j).i≤63) (h:(aT b t ov lg n x l X).at_ S w):
 Calls prog 219 #[.pointer (some ⟨b,0,none⟩),.agg (opc o)] w fun e w'=>e=.returned (.int .i64 (opE (l j)))∧aA (aT b t ov lg n x l X) S w w':=by
 have hoc:opc o=#[.int .i64 4,.int .i64 (j:Int),.int .i64 (o.b:Int),.int .i64 (o.c:Int),.int .i64 (o.n:Int),.complex .f64 o.z1 o.z2]:=by unfold opc;rw [hk,hjo];rfl
 rw [hoc]
 have ga:=(aA.begin h).moreSt (St.fresh #[.int .i64 4,.int .i64 (j:Int),.int .i64 (o.b:Int),.int .i64 (o.c:Int),.int .i64 (o.n:Int),.complex .f64 o.z1 o.z2] 27)
 have c2a:=ga.l.cC 2 (.slice (some ⟨lg,0,none⟩) n n)
 clear ga
 have g0:=((aA.begin h).moreSt (St.fresh #[.int .i64 4,.int .i64 (j:Int),.int .i64 (o.b:Int),.int .i64 (o.c:Int),.int .i64 (o.n:Int),.complex .f64 o.z1 o.z2] 27)).moreSt (St.fresh #[.bool true] 4)
 rw [World.size_alloc] at g0
 obtain ⟨vb,hvb⟩:∃ k,w.heap.size=k:=⟨_,rfl⟩
 obtain ⟨tb,htb⟩:∃ k,vb+1=k:=⟨_,rfl⟩
 rw [hvb,htb] at g0
 have c2:=g0.l.l.cC 2 (.slice (some ⟨lg,0,none⟩) n n)
 have o0:=g0.l.r.vi 0 4
 have o1:=g0.l.r.vi 1 (j:Int)
 have t0:=g0.r.vb 0 true
 obtain ⟨d0,d1⟩:=dA g0.l.l hj
 have hjn:(j:Int)<(n:Int):=by omega
 have gn:=g0.moreSt (St.fresh #[.bool (l j).ref,cx (l j).k (l j).i] 39)
 obtain ⟨g,hsz⟩:∃ k,((w.alloc (.cells #[.int .i64 4,.int .i64 (j:Int),.int .i64 (o.b:Int),.int .i64 (o.c:Int),.int .i64 (o.n:Int),.complex .f64 o.z1 o.z2] 27)).alloc (.cells #[.bool true] 4)).heap.size=k:=⟨_,rfl⟩
 rw [hsz] at gn
 have e1:∀ w',aA (Sep (Sep (Sep (aT b t ov lg n x l X) (Var vb #[.int .i64 4,.int .i64 (j:Int),.int .i64 (o.b:Int),.int .i64 (o.c:Int),.int .i64 (o.n:Int),.complex .f64 o.z1 o.z2] 27)) (Var tb #[.bool true] 4)) (Var g #[.bool (l j).ref,cx (l j).k (l j).i] 39)) S w w'→w'.cell? ⟨g,0,none⟩=some (.bool (l j).ref)∧w'.cell? ⟨g,1,none⟩=some (cx (l j).k (l j).i):=fun w' h=>⟨h.r.vc 0 rfl,h.r.vc 1 rfl⟩
 have HF:=zz (gn.call fun S' h=>gP (g:=g) (a:=(l j).ref) (z1:=fl (l j).k) (z2:=fl (l j).i) (r:=!((l j).ref==true)) (.pointer (some ⟨tb,0,none⟩)) h (fun w' h=>⟨h.r.vc 0 rfl,h.r.vc 1 rfl⟩) (fun w' hw=>hw.call fun S2 h2=>ops1 h2 fun w' h=>h.l.r.vc 0 rfl))
 have HH2:=zz (fun w w' (gg:aA (Sep (Sep (Sep (aT b t ov lg n x l X) (Var vb #[.int .i64 4,.int .i64 (j:Int),.int .i64 (o.b:Int),.int .i64 (o.c:Int),.int .i64 (o.n:Int),.complex .f64 o.z1 o.z2] 27)) (Var tb #[.bool true] 4)) (Var g #[.bool (l j).ref,cx (l j).k (l j).i] 39)) S w w')=>gg.call fun S' h=>gQ (g:=g) (a:=(l j).ref) (z1:=fl (l j).k) (z2:=fl (l j).i) (r:=((l j).k==0&&(l j).i==1)) h (fun w' h=>⟨h.r.vc 0 rfl,h.r.vc 1 rfl⟩) (fun w' hw=>hw.call fun S2 h2=>ops2 hs.1 hs.2 h2))
 clear h g0 hoc hk e1 gn hs hjo
 unfold cx opE at*
 generalize ((l j).k==0&&(l j).i==1)=bb at*
 generalize (l j).ref=rr at*
 generalize fl (l j).k=y1 at*
 generalize fl (l j).i=y2 at*
 go_enter func219,ntmps219
 go_upto_region 4 with fail
 generalize (w.alloc _).alloc _=w1 at*
 go_wp2_with fail
 refine qz HF.out fun w3 hg=>?_
 have HG:=zz hg
 cases rr with
 | false=>
  clear HF HH2 hg c2 o0 o1 t0 c2a d0 d1
  go_wp2_with fail
  go_ret
  exact ⟨rfl,HG.out.l.l.l⟩
 | true=>
  clear HF hg c2 o0 o1 t0 c2a d0 d1
  have HC:=zz (HH2.out _ _ HG.out)
  clear HH2 HG
  go_wp2_with fail
  refine qz HC.out fun w4 hg=>?_
  clear HC
  cases bb with
  | true=>
   go_wp2_with fail
   go_ret
   exact ⟨rfl,hg.l.l.l⟩
  | false=>
   go_wp2_with fail
   go_ret
   exact ⟨rfl,hg.l.l.l⟩
theorem act_operands8 (hk:o.kd=8) (hjo:o.b=j) (hj:j<n) (hs:(l j).k≤63∧(l j).i≤63) (h:(aT b t ov lg n x l X).at_ S w):
 Calls prog 219 #[.pointer (some ⟨b,0,none⟩),.agg (opc o)] w fun e w'=>e=.returned (.int .i64 ((if (l j).ref then 0 else 4)))∧aA (aT b t ov lg n x l X) S w w':=by
 have hoc:opc o=#[.int .i64 8,.int .i64 (o.a:Int),.int .i64 (j:Int),.int .i64 (o.c:Int),.int .i64 (o.n:Int),.complex .f64 o.z1 o.z2]:=by unfold opc;rw [hk,hjo];rfl
 rw [hoc]
 have ga:=(aA.begin h).moreSt (St.fresh #[.int .i64 8,.int .i64 (o.a:Int),.int .i64 (j:Int),.int .i64 (o.c:Int),.int .i64 (o.n:Int),.complex .f64 o.z1 o.z2] 27)
 have c2a:=ga.l.cC 2 (.slice (some ⟨lg,0,none⟩) n n)
 clear ga
 have g0:=((aA.begin h).moreSt (St.fresh #[.int .i64 8,.int .i64 (o.a:Int),.int .i64 (j:Int),.int .i64 (o.c:Int),.int .i64 (o.n:Int),.complex .f64 o.z1 o.z2] 27)).moreSt (St.fresh #[.bool true] 4)
 rw [World.size_alloc] at g0
 obtain ⟨vb,hvb⟩:∃ k,w.heap.size=k:=⟨_,rfl⟩
 obtain ⟨tb,htb⟩:∃ k,vb+1=k:=⟨_,rfl⟩
 rw [hvb,htb] at g0
 have c2:=g0.l.l.cC 2 (.slice (some ⟨lg,0,none⟩) n n)
 have o0:=g0.l.r.vi 0 8
 have o1:=g0.l.r.vi 2 (j:Int)
 have t0:=g0.r.vb 0 true
 obtain ⟨d0,d1⟩:=dA g0.l.l hj
 have hjn:(j:Int)<(n:Int):=by omega
 have gn:=g0.moreSt (St.fresh #[.bool (l j).ref,cx (l j).k (l j).i] 39)
 obtain ⟨g,hsz⟩:∃ k,((w.alloc (.cells #[.int .i64 8,.int .i64 (o.a:Int),.int .i64 (j:Int),.int .i64 (o.c:Int),.int .i64 (o.n:Int),.complex .f64 o.z1 o.z2] 27)).alloc (.cells #[.bool true] 4)).heap.size=k:=⟨_,rfl⟩
 rw [hsz] at gn
 have e1:∀ w',aA (Sep (Sep (Sep (aT b t ov lg n x l X) (Var vb #[.int .i64 8,.int .i64 (o.a:Int),.int .i64 (j:Int),.int .i64 (o.c:Int),.int .i64 (o.n:Int),.complex .f64 o.z1 o.z2] 27)) (Var tb #[.bool true] 4)) (Var g #[.bool (l j).ref,cx (l j).k (l j).i] 39)) S w w'→w'.cell? ⟨g,0,none⟩=some (.bool (l j).ref)∧w'.cell? ⟨g,1,none⟩=some (cx (l j).k (l j).i):=fun w' h=>⟨h.r.vc 0 rfl,h.r.vc 1 rfl⟩
 have HF:=zz (gn.call fun S' h=>gP (g:=g) (a:=(l j).ref) (z1:=fl (l j).k) (z2:=fl (l j).i) (r:=!((l j).ref==true)) (.pointer (some ⟨tb,0,none⟩)) h (fun w' h=>⟨h.r.vc 0 rfl,h.r.vc 1 rfl⟩) (fun w' hw=>hw.call fun S2 h2=>ops1 h2 fun w' h=>h.l.r.vc 0 rfl))
 have HH2:=zz (fun w w' (gg:aA (Sep (Sep (Sep (aT b t ov lg n x l X) (Var vb #[.int .i64 8,.int .i64 (o.a:Int),.int .i64 (j:Int),.int .i64 (o.c:Int),.int .i64 (o.n:Int),.complex .f64 o.z1 o.z2] 27)) (Var tb #[.bool true] 4)) (Var g #[.bool (l j).ref,cx (l j).k (l j).i] 39)) S w w')=>gg.call fun S' h=>gQ (g:=g) (a:=(l j).ref) (z1:=fl (l j).k) (z2:=fl (l j).i) (r:=((l j).k==0&&(l j).i==1)) h (fun w' h=>⟨h.r.vc 0 rfl,h.r.vc 1 rfl⟩) (fun w' hw=>hw.call fun S2 h2=>ops2 hs.1 hs.2 h2))
 clear h g0 hoc hk e1 gn hs hjo
 unfold cx at*
 generalize (l j).ref=rr at*
 generalize fl (l j).k=y1 at*
 generalize fl (l j).i=y2 at*
 go_enter func219,ntmps219
 go_upto_region 4 with fail
 generalize (w.alloc _).alloc _=w1 at*
 go_wp2_with fail
 refine qz HF.out fun w3 hg=>?_
 have HG:=zz hg
 cases rr with
 | false=>
  clear HF HH2 hg c2 o0 o1 t0 c2a d0 d1
  go_wp2_with fail
  go_ret
  exact ⟨rfl,HG.out.l.l.l⟩
 | true=>
  clear HF HH2 hg c2 o0 o1 t0 c2a d0 d1
  go_wp2_with fail
  go_ret
  exact ⟨rfl,HG.out.l.l.l⟩
end
end Go.Proofs.YtgcmiahhkalfmaaGreat
