import Derived.Test.YtgcmiahhkalfmaaGreatM34
set_option maxRecDepth 100000
set_option maxHeartbeats 8000000
set_option linter.unusedVariables false
set_option linter.unusedSimpArgs false
namespace Go.Proofs.YtgcmiahhkalfmaaGreat
attribute [local go_sem] aF aI aO aV
open Go.Proofs.Tryz
open Go.RowKit
variable {args:Array Value} {r:Bool} {A:CA} {c:Cf} {f:FuncId} {a steps x:Int} {ll:List Bool} {Fr b bt cap' fb g' hb k lg n t yb:Nat} {l:Nat→Lc} {no:Nat→Nat} {sc:Nat→Nat→Opn} {S:Nat→Prop} {p:Nat→Sw.T} {fa:Nat→TA} {m:Nat→Value} {o:OpR} {P:Program} {g:Sw.Gr} {q q':Sw.Q} {rs:Sw.Rs} {p':Sw.T} {y y':Sw.Y} {A' B' X:aC} {lv ov sv v v':Value} {W w w' w1:World}
section
variable {α:Type} {R:α→Ending→Prop} {Y:aC}
theorem aN.lY {O1 Y':α→aC} (h:aN P f args w (Sep A' Y) R (fun x=>Sep (O1 x) (Y' x))):aN P f args w (Sep (Sep A' B') Y) R (fun x=>Sep (Sep (O1 x) B') (Y' x)):=
 aN.conv (R2:=R) (h.l (B:=B')) (fun S w h=>aB.rot h) fun y e he=>⟨y,he,fun S w h=>aB.rot h⟩
theorem aN.rY {O1 Y':α→aC} (h:aN P f args w (Sep A' Y) R (fun x=>Sep (O1 x) (Y' x))):aN P f args w (Sep (Sep B' A') Y) R (fun x=>Sep (Sep B' (O1 x)) (Y' x)):=
 aN.conv (R2:=R) (h.r (B:=B')) (fun S w h=>aB.assoc h) fun y e he=>⟨y,he,fun S w h=>aB.assoc' h⟩
end
section
variable {x:Tc}
theorem find_atc (c19:w.cell? ⟨fb,19,none⟩=some (.int .i64 a)):Calls prog 230 #[.pointer (some ⟨fb,0,none⟩)] w fun e w'=>e=.returned (.int .i64 a)∧w=w':=by
 go_enter func230,ntmps230
 go_wp2_with fail
 go_ret
 exact ⟨rfl,rfl⟩
theorem find_refc (h0:0≤a) (c19:w.cell? ⟨fb,19,none⟩=some (.int .i64 a)) (c20:w.cell? ⟨fb,20,none⟩=some (.bool r)):Calls prog 231 #[.pointer (some ⟨fb,0,none⟩)] w fun e w'=>e=.returned (.bool r)∧w=w':=by
 go_enter func231,ntmps231
 go_wp2_with fail
 go_ret
 exact ⟨rfl,rfl⟩
theorem find_stepC (hc:c.ok) (hFr:Fr<c.frags) (hs:c.shapes[0]? = some (false,ll)) (hk:ll[k]? = some r) (hm1:q.m (Fr*8+1)=⟨0,1⟩) (w:World):
 aN prog 228 #[.pointer (some ⟨fb,0,none⟩),.pointer (some ⟨A.bm,0,none⟩)] w (Sep (aE A c q) (dK fb c g' cap' ⟨Fr,k,0,-1,false,0⟩)) (fun (_:Unit) e=>e=.returned (.bool true)) (fun _=>Sep (aE A c q) (dK fb c g' cap' (Fd.found ⟨Fr,k,0,-1,false,wrap64 (0+1)⟩ r))):=by
 have h0:aN prog 228 #[.pointer (some ⟨fb,0,none⟩),.pointer (some ⟨A.bm,0,none⟩)] w (Sep (fP A.bm c q.m) (dK fb c g' cap' ⟨Fr,k,0,-1,false,0⟩)) (fun (_:Unit) e=>e=.returned (.bool true)) (fun _=>Sep (fP A.bm c q.m) (dK fb c g' cap' (Fd.found ⟨Fr,k,0,-1,false,wrap64 (0+1)⟩ r))):=by
  intro S h
  obtain ⟨S1,T1,⟨gm,hm⟩,h2,hrest⟩:=h
  have h3:(Sep (dK fb c g' cap' ⟨Fr,k,0,-1,false,0⟩) (Mem A.bm gm c.words (mv q.m))).at_ S w:=aB.swap ⟨S1,T1,hm,h2,hrest⟩
  refine (find_step (md:=1) (rb:=r) hc hs hk (by omega) hFr rfl (show Fr*8+1<c.words by unfold Cf.words;omega) (fA hc) (by unfold mv;rw [hm1]) h3).mono ?_
  rintro e w' ⟨he,hg⟩
  exact ⟨(),he,hg.conv fun S w h=>aB.monoL (fun S h=>⟨gm,h⟩) (aB.swap h)⟩
 exact h0.lY.rY.rY
theorem act_finds3 (hc:c.ok) (hFr:Fr<c.frags) (hs:c.shapes[0]? = some (false,ll)) (hr:ll[o.n]? = some r) (hm1:q.m (Fr*8+1)=⟨0,1⟩) (hk:o.kd=3) (hf:x.f=.pointer (some ⟨fb,0,none⟩))
 (h:(Sep (Sep (aE A c q) (aT b t ov lg n x l X)) (dK fb c g' cap' ⟨Fr,o.n,0,-1,false,0⟩)).at_ S w):
 Calls prog 150 #[.pointer (some ⟨b,0,none⟩),.pointer (some ⟨A.b,0,none⟩),.agg (opc o)] w fun e w'=>e=.returned (Rs.v ⟨0,0,0,false,0,0,false⟩)∧aA (Sep (aE A c q) (aT b t ov lg n {x with at_:=2,addr:=((Fr*8+(2+o.n):Nat):Int),ref:=r} l X)) S w w':=by
 obtain ⟨x,rfl⟩:∃ y:Tc,x={y with f:=.pointer (some ⟨fb,0,none⟩)}:=⟨x,by rw [←hf]⟩
 have hoc:opc o=#[.int .i64 3,.int .i64 (o.a:Int),.int .i64 (o.b:Int),.int .i64 (o.c:Int),.int .i64 (o.n:Int),.complex .f64 o.z1 o.z2]:=by unfold opc;rw [hk];rfl
 rw [hoc]
 have g0:=((aA.begin h).moreSt (St.fresh #[.int .i64 3,.int .i64 (o.a:Int),.int .i64 (o.b:Int),.int .i64 (o.c:Int),.int .i64 (o.n:Int),.complex .f64 o.z1 o.z2] 27)).moreSt (St.fresh aQ 41)
 rw [World.size_alloc] at g0
 obtain ⟨vb,hvb⟩:∃ k,w.heap.size=k:=⟨_,rfl⟩
 obtain ⟨rb,hrb⟩:∃ k,vb+1=k:=⟨_,rfl⟩
 rw [hvb,hrb] at g0
 have c11:=g0.l.l.l.r.ci 11 x.at_
 have f11:=g0.l.l.l.r.fr 11
 have g1:aA (Sep (Sep (Sep (Sep (aE A c q) (aT b t ov lg n {x with at_:=1,f:=.pointer (some ⟨fb,0,none⟩)} l X)) (dK fb c g' cap' ⟨Fr,o.n,0,-1,false,0⟩)) (Var vb #[.int .i64 3,.int .i64 (o.a:Int),.int .i64 (o.b:Int),.int .i64 (o.c:Int),.int .i64 (o.n:Int),.complex .f64 o.z1 o.z2] 27)) (Var rb #[.int .i64 0,.int .i64 0,.int .i64 0,.bool false,.complex .f64 0 0] 41)) S w _:=g0.then (aG (aG (aG (aH (fun S h=>(aA.begin h).put 11 (.int .i64 1) (cs':=aM t ov (.slice (some ⟨lg,0,none⟩) n n) {x with at_:=1,f:=.pointer (some ⟨fb,0,none⟩)}) rfl)))))
 have g2:=g1.drew_
 have d12:=g2.l.l.l.r.cp 12 fb
 have k9:=g2.l.l.l.l.cp 9 A.bm
 have HL:=zz ((find_stepC (A:=A) (q:=q) (g':=g') (cap':=cap') (fb:=fb) hc hFr hs hr hm1 _).lY.l.l.on g2)
 simp only [aQ] at*
 unfold Rs.v
 clear h g0 g1 hoc hc hs hr hm1 hk
 go_enter func150,ntmps150
 go_upto_region 1 with fail
 generalize (w.alloc _).alloc _=w1 at*
 go_upto_region 2 with fail
 generalize World.setCell _ _ _=w2 at*
 go_still_tail 9,(by kernel_rfl)
 change wpList _ _ _ _ _ w2.drew
 generalize w2.drew=w3 at*
 go_wp2_with fail
 with_reducible refine HL.out.mono ?_
 rintro e w4 ⟨_,rfl,hgx⟩
 have hg:aA (Sep (Sep (Sep (Sep (aE A c q) (aT b t ov lg n {x with at_:=1,f:=.pointer (some ⟨fb,0,none⟩)} l X)) (dK fb c g' cap' (Fd.found ⟨Fr,o.n,0,-1,false,wrap64 (0+1)⟩ r))) (Var vb #[.int .i64 3,.int .i64 (o.a:Int),.int .i64 (o.b:Int),.int .i64 (o.c:Int),.int .i64 (o.n:Int),.complex .f64 o.z1 o.z2] 27)) (Var rb #[.int .i64 0,.int .i64 0,.int .i64 0,.bool false,.complex .f64 0 0] 41)) S w w4:=hgx
 clear HL hgx g2 c11 f11 d12 k9
 have HE:=zz (hg.l.l.r.is)
 have HER:=zz (find_errno HE.out)
 have d12:=hg.l.l.l.r.cp 12 fb
 clear HE
 go_wp2_with fail
 refine qq HER.out ?_
 clear HER
 go_upto_region 7 with fail
 have hg1:=hg.drew_
 have c13:=hg1.l.l.l.r.ci 13 x.addr
 have f13:=hg1.l.l.l.r.fr 13
 have g2:aA (Sep (Sep (Sep (Sep (aE A c q) (aT b t ov lg n {x with at_:=1,addr:=((Fr*8+(2+o.n):Nat):Int),f:=.pointer (some ⟨fb,0,none⟩)} l X)) (dK fb c g' cap' (Fd.found ⟨Fr,o.n,0,-1,false,wrap64 (0+1)⟩ r))) (Var vb #[.int .i64 3,.int .i64 (o.a:Int),.int .i64 (o.b:Int),.int .i64 (o.c:Int),.int .i64 (o.n:Int),.complex .f64 o.z1 o.z2] 27)) (Var rb #[.int .i64 0,.int .i64 0,.int .i64 0,.bool false,.complex .f64 0 0] 41)) S w _:=hg1.then (aG (aG (aG (aH (fun S h=>(aA.begin h).put 13 (.int .i64 ((Fr*8+(2+o.n):Nat):Int)) (cs':=aM t ov (.slice (some ⟨lg,0,none⟩) n n) {x with at_:=1,addr:=((Fr*8+(2+o.n):Nat):Int),f:=.pointer (some ⟨fb,0,none⟩)}) rfl)))))
 have c14:=g2.l.l.l.r.cb 14 x.ref
 have f14:=g2.l.l.l.r.fr 14
 have g3:aA (Sep (Sep (Sep (Sep (aE A c q) (aT b t ov lg n {x with at_:=1,addr:=((Fr*8+(2+o.n):Nat):Int),ref:=r,f:=.pointer (some ⟨fb,0,none⟩)} l X)) (dK fb c g' cap' (Fd.found ⟨Fr,o.n,0,-1,false,wrap64 (0+1)⟩ r))) (Var vb #[.int .i64 3,.int .i64 (o.a:Int),.int .i64 (o.b:Int),.int .i64 (o.c:Int),.int .i64 (o.n:Int),.complex .f64 o.z1 o.z2] 27)) (Var rb #[.int .i64 0,.int .i64 0,.int .i64 0,.bool false,.complex .f64 0 0] 41)) S w _:=g2.then (aG (aG (aG (aH (fun S h=>(aA.begin h).put 14 (.bool r) (cs':=aM t ov (.slice (some ⟨lg,0,none⟩) n n) {x with at_:=1,addr:=((Fr*8+(2+o.n):Nat):Int),ref:=r,f:=.pointer (some ⟨fb,0,none⟩)}) rfl)))))
 have c11:=g3.l.l.l.r.ci 11 1
 have f11:=g3.l.l.l.r.fr 11
 have g4:aA (Sep (Sep (Sep (Sep (aE A c q) (aT b t ov lg n {x with at_:=2,addr:=((Fr*8+(2+o.n):Nat):Int),ref:=r,f:=.pointer (some ⟨fb,0,none⟩)} l X)) (dK fb c g' cap' (Fd.found ⟨Fr,o.n,0,-1,false,wrap64 (0+1)⟩ r))) (Var vb #[.int .i64 3,.int .i64 (o.a:Int),.int .i64 (o.b:Int),.int .i64 (o.c:Int),.int .i64 (o.n:Int),.complex .f64 o.z1 o.z2] 27)) (Var rb #[.int .i64 0,.int .i64 0,.int .i64 0,.bool false,.complex .f64 0 0] 41)) S w _:=g3.then (aG (aG (aG (aH (fun S h=>(aA.begin h).put 11 (.int .i64 2) (cs':=aM t ov (.slice (some ⟨lg,0,none⟩) n n) {x with at_:=2,addr:=((Fr*8+(2+o.n):Nat):Int),ref:=r,f:=.pointer (some ⟨fb,0,none⟩)}) rfl)))))
 have S1_:=And.intro (hg1.l.l.l.r.cp 12 fb) (And.intro (hg1.l.l.r.ci 19 ((Fr*8+(2+o.n):Nat):Int)) (hg1.l.l.r.cb 20 r))
 have S2_:=And.intro (g2.l.l.l.r.cp 12 fb) (And.intro (g2.l.l.r.ci 19 ((Fr*8+(2+o.n):Nat):Int)) (g2.l.l.r.cb 20 r))
 have S3_:=And.intro (g3.l.l.l.r.cp 12 fb) (And.intro (g3.l.l.r.ci 19 ((Fr*8+(2+o.n):Nat):Int)) (g3.l.l.r.cb 20 r))
 have S4_:=And.intro (g4.l.l.l.r.cp 12 fb) (And.intro (g4.l.l.r.ci 19 ((Fr*8+(2+o.n):Nat):Int)) (g4.l.l.r.cb 20 r))
 have HG:=zz g4
 have h0:(0:Int)≤((Fr*8+(2+o.n):Nat):Int):=by omega
 clear hg hg1 g2 g3 g4 d12
 refine wp_region_held_drew (S:=(fun w'=>w'.cell? ⟨b,12,none⟩=some (.pointer (some ⟨fb,0,none⟩))∧w'.cell? ⟨fb,19,none⟩=some (.int .i64 ((Fr*8+(2+o.n):Nat):Int))∧w'.cell? ⟨fb,20,none⟩=some (.bool r))) (by kernel_rfl) S1_ (fun hHeld=>?_)
 generalize had:((Fr*8+(2+o.n):Nat):Int)=ad at*
 have HAD:=zz had
 clear had
 generalize w4.drew=wd at*
 refine tk 0 ?_
 refine tk 1 ?_
 refine tk 2 ?_
 refine tk 3 ?_
 refine tk 4 ?_
 refine tk 5 ?_
 refine tk 6 ?_
 refine tk 7 ?_
 refine dV (i:=8) (oi:=_) (v:=.int .i64 ad) rfl (by kernel_rfl) (by kernel_rfl) (by kernel_rfl) (fun _ _ _ h=>h) ⟨by rfl,fun w hSw=>⟨_,_,?_,find_atc hSw.2.1⟩⟩ (by assumption) ?_
 · go_simp
 try simp only [Act.put,List.setIfInBounds_toArray,List.set_cons_zero,List.set_cons_succ]
 refine tk 9 ?_
 refine tk 10 ?_
 refine tk 11 ?_
 refine tk 12 ?_
 refine tk 13 ?_
 refine dV (i:=14) (oi:=_) (v:=.bool r) rfl (by kernel_rfl) (by kernel_rfl) (by kernel_rfl) (fun _ _ _ h=>h) ⟨by rfl,fun w hSw=>⟨_,_,?_,find_refc h0 hSw.2.1 hSw.2.2⟩⟩ (by assumption) ?_
 · go_simp
 try simp only [Act.put,List.setIfInBounds_toArray,List.set_cons_zero,List.set_cons_succ]
 refine tk 15 ?_
 refine tk 16 ?_
 refine tk 17 ?_
 refine rdy 18 fun K hK=>?_
 go_simp
 refine hon hK S2_ fun hHeld=>?_
 clear hK K
 refine tk 19 ?_
 refine tk 20 ?_
 refine tk 21 ?_
 refine rdy 22 fun K hK=>?_
 go_simp
 refine hon hK S3_ fun hHeld=>?_
 clear hK K
 refine tk 23 ?_
 refine tk 24 ?_
 refine tk 25 ?_
 refine rdy 26 fun K hK=>?_
 go_simp
 refine hon hK S4_ fun hHeld=>?_
 clear hK K
 refine wpAnyH_done (by kernel_rfl) ?_ _
 clear S1_ S2_ S3_ S4_ hHeld
 generalize World.setCell (World.setCell (World.setCell _ _ _) _ _) _ _=w6 at*
 clear c13 f13 c14 f14 c11 f11 h0
 have o0:=HG.out.l.r.vi 0 3
 clear o0
 have o0:=HG.out.l.r.vi 0 3
 go_upto_region 9 with fail
 clear o0
 have hg:aA (Sep (Sep (aE A c q) (aT b t ov lg n {x with at_:=2,addr:=ad,ref:=r,f:=.pointer (some ⟨fb,0,none⟩)} l X)) (Var rb #[.int .i64 0,.int .i64 0,.int .i64 0,.bool false,.complex .f64 0 0] 41)) S w w6:=HG.out.drop (aU.both (aU.trans (aU.left _ _) (aU.left _ _)) (aU.refl _))
 clear HG
 have q0_:=hg.r.vi 0 0
 have p0_:=hg.r.vf 0
 have q1_:=hg.r.vi 1 0
 have p1_:=hg.r.vf 1
 have q2_:=hg.r.vi 2 0
 have p2_:=hg.r.vf 2
 have q3_:=hg.r.vb 3 false
 have p3_:=hg.r.vf 3
 have q4_:=hg.r.vC 4 (.complex .f64 0 0)
 have p4_:=hg.r.vf 4
 have g8_:=hg.then (aH (fun S h=>(aA.begin h).p5 (.int .i64 (0)) (.int .i64 (0)) (.int .i64 (0)) (.bool (false)) (.complex .f64 0 0)))
 have k0_:=g8_.r.vi 0 (0)
 have k1_:=g8_.r.vi 1 (0)
 have k2_:=g8_.r.vi 2 (0)
 have k3_:=g8_.r.vb 3 (false)
 have k4_:=g8_.r.vC 4 (.complex .f64 0 0)
 have HF:=zz g8_.l
 clear hg g8_
 go_wp2_with fail
 (try rw [aI])
 exact bodyPost_ret (v:=.tuple #[.agg #[.int .i64 (0),.int .i64 (0),.int .i64 (0),.bool (false),.complex .f64 0 0],.bool false]) (by simp [results,results150,go_sem,k0_,k1_,k2_,k3_,k4_]) rfl (by have h9:=HAD.out;subst h9;exact ⟨rfl,HF.out⟩)
end
theorem Tryz.info101:(prog.info? 101).map (fun i=>(i.zero,i.size,i.bytes))=some (some (.pointer none),1,8):=by kernel_rfl
def eD (ab yb:Nat) (sv:Value) (steps:Int):Array Value:=#[.pointer (some ⟨ab,0,none⟩),.pointer (some ⟨yb,0,none⟩),sv,.int .i64 steps]
def fQ (fa:Nat→TA) (n:Nat):List Value:=ptrs (fun i=>(fa i).b) n
def Ths (c:Cf) (n:Nat) (fa:Nat→TA) (no:Nat→Nat) (sc:Nat→Nat→Opn) (p:Nat→Sw.T):aC:=All n fun t=>ThO c (fa t) t (no t) (sc t) (p t)
def Hp (A:CA) (c:Cf) (q:Sw.Q) (yb:Nat) (y:Sw.Y) (hb:Nat) (sv:Value) (n:Nat) (fa:Nat→TA) (no:Nat→Nat) (sc:Nat→Nat→Opn) (steps:Int) (p:Nat→Sw.T):aC:=
 Sep (Sep (Var hb (eD A.b yb sv steps) 87) (Seq 1 sv n (fQ fa n))) (Sep (Sep (aE A c q) (CyO yb c y)) (Ths c n fa no sc p))
def bW (who:Int) (rs:Rs):Array Value:=#[.int .i64 who,.bool rs.d,.int .i64 rs.nx,.int .i64 rs.own,.int .i64 rs.er,.bool rs.r,.complex .f64 rs.z1 rs.z2]
def tkV (who:Int) (rs:Rs):Value:=.agg (bW who rs)
def rs0:Rs:=⟨0,0,0,false,0,0,false⟩
def rsOf (r:Sw.Rs) (ow:Int):Rs:=⟨r.nx,ow,r.er,r.r,fl r.z.k,fl r.z.i,r.d⟩
section
theorem hp_upd (n:Nat):All n (kM (fun k=>ThO c (fa k) k (no k) (sc k) (p k)) t (ThO c (fa t) t (no t) (sc t) p'))=Ths c n fa no sc (Sw.set p t p'):=by
 unfold Ths
 congr 1
 funext k
 unfold kM Sw.set
 by_cases e:k=t
 · subst e;simp
 · simp [e]
theorem ths_step (ht:t<n) (hs:bG A c (fa t) t (no t) (sc t) q (p t) q' p' rs) (w:World):
 aN prog 32 #[.pointer (some ⟨(fa t).b,0,none⟩),.pointer (some ⟨A.b,0,none⟩)] w (Sep (Sep (aE A c q) (CyO yb c y)) (Ths c n fa no sc p)) (fun (z:Rs) e=>e=.returned z.v∧∃ ow,z=rsOf rs ow) (fun _=>Sep (Sep (aE A c q') (CyO yb c y)) (Ths c n fa no sc (Sw.set p t p'))):=by
 have h1:=aN.lY (B':=CyO yb c y) (aN.all (T:=fun k=>ThO c (fa k) k (no k) (sc k) (p k)) ht (hs w))
 refine aN.conv h1 (fun _ _ h=>h) fun ow e he=>⟨rsOf rs ow,⟨he,ow,rfl⟩,fun S w h=>?_⟩
 rw [hp_upd] at h
 exact h
theorem aN.lX' {α:Type} {R:α→Ending→Prop} {A:aC} {O':α→aC} (h:aN P f args w A R O') (B C:aC):aN P f args w (Sep (Sep A B) C) R (fun x=>Sep (Sep (O' x) B) C):=h.l.l
end
section
variable {T:Nat→aC}
theorem locM_one (l:Nat→Lc) (j:Nat):(cG l j).oneCell'=true:=by unfold cG cx;split<;>rfl
theorem row_vgs (hk:k≠0) (ho:w1.ownsRow 0 39 2 v' k ((List.range (k*2)).map m)) (hb:Below W.heap.size W w1) (hbk:∀ g,v'.ownBlock=some g→W.heap.size≤g):
 ∃ vg vc,v'=.slice (some ⟨vg,0,none⟩) k vc∧St W (Vgs vg (k*2) 39 m) w1:=by
 rcases ho.2 with ⟨_,e⟩|⟨g',cap',cur,e,_,e2,e3,e4,e5,e6⟩
 · exact absurd e hk
 · subst e
   have hl:∀ j,j<k*2→cur[j]? = some (m j):=fun j hj=>by
    have h1:(cur.toList.take (k*2))[j]? = some (m j):=by rw [e6];simp [hj]
    rw [List.getElem?_take_of_lt hj] at h1
    simpa using h1
   refine ⟨g',cap',rfl,⟨fun x=>x=g',⟨cur,e2,?_,hl,rfl,fun _ h=>h⟩,fun x hx=>hx▸hbk g' rfl⟩,hb⟩
   rcases Nat.lt_or_ge cur.size (k*2) with h|h
   · have:=hl (k*2-1) (by omega)
     rw [Array.getElem?_eq_none (by omega)] at this;simp at this
   · exact h
theorem clone_vals (hn:n≤8) (hn1:1≤n) (hm:∀ j,(m j).oneCell'=true) (h:(bV lg (n*2) 39 m).at_ S w):
 Calls prog 79 #[.slice (some ⟨lg,0,none⟩) n n] w fun e w'=>∃ vg vc,e=.returned (.slice (some ⟨vg,0,none⟩) n vc)∧St w (Vgs vg (n*2) 39 m) w':=by
 obtain ⟨i0,hi,hz0,hz1,hz2⟩:=info_parts Tryz.info39
 have he:=Lib.run_eql_slice_nil (P:=prog) w 59 39 (some ⟨lg,0,none⟩) n n 0 0 underlying59
 have HC:=zz fun o j hj=>(by have:=aR (aA.begin h |>.alloc_ o).is (j:=j) hj;exact this:(w.alloc o).cell? ⟨lg,j,none⟩=some (m j))
 have HM:=zz hm
 clear h hm
 go_enter func79,ntmps79
 go_wp2_with (at_builtin;refine bI rfl _ _ 59 rfl 39 i0 (.agg #[.bool false,.complex .f64 0 0]) 2 24 underlying59 hi hz0 hz1 hz2 rfl (by decide) _ _ _ rfl (World.ownsRow_made w #[] 0 (Nat.zero_le _) (Nat.zero_le _) rfl) ⟨lg,0,none⟩ n n ((List.range (n*2)).map m) rfl ?c0 ?c1 ?c2 ?c3 (by decide) ?_)
 case c0=>simp
 case c1=>
  intro j u hj
  simp only [List.getElem?_map,Option.map_eq_some_iff] at hj
  obtain ⟨k,hk,rfl⟩:=hj
  have hkl:j<n*2:=by
   rcases Nat.lt_or_ge j (n*2) with h|h
   · exact h
   · rw [List.getElem?_eq_none (by simpa using h)] at hk;simp at hk
  rw [List.getElem?_range hkl] at hk
  cases hk
  rw [bU,Nat.zero_add]
  exact HC.out _ j hkl
 case c2=>
  intro u hu
  obtain ⟨j,_,rfl⟩:=List.mem_map.1 hu
  exact HM.out j
 case c3=>omega
 intro v' w1 hown hg hb
 have G:=zz hg
 have HO:=zz hown
 have B:=zz hb
 clear hg hb hown HC HM
 go_wp2_with fail
 go_ret
 have ho:w1.ownsRow 0 39 2 v' n ((List.range (n*2)).map m):=by simpa using HO.out
 obtain ⟨vg,vc,rfl,hs⟩:=row_vgs (W:=w) (by omega) ho (((Below.refl _ _).alloc (Nat.le_refl _) _).grown G.out (by simp) (fun k hk=>by simp [Value.ownBlock] at hk;omega)) fun k hk=>by
  rcases B.out with e|e
  · rw [e] at hk;simp [Value.ownBlock] at hk;omega
  · rw [e] at hk;simp at hk;omega
 exact ⟨vg,vc,rfl,hs⟩
theorem all_get:∀ {n:Nat} {S:Nat→Prop},(All n T).at_ S w→∀ t,t<n→∃ S',(T t).at_ S' w∧∀ k,S' k→S k
 | 0,_,_,t,ht=>absurd ht (Nat.not_lt_zero t)
 | n+1,S,h,t,ht=>by
  by_cases e:t=n
  · subst e;exact aB.r h
  · obtain ⟨S1,h1,h2⟩:=aB.l h
    obtain ⟨S2,h3,h4⟩:=all_get h1 t (by omega)
    exact ⟨S2,h3,fun k hk=>h2 k (h4 k hk)⟩
theorem aA.get (h:aA (All n T) S w w') (ht:t<n):aA (T t) S w w':=by
 obtain ⟨⟨S',h1,h2⟩,h3⟩:=h
 obtain ⟨S2,h4,h5⟩:=all_get h1 t ht
 exact ⟨⟨S2,h4,fun k hk=>h2 k (h5 k hk)⟩,h3⟩
theorem act_phase (h:w.cell? ⟨b,3,none⟩=some (.int .i64 x)):Calls prog 33 #[.pointer (some ⟨b,0,none⟩)] w fun e w'=>e=.returned (.int .i64 x)∧w=w':=by
 go_enter func33,ntmps33
 go_wp2_with fail
 go_ret
 exact ⟨rfl,rfl⟩
theorem act_status (h:w.cell? ⟨b,4,none⟩=some (.int .i64 x)):Calls prog 34 #[.pointer (some ⟨b,0,none⟩)] w fun e w'=>e=.returned (.int .i64 x)∧w=w':=by
 go_enter func34,ntmps34
 go_wp2_with fail
 go_ret
 exact ⟨rfl,rfl⟩
theorem act_locals (hn:n≤8) (hn1:1≤n) (hm:∀ j,(m j).oneCell'=true) (hc:w.cell? ⟨b,2,none⟩=some (.slice (some ⟨lg,0,none⟩) n n)) (h:(bV lg (n*2) 39 m).at_ S w):
 Calls prog 35 #[.pointer (some ⟨b,0,none⟩)] w fun e w'=>∃ vg vc,e=.returned (.slice (some ⟨vg,0,none⟩) n vc)∧St w (Vgs vg (n*2) 39 m) w':=by
 have HL:=zz (clone_vals hn hn1 hm h)
 clear h hm
 go_enter func35,ntmps35
 go_wp2_with fail
 with_reducible refine HL.out.mono ?_
 rintro e w2 ⟨vg,vc,rfl,hb⟩
 have HB:=zz hb
 clear HL hb
 go_wp2_with fail
 go_ret
 exact ⟨vg,vc,rfl,HB.out⟩
end
section
variable {x:GrX}
theorem hp_thread (hn:n≤16) (ht:t<n) (hlc:1≤c.locals∧c.locals≤8) (h:(Hp A c q yb y hb sv n fa no sc steps p).at_ S w):
 Calls prog 12 #[.pointer (some ⟨hb,0,none⟩),.int .i64 (t:Int)] w fun e w'=>∃ vg vc,e=.returned (.tuple #[.int .i64 (p t).ph,.int .i64 (p t).st,.slice (some ⟨vg,0,none⟩) c.locals vc])∧aA (Sep (Hp A c q yb y hb sv n fa no sc steps p) (Vgs vg (c.locals*2) 39 (cG (p t).l))) S w w':=by
 have g0:=aA.begin h
 obtain ⟨sg,so,scap,hsv,_,_⟩:=bN g0.l.r.is
 have c2:=g0.l.l.vC 2 sv
 rw [hsv] at c2
 have hq:(fQ fa n)[t]? = some (.pointer (some ⟨(fa t).b,0,none⟩)):=by unfold fQ ptrs;simp [ht]
 have ce:w.cell? ⟨sg,so+t,none⟩=some (.pointer (some ⟨(fa t).b,0,none⟩)):=by
  have:=g0.l.r
  rw [hsv] at this
  exact this.seq hq
 have gt:aA (ThO c (fa t) t (no t) (sc t) (p t)) S w w:=g0.r.r.get ht
 obtain ⟨⟨S1,⟨z,ok,h1⟩,hs1⟩,ht1⟩:=gt
 have gt:aA (ThP c (fa t) t (no t) (sc t) z (p t).l (ThK c (p t) z)) S w w:=⟨⟨S1,h1,hs1⟩,ht1⟩
 have t3:w.cell? ⟨(fa t).b,3,none⟩=some (.int .i64 z.ph):=gt.c 3 rfl
 rw [ok.ph] at t3
 have t4:w.cell? ⟨(fa t).b,4,none⟩=some (.int .i64 z.st):=gt.c 4 rfl
 rw [ok.st] at t4
 have t2:w.cell? ⟨(fa t).b,2,none⟩=some (.slice (some ⟨(fa t).lg,0,none⟩) c.locals c.locals):=gt.c 2 rfl
 have HL:=zz (act_locals hlc.2 hlc.1 (locM_one (p t).l) t2 gt.r.l.is)
 have HP:=zz (act_phase t3)
 have HS:=zz (act_status t4)
 have HG:=zz g0
 have hlt:(t:Int)<(n:Int):=by omega
 have h0:decide ((t:Int)<0)=false:=by simp
 have h1:decide ((t:Int)≥(n:Int))=false:=by simp;omega
 clear h g0 hsv gt hq t3 t4 t2 ok
 go_enter func12,ntmps12
 go_wp2_with fail
 refine qq HP.out ?_
 clear HP
 go_wp2_with fail
 refine qq HS.out ?_
 clear HS
 go_wp2_with fail
 with_reducible refine HL.out.mono ?_
 rintro e w2 ⟨vg,vc,rfl,hb⟩
 have HF:=zz (HG.out.moreSt hb)
 clear HL hb HG c2 ce h0 h1
 go_wp2_with fail
 (try rw [aI])
 exact bodyPost_ret (v:=.tuple #[.int .i64 (p t).ph,.int .i64 (p t).st,.slice (some ⟨vg,0,none⟩) c.locals vc]) (by simp [results,results12,go_sem]) rfl ⟨vg,vc,rfl,HF.out⟩
theorem gr_locals0 (ht:t<2) (hz:g.th t=false) (h:(GrO b c g).at_ S w):Calls prog 18 #[.pointer (some ⟨b,0,none⟩),.int .i64 (t:Int)] w fun e w'=>e=.returned (.slice none 0 0)∧aA (GrO b c g) S w w':=by
 have HI:=zz ((gr_is ht w).on (aA.begin h))
 rw [hz] at HI
 clear h hz
 go_enter func18,ntmps18
 go_wp2_with fail
 refine qz HI.out fun w2 hg=>?_
 have HF:=zz hg
 clear HI hg
 go_wp2_with fail
 go_ret
 exact ⟨rfl,HF.out⟩
theorem gr_locals1 (ht:t<2) (hlc:1≤c.locals∧c.locals≤8) (hz:g.th t=true) (h:(GrO b c g).at_ S w):Calls prog 18 #[.pointer (some ⟨b,0,none⟩),.int .i64 (t:Int)] w fun e w'=>∃ vg vc,e=.returned (.slice (some ⟨vg,0,none⟩) c.locals vc)∧aA (Sep (GrO b c g) (Vgs vg (c.locals*2) 39 (cG (g.l t)))) S w w':=by
 obtain ⟨i0,hi,hz0,hz1,hz2⟩:=info_parts Tryz.info39
 have HI:=zz ((gr_is ht w).on (aA.begin h))
 rw [hz] at HI
 have HZ:=zz hz
 have HM:=zz (locM_one (g.l t))
 have h0:(0:Int)≤(t:Int):=by omega
 have h2:(t:Int)<2:=by omega
 clear h hz
 go_enter func18,ntmps18
 go_wp2_with fail
 refine qz HI.out fun w2 hg=>?_
 obtain ⟨⟨S1,⟨x,h1⟩,hs1⟩,ht1⟩:=hg
 have g1:aA (GrB b c x g) S w w2:=⟨⟨S1,h1,hs1⟩,ht1⟩
 have c11:=(g1.alloc_ (.cells #[] 39)).cC 11 (.slice (some ⟨x.lb,0,none⟩) 2 2)
 have cl:=(iR (g1.alloc_ (.cells #[] 39))).2.2.2.2.2 t ht
 rw [show lsM c x g.th t=.slice (some ⟨x.xb t,0,none⟩) c.locals c.locals by unfold lsM;rw [HZ.out];rfl] at cl
 have hv:aA (bV (x.xb t) (c.locals*2) 39 (cG (g.l t))) S w w2:=by
  have:=g1.r.r.r.r.r.get ht
  unfold LsT at this;rw [HZ.out] at this;exact this
 have HC:=zz fun o j hj=>(by have:=aR (hv.alloc_ o).is (j:=j) hj;exact this:(w2.alloc o).cell? ⟨x.xb t,j,none⟩=some (cG (g.l t) j))
 have HG:=zz g1
 clear HI hv g1 h1 hs1 ht1
 dsimp only
 go_wp2_with (at_builtin;refine bI rfl _ _ 59 rfl 39 i0 (.agg #[.bool false,.complex .f64 0 0]) 2 24 underlying59 hi hz0 hz1 hz2 rfl (by decide) _ _ _ rfl (World.ownsRow_made w2 #[] 0 (Nat.zero_le _) (Nat.zero_le _) rfl) ⟨x.xb t,0,none⟩ c.locals c.locals ((List.range (c.locals*2)).map (cG (g.l t))) rfl ?c0 ?c1 ?c2 ?c3 (by decide) ?_)
 case c0=>simp
 case c1=>
  intro j u hj
  simp only [List.getElem?_map,Option.map_eq_some_iff] at hj
  obtain ⟨k,hk,rfl⟩:=hj
  have hkl:j<c.locals*2:=by
   rcases Nat.lt_or_ge j (c.locals*2) with h|h
   · exact h
   · rw [List.getElem?_eq_none (by simpa using h)] at hk;simp at hk
  rw [List.getElem?_range hkl] at hk
  cases hk
  rw [bU,Nat.zero_add]
  exact HC.out _ j hkl
 case c2=>
  intro u hu
  obtain ⟨j,_,rfl⟩:=List.mem_map.1 hu
  exact HM.out j
 case c3=>omega
 intro v' w1 hown hg hb
 have G:=zz hg
 have HO:=zz hown
 have B:=zz hb
 clear hg hb hown HC HM
 go_wp2_with fail
 go_ret
 have ho:w1.ownsRow 0 39 2 v' c.locals ((List.range (c.locals*2)).map (cG (g.l t))):=by simpa using HO.out
 obtain ⟨vg,vc,rfl,hs⟩:=row_vgs (W:=w2) (by omega) ho (((Below.refl _ _).alloc (Nat.le_refl _) _).grown G.out (by simp) (fun k hk=>by simp [Value.ownBlock] at hk;omega)) fun k hk=>by
  rcases B.out with e|e
  · rw [e] at hk;simp [Value.ownBlock] at hk;omega
  · rw [e] at hk;simp at hk;omega
 exact ⟨vg,vc,rfl,(HG.out.moreSt hs).conv fun S w h=>aB.monoL (fun S h=>⟨x,h⟩) h⟩
end
section
theorem cyc_errno (h:w.cell? ⟨b,13,none⟩=some (.int .i64 0)):Calls prog 46 #[.pointer (some ⟨b,0,none⟩)] w fun e w'=>e=.returned (.int .i64 0)∧w=w':=by
 go_enter func46,ntmps46
 go_wp2_with fail
 go_ret
 exact ⟨rfl,rfl⟩
theorem col_errno (h:w.cell? ⟨b,13,none⟩=some (.int .i64 0)):Calls prog 21 #[.agg #[.pointer (some ⟨b,0,none⟩)]] w fun e w'=>e=.returned (.int .i64 0)∧Below w.heap.size w w':=by
 have hb:=zz ((Below.refl w.heap.size w).alloc (Nat.le_refl _) (.cells #[.pointer (some ⟨b,0,none⟩)] 84))
 have h1:(w.alloc (.cells #[.pointer (some ⟨b,0,none⟩)] 84)).cell? ⟨b,13,none⟩=some (.int .i64 0):=by
  have hlt:=World.block_lt_of_cell? _ _ h
  unfold World.cell? at*
  rw [Below.heap_alloc _ _ _ hlt];exact h
 have HE:=zz (cyc_errno h1)
 clear h1 h
 go_enter func21,ntmps21
 go_wp2_with fail
 refine qq HE.out ?_
 clear HE
 go_wp2_with fail
 go_ret
 exact ⟨rfl,hb.out⟩
end
theorem cnt_all {f:Nat→One}:∀ n,(∀ k,k<n→(f k).st≤2)→cnt f 0 n+cnt f 1 n+cnt f 2 n=n
 | 0,_=>rfl
 | n+1,h=>by
  have:=cnt_all n (fun k hk=>h k (by omega))
  have h2:=h n (by omega)
  simp only [cnt]
  match hst:(f n).st,h2 with
  | 0,_=>simp;omega
  | 1,_=>simp;omega
  | 2,_=>simp;omega
section
variable {i:Nat}
theorem hp_core (h:aJ prog f args w (aE A c q) v (aE A c q)):aJ prog f args w (Hp A c q yb y hb sv n fa no sc steps p) v (Hp A c q yb y hb sv n fa no sc steps p):=(h.l).l.r
theorem shq_cell (h:(ShQ b bt c q).at_ S w):w.cell? ⟨b,0,none⟩=some (.pointer (some ⟨bt,0,none⟩)):=by
 obtain ⟨x,hs⟩:=h
 exact (aA.begin hs).c 0 rfl
theorem shq_counts (h:(ShQ b bt c q).at_ S w):∃ x y z:Int,x+y+z=c.frags∧0≤x∧0≤y∧0≤z∧Calls prog 45 #[.pointer (some ⟨bt,0,none⟩)] w fun e w'=>e=.returned (.tuple #[.int .i64 x,.int .i64 y,.int .i64 z])∧Below w.heap.size w w':=by
 obtain ⟨x,hs⟩:=h
 obtain ⟨g',cs,a1,a2,a3,a4,a5,a6,a7,a8,a9⟩:=(aA.begin hs).r.l.is
 exact ⟨_,_,_,cnt_all c.frags a7,(cnt_bd _ _ _).1,(cnt_bd _ _ _).1,(cnt_bd _ _ _).1,tint_counts ⟨g',cs,a1,a2,a3,a4,a5,a6,a7,a8,a9⟩⟩
theorem hp_errno (w:World):aJ prog 21 #[.agg #[.pointer (some ⟨yb,0,none⟩)]] w (Hp A c q yb y hb sv n fa no sc steps p) (.int .i64 0) (Hp A c q yb y hb sv n fa no sc steps p):=aJ.see fun S h=>by
 obtain ⟨S1,h1,_⟩:=aB.r h
 obtain ⟨S2,h2,_⟩:=aB.l h1
 obtain ⟨S3,⟨x,_,h3⟩,_⟩:=aB.r h2
 exact col_errno ((aA.begin h3).ci 13 0)
theorem hp_counts (w:World):aN prog 20 #[.pointer (some ⟨hb,0,none⟩)] w (Hp A c q yb y hb sv n fa no sc steps p) (fun (v:Int×Int×Int) e=>e=.returned (.tuple #[.int .i64 v.1,.int .i64 v.2.1,.int .i64 v.2.2])∧v.1+v.2.1+v.2.2=c.frags∧0≤v.1∧0≤v.2.1∧0≤v.2.2) (fun _=>(Hp A c q yb y hb sv n fa no sc steps p)):=by
 intro S h
 have g0:=aA.begin h
 have c0:=g0.l.l.vp 0 A.b
 have c10:=g0.r.l.l.cp 10 A.bs
 have s0:=shq_cell g0.r.l.l.r.r.r.l.is
 have HT:=zz (g0.plain (fS A.bt w))
 clear h g0
 go_enter func20,ntmps20
 go_wp2_with fail
 refine qz HT.out fun w2 hg=>?_
 obtain ⟨v1,v2,v3,hsum,h1,h2,h3,hcall⟩:=shq_counts hg.r.l.l.r.r.r.l.is
 have HC:=zz (hg.plain hcall)
 have HS:=zz (And.intro hsum (And.intro h1 (And.intro h2 h3)))
 clear HT hg hcall hsum h1 h2 h3 c0 c10 s0
 go_wp2_with fail
 refine qz HC.out fun w3 hg=>?_
 have HG:=zz hg
 clear HC hg
 go_wp2_with fail
 (try rw [aI])
 exact bodyPost_ret (v:=.tuple #[.int .i64 v1,.int .i64 v2,.int .i64 v3]) (by simp [results,results20,go_sem]) rfl ⟨(v1,v2,v3),⟨rfl,HS.out⟩,HG.out⟩
theorem tq_head (hi:i<c.frags) (w:World):aJ prog 168 #[.pointer (some ⟨bt,0,none⟩),.int .i64 (i:Int)] w (ShQ b bt c q) (.bool (q.t i).hd) (ShQ b bt c q):=
 kV (t':=q.t) (.look fun S h=>by have:=tint_head (i:Int) h;rw [kN hi] at this;exact this)
theorem hp_state (hi:i<c.frags) (w:World):aJ prog 26 #[.pointer (some ⟨hb,0,none⟩),.int .i64 (i:Int)] w (Hp A c q yb y hb sv n fa no sc steps p) (.int .i64 ((q.t i).st:Int)) (Hp A c q yb y hb sv n fa no sc steps p):=by
 intro S h
 have g0:=aA.begin h
 have c0:=g0.l.l.vp 0 A.b
 have c10:=g0.r.l.l.cp 10 A.bs
 have s0:=shq_cell g0.r.l.l.r.r.r.l.is
 have HT:=zz (g0.plain (fS A.bt w))
 have HC:=zz fun w1 (gg:aA (Hp A c q yb y hb sv n fa no sc steps p) S w w1)=>(hp_core (fV (tq_state hi w1) ⟨rfl,rfl,rfl,rfl,rfl,rfl⟩)).on gg
 clear h g0
 go_enter func26,ntmps26
 go_wp2_with fail
 refine qz HT.out fun w2 hg=>?_
 have HC2:=zz (HC.out _ hg)
 clear HT HC hg c0 c10 s0
 go_wp2_with fail
 refine qz HC2.out fun w3 hg=>?_
 have HG:=zz hg
 clear HC2 hg
 go_wp2_with fail
 go_ret
 exact ⟨rfl,HG.out⟩
theorem hp_head (hi:i<c.frags) (w:World):aJ prog 97 #[.pointer (some ⟨hb,0,none⟩),.int .i64 (i:Int)] w (Hp A c q yb y hb sv n fa no sc steps p) (.bool (q.t i).hd) (Hp A c q yb y hb sv n fa no sc steps p):=by
 intro S h
 have g0:=aA.begin h
 have c0:=g0.l.l.vp 0 A.b
 have c10:=g0.r.l.l.cp 10 A.bs
 have s0:=shq_cell g0.r.l.l.r.r.r.l.is
 have HT:=zz (g0.plain (fS A.bt w))
 have HC:=zz fun w1 (gg:aA (Hp A c q yb y hb sv n fa no sc steps p) S w w1)=>(hp_core (fV (tq_head hi w1) ⟨rfl,rfl,rfl,rfl,rfl,rfl⟩)).on gg
 clear h g0
 go_enter func97,ntmps97
 go_wp2_with fail
 refine qz HT.out fun w2 hg=>?_
 have HC2:=zz (HC.out _ hg)
 clear HT HC hg c0 c10 s0
 go_wp2_with fail
 refine qz HC2.out fun w3 hg=>?_
 have HG:=zz hg
 clear HC2 hg
 go_wp2_with fail
 go_ret
 exact ⟨rfl,HG.out⟩
theorem mq_peek {m:Nat→Sw.Wd} (hk:k<c.words) (hc:c.ok) (w:World):aJ prog 167 #[.pointer (some ⟨b,0,none⟩),.int .i64 (k:Int)] w (fP b c m) (cx (m k).k (m k).i) (fP b c m):=.ex fun g=>⟨g,.look fun S h=>by
 obtain ⟨ct,h⟩:=h
 have hn:=fA hc
 have g0:=aA.begin h
 have d0:=g0.c 0 rfl
 have d1:=goesVal g0.r hk
 have H1:=zz (mem_has k (hY g0) hk hn)
 clear h g0
 change w.cell? ⟨g,k,none⟩=some (cx (m k).k (m k).i) at d1
 generalize cx (m k).k (m k).i=u at*
 go_enter func167,ntmps167
 go_wp2_with fail
 refine qq H1.out ?_
 go_wp2_with fail
 go_ret
 exact ⟨rfl,rfl⟩⟩
theorem hp_peek (hc:c.ok) (hk:k<c.words) (w:World):aJ prog 96 #[.pointer (some ⟨hb,0,none⟩),.int .i64 (k:Int)] w (Hp A c q yb y hb sv n fa no sc steps p) (cx (q.m k).k (q.m k).i) (Hp A c q yb y hb sv n fa no sc steps p):=by
 intro S h
 have g0:=aA.begin h
 have c0:=g0.l.l.vp 0 A.b
 have c9:=g0.r.l.l.cp 9 A.bm
 have HC:=zz ((hp_core (core_memR (mq_peek hk hc w))).on g0)
 clear h g0
 generalize cx (q.m k).k (q.m k).i=u at*
 go_enter func96,ntmps96
 go_wp2_with fail
 refine qz HC.out fun w3 hg=>?_
 have HG:=zz hg
 clear HC hg
 go_wp2_with fail
 go_ret
 exact ⟨rfl,HG.out⟩
theorem hp_conf (hc:c.ok) (h:(Hp A c q yb y hb sv n fa no sc steps p).at_ S w):
 Calls prog 22 #[.pointer (some ⟨hb,0,none⟩)] w fun e w'=>∃ v:Nat×Nat,e=.returned (cfV c v.1 v.2)∧aA (Sep (Hp A c q yb y hb sv n fa no sc steps p) (aZ c v.1 v.2)) S w w':=by
 have g0:=(aA.begin h).moreSt (St.fresh cR 34)
 obtain ⟨rb,hrb⟩:∃ k,w.heap.size=k:=⟨_,rfl⟩
 rw [hrb] at g0
 have c0:=g0.l.l.l.vp 0 A.b
 obtain ⟨k0,k1,k2,k3,k4,k5,k6,k7,k8⟩:=eG g0.l.r.l.l
 have HC:=zz (fG hc (bO g0.l.r.l.l.is).choose_spec)
 simp only [cR] at g0 HC
 unfold cfV at HC
 clear h hc
 go_enter func22,ntmps22
 simp only [cR] at*
 go_upto_region 1 with fail
 generalize w.alloc _=w1 at*
 go_wp2_with fail
 with_reducible refine HC.out.mono ?_
 rintro e w2 ⟨g',cap',rfl,hs⟩
 have g1:=g0.moreSt hs
 clear HC g0 hs c0 k0 k1 k2 k3 k4 k5 k6 k7 k8
 unfold cfV
 have r0:=g1.l.r.vi 0 0
 have f0:=g1.l.r.vf 0
 have r1:=g1.l.r.vi 1 0
 have f1:=g1.l.r.vf 1
 have r2:=g1.l.r.vi 2 0
 have f2:=g1.l.r.vf 2
 have r3:=g1.l.r.vi 3 0
 have f3:=g1.l.r.vf 3
 have r4:=g1.l.r.vi 4 0
 have f4:=g1.l.r.vf 4
 have r5:=g1.l.r.vi 5 0
 have f5:=g1.l.r.vf 5
 have r6:=g1.l.r.vi 6 0
 have f6:=g1.l.r.vf 6
 have r7:=g1.l.r.vi 7 0
 have f7:=g1.l.r.vf 7
 have r8:=g1.l.r.vC 8 (.slice none 0 0)
 have f8:=g1.l.r.vf 8
 have g2:=g1.then (aG (aH (fun S h=>(aA.begin h).p9 (.int .i64 c.frags) (.int .i64 c.spine) (.int .i64 c.globals) (.int .i64 c.threads) (.int .i64 c.locals) (.int .i64 0) (.int .i64 c.stack) (.int .i64 c.low) ((.slice (some ⟨g',0,none⟩) c.shapes.length cap')))))
 have k0:=g2.l.r.vi 0 c.frags
 have k1:=g2.l.r.vi 1 c.spine
 have k2:=g2.l.r.vi 2 c.globals
 have k3:=g2.l.r.vi 3 c.threads
 have k4:=g2.l.r.vi 4 c.locals
 have k5:=g2.l.r.vi 5 0
 have k6:=g2.l.r.vi 6 c.stack
 have k7:=g2.l.r.vi 7 c.low
 have k8:=g2.l.r.vC 8 (.slice (some ⟨g',0,none⟩) c.shapes.length cap')
 have HF:=zz (g2.conv fun S w h=>aB.rot h).l
 clear g1 g2
 go_wp2_with fail
 (try rw [aI])
 exact bodyPost_ret (v:=.agg #[.int .i64 c.frags,.int .i64 c.spine,.int .i64 c.globals,.int .i64 c.threads,.int .i64 c.locals,.int .i64 0,.int .i64 c.stack,.int .i64 c.low,(.slice (some ⟨g',0,none⟩) c.shapes.length cap')]) (by simp [results,results22,go_sem,k0,k1,k2,k3,k4,k5,k6,k7,k8]) rfl ⟨(g',cap'),rfl,HF.out⟩
end
end Go.Proofs.YtgcmiahhkalfmaaGreat
