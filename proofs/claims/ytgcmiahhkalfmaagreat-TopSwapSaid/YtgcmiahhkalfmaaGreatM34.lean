import Derived.Test.YtgcmiahhkalfmaaGreatM33
set_option maxRecDepth 100000
set_option maxHeartbeats 8000000
set_option linter.unusedVariables false
set_option linter.unusedSimpArgs false
namespace Go.Proofs.YtgcmiahhkalfmaaGreat
section
attribute [local go_sem] aF aI aO aV
open Go.Proofs.Tryz
open Go.RowKit
variable {A:CA} {c:Cf} {f:FuncId} {K:Int} {b lg n t:Nat} {l:Nat→Lc} {S:Nat→Prop} {o:OpR} {q q':Sw.Q} {r:Sw.Rq} {x:Tc} {pp:Tc×aC→Prop} {O X:aC} {lv ov:Value} {O2:Value→Value→aC} {w w':World}
section
theorem core_look0 (hl:q.ln=some r) (h0:r.st=0) (w:World):aJ prog 157 #[.pointer (some ⟨A.bsp,0,none⟩),.int .i64 0] w (aE A c q) (.agg #[.int .i64 0,.slice none 0 0,.int .i64 (-1)]) (aE A c q):=eF (t:=q.t) (fr:=q.fr) (ln:=q.ln) (sp_look0 hl h0 w)
theorem core_look2 (hl:q.ln=some r) (h0:r.st=2) (w:World):aJ prog 157 #[.pointer (some ⟨A.bsp,0,none⟩),.int .i64 0] w (aE A c q) (.agg #[.int .i64 2,.slice none 0 0,.int .i64 (-1)]) (aE A c {q with ln:=none}):=eF (t:=q.t) (fr:=q.fr) (sp_look2 hl h0 w)
theorem core_look1 (hl:q.ln=some r) (h0:r.st=1) (w:World):aN prog 157 #[.pointer (some ⟨A.bsp,0,none⟩),.int .i64 0] w (aE A c q) (fun (z:Sl) e=>e=.returned (.agg #[.int .i64 1,.slice z.1 z.2.1 z.2.2,.int .i64 (-1)])) (fun z=>Sep (aE A c {q with ln:=none}) (Got (slV z) r.got)):=core_twoX (t:=q.t) (fr:=q.fr) (sp_look1 hl h0 w)
theorem act_waitA {r:Bool} (hf:(x.pc=0∧f=145)∨(x.pc=1∧f=146)∨(x.pc=2∧f=146))
 (hL:∀ w,aN prog f #[.pointer (some ⟨b,0,none⟩),.pointer (some ⟨A.b,0,none⟩)] w (Sep (aE A c q) (Thr b t ov lv x X)) (fun (y:Tc×aC) e=>e=.returned (.bool r)∧pp y) (fun y=>Sep (aE A c q') (Thr b t ov lv y.1 y.2))) (h:(Sep (aE A c q) (Thr b t ov lv x X)).at_ S w):
 Calls prog 78 #[.pointer (some ⟨b,0,none⟩),.pointer (some ⟨A.b,0,none⟩)] w fun e w'=>∃ (x2:Tc) (X2:aC),e=.returned idle∧pp (x2,X2)∧aA (Sep (aE A c q') (Thr b t ov lv (if r then {x2 with pc:=5} else x2) X2)) S w w':=by
 have g0:=(aA.begin h).moreSt (St.fresh aQ 41)
 generalize hrb:w.heap.size=rb at g0
 have c7:=g0.l.r.ci 7 x.pc
 have HL:=zz ((hL _).l.on g0)
 unfold idle
 simp only [aQ] at*
 clear h g0 hL
 cases r with
 | false=>
  simp only [Bool.false_eq_true,if_false]
  rcases hf with ⟨hp,rfl⟩|⟨hp,rfl⟩|⟨hp,rfl⟩<;>(
   rw [hp] at c7
   clear hp
   go_enter func78,ntmps78
   go_upto_region 1 with fail
   generalize w.alloc _=w1 at*
   go_wp2_with fail
   with_reducible refine HL.out.mono ?_
   rintro e w2 ⟨⟨x2,X2⟩,⟨rfl,hpp⟩,hg⟩
   have HPP:=zz hpp
   clear hpp
   clear HL c7
   have q0_:=hg.r.vi 0 0
   have p0_:=hg.r.vf 0
   have q1_:=hg.r.vi 1 0
   have p1_:=hg.r.vf 1
   have q2_:=hg.r.vi 2 0
   have p2_:=hg.r.vf 2
   have q3_:=hg.r.vb 3 false
   have p3_:=hg.r.vf 3
   have q4_:=hg.r.vC 4 (.complex .f64 0 0)
   have p4_:=hg.r.vf 4
   have g8_:=hg.then (aH (fun S h=>(aA.begin h).p5 (.int .i64 (0)) (.int .i64 (0)) (.int .i64 (0)) (.bool (false)) (.complex .f64 0 0)))
   have k0_:=g8_.r.vi 0 (0)
   have k1_:=g8_.r.vi 1 (0)
   have k2_:=g8_.r.vi 2 (0)
   have k3_:=g8_.r.vb 3 (false)
   have k4_:=g8_.r.vC 4 (.complex .f64 0 0)
   have HF:=zz g8_.l
   clear hg g8_
   go_wp2_with fail
   (try rw [aI])
   exact bodyPost_ret (v:=.tuple #[.agg #[.int .i64 (0),.int .i64 (0),.int .i64 (0),.bool (false),.complex .f64 0 0],.bool false]) (by simp [results,results78,go_sem,k0_,k1_,k2_,k3_,k4_]) rfl ⟨x2,X2,rfl,HPP.out,HF.out⟩)
 | true=>
  simp only [if_true]
  rcases hf with ⟨hp,rfl⟩|⟨hp,rfl⟩|⟨hp,rfl⟩<;>(
   rw [hp] at c7
   clear hp
   go_enter func78,ntmps78
   go_upto_region 1 with fail
   generalize w.alloc _=w1 at*
   go_wp2_with fail
   with_reducible refine HL.out.mono ?_
   rintro e w2 ⟨⟨x2,X2⟩,⟨rfl,hpp⟩,hg0⟩
   have HPP:=zz hpp
   clear hpp
   have d7:=hg0.l.r.ci 7 x2.pc
   have f7:=hg0.l.r.fr 7
   have hg:=hg0.then (aG (fun S h=>aH (B':=Thr b t ov lv {x2 with pc:=5} X2) (fun S h=>(aA.begin h).put 7 (.int .i64 5) (cs':=aM t ov lv {x2 with pc:=5}) rfl) S h))
   clear HL c7 hg0
   go_upto_region 18 with fail
   generalize World.setCell _ _ _=w6 at*
   clear d7 f7
   have q0_:=hg.r.vi 0 0
   have p0_:=hg.r.vf 0
   have q1_:=hg.r.vi 1 0
   have p1_:=hg.r.vf 1
   have q2_:=hg.r.vi 2 0
   have p2_:=hg.r.vf 2
   have q3_:=hg.r.vb 3 false
   have p3_:=hg.r.vf 3
   have q4_:=hg.r.vC 4 (.complex .f64 0 0)
   have p4_:=hg.r.vf 4
   have g8_:=hg.then (aH (fun S h=>(aA.begin h).p5 (.int .i64 (0)) (.int .i64 (0)) (.int .i64 (0)) (.bool (false)) (.complex .f64 0 0)))
   have k0_:=g8_.r.vi 0 (0)
   have k1_:=g8_.r.vi 1 (0)
   have k2_:=g8_.r.vi 2 (0)
   have k3_:=g8_.r.vb 3 (false)
   have k4_:=g8_.r.vC 4 (.complex .f64 0 0)
   have HF:=zz g8_.l
   clear hg g8_
   go_wp2_with fail
   (try rw [aI])
   exact bodyPost_ret (v:=.tuple #[.agg #[.int .i64 (0),.int .i64 (0),.int .i64 (0),.bool (false),.complex .f64 0 0],.bool false]) (by simp [results,results78,go_sem,k0_,k1_,k2_,k3_,k4_]) rfl ⟨x2,X2,rfl,HPP.out,HF.out⟩)
end
section
variable {og oo no oc:Nat} {G:Sl→aC}
def WtR (A:CA) (c:Cf) (q':Sw.Q) (L:Tc→aC) (x:Tc) (G:Sl→aC) (K:Int) (rv:Rs) (O2:Value→Value→aC):Prop:=
 (K=0∧rv=⟨0,0,0,false,0,0,false⟩∧O2=fun _ _=>Sep (aE A c q') (L {x with pc:=0}))∨
 (K=2∧rv=⟨x.nx,x.own,6,false,0,0,true⟩∧O2=fun _ _=>Sep (aE A c q') (L x.next))∨
 (K=1∧rv=⟨0,0,0,false,0,0,false⟩∧∃ i,i<c.frags∧(G=fun z=>Got (slV z) i)∧O2=fun v u=>Sep (Sep (Sep (aE A c q') (L {x with wr:=u,got:=v,ph:=2,at_:=7})) (Got v i)) (Seq 2 u 8 (wc i (yl c.refs) 8)))
theorem act_waitS {rv:Rs} (hc:c.ok) (hs:c.shapes[0]? = some (false,c.refs)) (hk:o.kd=1) (hb:o.b=0) (hph:¬x.ph=4) (hpc:x.pc=5) (hnx:x.nx<no) (hn1:no≤1000)
 (hO:∀ (y:Tc) S w,y.nx=x.nx→(Thr b 0 ov lv y X).at_ S w→WCells b og oo no oc x.nx y.at_ o w) (hR:WtR A c q' (fun x=>Thr b 0 ov lv x X) x G K rv O2)
 (hA:∀ w,aN prog 157 #[.pointer (some ⟨A.bsp,0,none⟩),.int .i64 0] w (aE A c q) (fun (z:Sl) e=>e=.returned (.agg #[.int .i64 K,.slice z.1 z.2.1 z.2.2,.int .i64 (-1)])) (fun z=>Sep (aE A c q') (G z)))
 (h:(Sep (aE A c q) (Thr b 0 ov lv x X)).at_ S w):
 Calls prog 78 #[.pointer (some ⟨b,0,none⟩),.pointer (some ⟨A.b,0,none⟩)] w fun e w'=>∃ v u:Value,e=.returned rv.v∧aA (O2 v u) S w w':=by
 have g0:=(aA.begin h).moreSt (St.fresh aQ 41)
 generalize hrb:w.heap.size=rb at g0
 have c7:=g0.l.r.ci 7 x.pc
 rw [hpc] at c7
 have g3:=g0.drew_
 have hoc:opc o=#[.int .i64 1,.int .i64 (o.a:Int),.int .i64 0,.int .i64 (o.c:Int),.int .i64 (o.n:Int),.complex .f64 o.z1 o.z2]:=by unfold opc;rw [hk,hb];rfl
 have hlt:(x.nx:Int)<(no:Int):=by omega
 have HA:=zz hA
 have HC:=zz (And.intro hc (And.intro hs (And.intro hk (And.intro hb (And.intro hO (And.intro hph (And.intro hR hoc)))))))
 unfold Rs.v
 simp only [aQ] at*
 clear h g0 hA hc hs hO hR hoc hpc
 go_enter func78,ntmps78
 go_upto_region 1 with fail
 generalize w.alloc _=w1 at*
 go_upto_region 5 with fail
 clear c7
 refine wp_region_held_drew (S:=(fun w'=>w'.cell? ⟨A.b,11,none⟩=some (.pointer (some ⟨A.bsp,0,none⟩))∧w'.cell? ⟨b,0,none⟩=some (.int .i64 0))) (by kernel_rfl) ⟨g3.l.l.cp 11 A.bsp,g3.l.r.ci 0 0⟩ (fun hHeld=>?_)
 generalize w1.drew=wd at*
 refine tk 0 ?_
 refine tk 1 ?_
 refine tk 2 ?_
 refine tk 3 ?_
 refine tk 4 ?_
 refine tk 5 ?_
 refine tk 6 ?_
 refine tk 7 ?_
 refine wpAnyH_ready (rs:=[8,9]) (by kernel_rfl) (by simp) ?_
 refine AllReadyH.cons (o:=_) rfl ?cA (AllReadyH.cons (o:=_) rfl ?cB AllReadyH.nil)
 case' cA=>
  intro K0 hK
  have HLA:=zz ((HA.out _).lX.lX.on g3)
  go_simp
  with_reducible refine HLA.out.mono ?_
  rintro e w4 ⟨v,rfl,hgx⟩
  go_wp2_with fail
  refine hK.out _ _ ⟨hgx.l.l.l.cp 11 A.bsp,hgx.l.l.r.ci 0 0⟩ (fun hHeld=>?_)
  clear hK K0 HLA
  try simp only [Act.put,List.setIfInBounds_toArray,List.set_cons_zero,List.set_cons_succ]
  refine rdy 9 fun K hK=>?_
  go_simp
  have hz:=hgx.moreSt (St.fresh #[.int .i64 0,.slice none 0 0,.int .i64 0] 233)
  refine hK.out _ _ ⟨hz.l.l.l.l.cp 11 A.bsp,hz.l.l.l.r.ci 0 0⟩ (fun hHeld=>?_)
  clear hK K
  generalize w4.heap.size=gb at*
  generalize w4.alloc _=we at*
  try simp only [Act.put,List.setIfInBounds_toArray,List.set_cons_zero,List.set_cons_succ]
 case' cB=>
  intro K0 hK
  go_simp
  have hz0:=g3.moreSt (St.fresh #[.int .i64 0,.slice none 0 0,.int .i64 0] 233)
  refine hK.out _ _ ⟨hz0.l.l.l.cp 11 A.bsp,hz0.l.l.r.ci 0 0⟩ (fun hHeld=>?_)
  clear hK K0
  generalize wd.heap.size=gb at*
  generalize wd.alloc _=we at*
  try simp only [Act.put,List.setIfInBounds_toArray,List.set_cons_zero,List.set_cons_succ]
  have HLA:=zz ((HA.out _).lX.lX.lX.on hz0)
  refine rdy 8 fun K hK=>?_
  go_simp
  with_reducible refine HLA.out.mono ?_
  rintro e w4 ⟨v,rfl,hgx⟩
  go_wp2_with fail
  refine hK.out _ _ ⟨hgx.l.l.l.l.cp 11 A.bsp,hgx.l.l.l.r.ci 0 0⟩ (fun hHeld=>?_)
  clear hK K HLA
  try simp only [Act.put,List.setIfInBounds_toArray,List.set_cons_zero,List.set_cons_succ]
  have hz:=hgx.conv fun S w h=>aB.rot h
  clear hz0
 all_goals (
  have y0:=hz.r.vi 0 0
  have y1:=hz.r.vC 1 (.slice none 0 0)
  have y2:=hz.r.vi 2 0
  have z0:=hz.r.vf 0
  have z1:=hz.r.vf 1
  have z2:=hz.r.vf 2
  have hg4:=hz.then (aH (fun S h=>(((aA.begin h).vput 0 (.int .i64 K) rfl).vput 1 (.slice v.1 v.2.1 v.2.2) rfl).vput 2 (.int .i64 (-1)) rfl))
  refine rdy 10 fun K hK=>?_
  go_simp
  refine hK.out _ _ ⟨hg4.l.l.l.l.cp 11 A.bsp,hg4.l.l.l.r.ci 0 0⟩ (fun hHeld=>?_)
  clear hK K hHeld hgx hz g3 y0 y1 y2 z0 z1 z2
  generalize World.setCell _ _ _=w5 at*
  try simp only [Act.put,List.setIfInBounds_toArray,List.set_cons_zero,List.set_cons_succ]
  refine wpAnyH_done (by kernel_rfl) ?_ _
  have hg5:aA (Sep (Sep (Sep (Sep (aE A c q') (Thr b 0 ov lv x X)) (Var rb #[.int .i64 0,.int .i64 0,.int .i64 0,.bool false,.complex .f64 0 0] 41)) (G v)) (Var gb #[.int .i64 K,.slice v.1 v.2.1 v.2.2,.int .i64 (-1)] 233)) S w w5:=hg4
  clear hg4 HA
  obtain ⟨hc,hs,hk,hb,hO,hph,hR,hoc⟩:=HC.out
  clear HC
  rcases hR with ⟨rfl,rfl,hO2⟩|⟨rfl,rfl,hO2⟩|⟨rfl,rfl,i,hi,hG,hO2⟩
  · have HO2:=zz hO2
    clear hO2
    have q0:=hg5.r.vi 0 0
    have d7:=hg5.l.l.l.r.ci 7 x.pc
    have f7:=hg5.l.l.l.r.fr 7
    have hg:=(hg5.then (aG (aG (aG (fun S h=>aH (B':=Thr b 0 ov lv {x with pc:=0} X) (fun S h=>(aA.begin h).put 7 (.int .i64 0) (cs':=aM 0 ov lv {x with pc:=0}) rfl) S h))))).l.l
    clear hg5 hc hs hk hb hO hph hoc
    go_upto_region 18 with fail
    generalize World.setCell _ _ _=w6 at*
    clear d7 f7 q0
    have q0_:=hg.r.vi 0 0
    have p0_:=hg.r.vf 0
    have q1_:=hg.r.vi 1 0
    have p1_:=hg.r.vf 1
    have q2_:=hg.r.vi 2 0
    have p2_:=hg.r.vf 2
    have q3_:=hg.r.vb 3 false
    have p3_:=hg.r.vf 3
    have q4_:=hg.r.vC 4 (.complex .f64 0 0)
    have p4_:=hg.r.vf 4
    have g8_:=hg.then (aH (fun S h=>(aA.begin h).p5 (.int .i64 (0)) (.int .i64 (0)) (.int .i64 (0)) (.bool (false)) (.complex .f64 0 0)))
    have k0_:=g8_.r.vi 0 (0)
    have k1_:=g8_.r.vi 1 (0)
    have k2_:=g8_.r.vi 2 (0)
    have k3_:=g8_.r.vb 3 (false)
    have k4_:=g8_.r.vC 4 (.complex .f64 0 0)
    have HF:=zz g8_.l
    clear hg g8_
    go_wp2_with fail
    (try rw [aI])
    exact bodyPost_ret (v:=.tuple #[.agg #[.int .i64 (0),.int .i64 (0),.int .i64 (0),.bool (false),.complex .f64 0 0],.bool false]) (by simp [results,results78,go_sem,k0_,k1_,k2_,k3_,k4_]) rfl ⟨rfl,.bool false,.bool false,by rw [HO2.out];exact HF.out⟩
  · have HO2:=zz hO2
    clear hO2
    have q0:=hg5.r.vi 0 2
    have HT:=zz (hg5.l.l.call (bR (cY fun S h=>act_fails (er:=6) (by decide) hph (by omega) h)))
    unfold Rs.v at HT
    clear hg5 hc hs hk hb hO hph hoc
    go_wp2_with fail
    refine qz HT.out fun w6 hg=>?_
    clear HT q0
    have q0_:=hg.r.vi 0 0
    have p0_:=hg.r.vf 0
    have q1_:=hg.r.vi 1 0
    have p1_:=hg.r.vf 1
    have q2_:=hg.r.vi 2 0
    have p2_:=hg.r.vf 2
    have q3_:=hg.r.vb 3 false
    have p3_:=hg.r.vf 3
    have q4_:=hg.r.vC 4 (.complex .f64 0 0)
    have p4_:=hg.r.vf 4
    have g8_:=hg.then (aH (fun S h=>(aA.begin h).p5 (.int .i64 (x.nx)) (.int .i64 (x.own)) (.int .i64 (6)) (.bool (false)) (.complex .f64 0 0)))
    have k0_:=g8_.r.vi 0 (x.nx)
    have k1_:=g8_.r.vi 1 (x.own)
    have k2_:=g8_.r.vi 2 (6)
    have k3_:=g8_.r.vb 3 (false)
    have k4_:=g8_.r.vC 4 (.complex .f64 0 0)
    have HF:=zz g8_.l
    clear hg g8_
    go_wp2_with fail
    (try rw [aI])
    exact bodyPost_ret (v:=.tuple #[.agg #[.int .i64 (x.nx),.int .i64 (x.own),.int .i64 (6),.bool (false),.complex .f64 0 0],.bool true]) (by simp [results,results78,go_sem,k0_,k1_,k2_,k3_,k4_]) rfl ⟨rfl,.bool false,.bool false,by rw [HO2.out];exact HF.out⟩
  · have HO2:=zz hO2
    clear hO2
    subst hG
    obtain ⟨gs,go,cp,hv,_,_⟩:=bN hg5.l.r.is
    obtain ⟨v0,v1,v2⟩:=v
    cases hv
    have hg5:aA (Sep (Sep (Sep (Sep (aE A c q') (Thr b 0 ov lv x X)) (Var rb #[.int .i64 0,.int .i64 0,.int .i64 0,.bool false,.complex .f64 0 0] 41)) (Got (.slice (some ⟨gs,go,none⟩) 1 v2) i)) (Var gb #[.int .i64 1,.slice (some ⟨gs,go,none⟩) 1 v2,.int .i64 (-1)] 233)) S w w5:=hg5
    have q0:=hg5.r.vi 0 1
    have HT:=zz fun w1 (gg:aA (Sep (Sep (Sep (Sep (aE A c q') (Thr b 0 ov lv x X)) (Var rb #[.int .i64 0,.int .i64 0,.int .i64 0,.bool false,.complex .f64 0 0] 41)) (Got (.slice (some ⟨gs,go,none⟩) 1 v2) i)) (Var gb #[.int .i64 1,.slice (some ⟨gs,go,none⟩) 1 v2,.int .i64 (-1)] 233)) S w w1)=>((gg.conv fun S w h=>aB.monoL (fun S h=>aB.rot h) h).callx (aN.lX (aN.lX (R:=fun (_:Value) e=>e=.returned (.bool true)) (O1:=fun u=>Sep (Sep (aE A c q') (Thr b 0 ov lv {x with wr:=u,got:=.slice (some ⟨gs,go,none⟩) 1 v2,ph:=2,at_:=7} X)) (Got (.slice (some ⟨gs,go,none⟩) 1 v2) i)) (Y:=fun u=>Seq 2 u 8 (wc i (yl c.refs) 8)) fun S h=>act_takes (o:=o) hc hi hs hk hb h)))
    rw [hoc] at HT
    have g6:=hg5.drew_
    have HW:=hO x _ _ rfl g6.l.l.l.r.is
    have h11:=HW.p0
    have h12:=HW.p2
    rw [hk] at h11
    rw [hb] at h12
    have S1_:=And.intro HW.c1 (And.intro HW.c6 (And.intro h11 (And.intro HW.p1 (And.intro h12 (And.intro HW.p3 (And.intro HW.p4 (And.intro HW.p5 (And.intro (g6.r.vi 0 1) (And.intro (g6.r.vC 1 (.slice (some ⟨gs,go,none⟩) 1 v2)) (g6.r.vi 2 (-1)))))))))))
    have HCC:=zz (HT.out _ g6)
    have HO:=zz (And.intro hO (And.intro hk hb))
    clear hg5 HT hc hs hk hb hph hoc HW h11 h12 g6 hO
    go_upto_region 11 with fail
    clear q0
    refine wp_region_held_drew (S:=(fun w'=>w'.cell? ⟨b,1,none⟩=some (.slice (some ⟨og,oo,none⟩) no oc)∧w'.cell? ⟨b,6,none⟩=some (.int .i64 (x.nx:Int))∧w'.cell? ⟨og,oo+x.nx*6,none⟩=some (.int .i64 1)∧w'.cell? ⟨og,oo+x.nx*6+1,none⟩=some (.int .i64 (o.a:Int))∧w'.cell? ⟨og,oo+x.nx*6+2,none⟩=some (.int .i64 0)∧w'.cell? ⟨og,oo+x.nx*6+3,none⟩=some (.int .i64 (o.c:Int))∧w'.cell? ⟨og,oo+x.nx*6+4,none⟩=some (.int .i64 (o.n:Int))∧w'.cell? ⟨og,oo+x.nx*6+5,none⟩=some (.complex .f64 o.z1 o.z2)∧w'.cell? ⟨gb,0,none⟩=some (.int .i64 1)∧w'.cell? ⟨gb,1,none⟩=some (.slice (some ⟨gs,go,none⟩) 1 v2)∧w'.cell? ⟨gb,2,none⟩=some (.int .i64 (-1)))) (by kernel_rfl) S1_ (fun hHeld=>?_)
    generalize w5.drew=wd5 at*
    refine tk 0 ?_
    refine tk 1 ?_
    refine tk 2 ?_
    refine tk 3 ?_
    refine tk 4 ?_
    refine tk 5 ?_
    refine tk 6 ?_
    refine tk 7 ?_
    refine tk 8 ?_
    refine tk 9 ?_
    refine tk 10 ?_
    refine tk 11 ?_
    refine tk 12 ?_
    refine rdy 13 fun K hK=>?_
    go_simp
    with_reducible refine HCC.out.mono ?_
    rintro e w6 ⟨u,rfl,hgy⟩
    have HW:=HO.out.1 {x with wr:=u,got:=.slice (some ⟨gs,go,none⟩) 1 v2,ph:=2,at_:=7} _ _ rfl hgy.l.l.l.l.r.is
    have h11:=HW.p0
    have h12:=HW.p2
    rw [HO.out.2.1] at h11
    rw [HO.out.2.2] at h12
    go_wp2_with fail
    refine hK.out _ _ (And.intro HW.c1 (And.intro HW.c6 (And.intro h11 (And.intro HW.p1 (And.intro h12 (And.intro HW.p3 (And.intro HW.p4 (And.intro HW.p5 (And.intro (hgy.l.r.vi 0 1) (And.intro (hgy.l.r.vC 1 (.slice (some ⟨gs,go,none⟩) 1 v2)) (hgy.l.r.vi 2 (-1)))))))))))) (fun hHeld=>?_)
    clear hK K HW h11 h12 HO
    try simp only [Act.put,List.setIfInBounds_toArray,List.set_cons_zero,List.set_cons_succ]
    refine tk 14 ?_
    refine wpAnyH_done (by kernel_rfl) ?_ _
    clear hHeld S1_ HCC
    have hg7:=(hgy.conv fun S w h=>aB.rot h).l
    have hg:=hg7.conv fun S w h=>aB.rot h
    clear hgy hg7
    go_upto_region 18 with fail
    have q0_:=hg.r.vi 0 0
    have p0_:=hg.r.vf 0
    have q1_:=hg.r.vi 1 0
    have p1_:=hg.r.vf 1
    have q2_:=hg.r.vi 2 0
    have p2_:=hg.r.vf 2
    have q3_:=hg.r.vb 3 false
    have p3_:=hg.r.vf 3
    have q4_:=hg.r.vC 4 (.complex .f64 0 0)
    have p4_:=hg.r.vf 4
    have g8_:=hg.then (aH (fun S h=>(aA.begin h).p5 (.int .i64 (0)) (.int .i64 (0)) (.int .i64 (0)) (.bool (false)) (.complex .f64 0 0)))
    have k0_:=g8_.r.vi 0 (0)
    have k1_:=g8_.r.vi 1 (0)
    have k2_:=g8_.r.vi 2 (0)
    have k3_:=g8_.r.vb 3 (false)
    have k4_:=g8_.r.vC 4 (.complex .f64 0 0)
    have HF:=zz g8_.l
    clear hg g8_
    go_wp2_with fail
    (try rw [aI])
    exact bodyPost_ret (v:=.tuple #[.agg #[.int .i64 (0),.int .i64 (0),.int .i64 (0),.bool (false),.complex .f64 0 0],.bool false]) (by simp [results,results78,go_sem,k0_,k1_,k2_,k3_,k4_]) rfl ⟨rfl,.slice (some ⟨gs,go,none⟩) 1 v2,u,by rw [HO2.out];exact HF.out⟩)
end
end
section
open Go.Proofs.Tryz
open Go.RowKit
variable {A:CA} {c:Cf} {f:FuncId} {g:List Nat} {i no t:Nat} {o:Nat→Opn} {S:Nat→Prop} {q q':Sw.Q} {r:Sw.Rq} {rs:Sw.Rs} {p p':Sw.T} {a:TA} {x:Tc} {E:aC} {w w':World}
section
variable {r:Bool}
def waF (p:Sw.T) (f:FuncId):Prop:=(p.pc=0∧f=145)∨(p.pc=1∧f=146)∨(p.pc=2∧f=146)
theorem rs0V:idle=rsV Sw.rs0 0:=by unfold idle rsV Rs.v Sw.rs0 Sw.w0;simp only [fl0];rfl
def waX (r:Bool) (x:Tc):Tc:=if r then {x with pc:=5} else x
theorem tr_wa {r:Bool} (hph:p.ph=3) (hpc:waF p f) (h:∀ x,eH p x→∀ S w,(Sep (aE A c q) (ThP c a t no o x p.l (ThK c p x))).at_ S w→
 Calls prog f #[.pointer (some ⟨a.b,0,none⟩),.pointer (some ⟨A.b,0,none⟩)] w fun e w'=>e=.returned (.bool r)∧∃ x' E,(eH p' (waX r x')∧ThK c p' (waX r x')=E)∧aA (Sep (aE A c q') (ThP c a t no o x' p'.l E)) S w w'):
 bG A c a t no o q p q' p' Sw.rs0:=
 gR hph fun x ok S w hx=>by
  have H:=act_waitA (b:=a.b) (t:=t) (ov:=a.ov no) (lv:=.slice (some ⟨a.lg,0,none⟩) c.locals c.locals) (x:=x) (X:=Sep (bV a.lg (c.locals*2) 39 (cG p.l)) (Sep (Ops (a.ov no) no o) (ThK c p x))) (f:=f) (r:=r) (q:=q) (q':=q') (A:=A) (c:=c)
   (pp:=fun y=>∃ E,y.2=Sep (bV a.lg (c.locals*2) 39 (cG p'.l)) (Sep (Ops (a.ov no) no o) E)∧eH p' (waX r y.1)∧ThK c p' (waX r y.1)=E)
   (by rw [ok.pc];exact hpc) (fun w S hS=>(h x ok S w hS).mono fun e w' ⟨he,x',E,hk,hg⟩=>⟨(x',Sep (bV a.lg (c.locals*2) 39 (cG p'.l)) (Sep (Ops (a.ov no) no o) E)),⟨he,E,rfl,hk.1,hk.2⟩,hg⟩) hx
  refine H.mono ?_
  rintro e w' ⟨x2,X2,he,⟨E,hX,hk⟩,hg⟩
  simp only at hX
  subst hX
  exact ⟨(waX r x2,E),⟨0,by rw [he,rs0V]⟩,hk,hg⟩
theorem ts_look3 (P:dB c q p t no o) (h:p.ph=3) (hpc:p.pc=0) (hst:q.st≠p.st):bG A c a t no o q p q (lB c q p) Sw.rs0:=
 tr_wa (r:=false) (f:=145) h (.inl ⟨hpc,rfl⟩) fun x ok S w hx=>(looks_all P (.inr h) hpc hst ok hx).mono fun e w' ⟨he,x',ok',hg⟩=>⟨he,x',_,⟨ok'.1,rfl⟩,hg⟩
theorem ts_grey3 (P:dB c q p t no o) (h:p.ph=3) (hpc:p.pc=1) (hgr:p.grey=i::g) (hi:i<c.frags):bG A c a t no o q p (q.grey c i p.sn) (greyP p g) Sw.rs0:=
 tr_wa (r:=false) (f:=146) h (.inr (.inl ⟨hpc,rfl⟩)) fun x ok S w hx=>(lL P (.inr h) hpc hgr hi ok hx).mono fun e w' ⟨he,x',ok',hg⟩=>⟨he,x',_,⟨ok'.1,rfl⟩,hg⟩
theorem ts_same (P:dB c q p t no o) (h:p.ph=3) (hpc:p.pc=0) (hst:q.st=p.st):bG A c a t no o q p q {p with pc:=5} Sw.rs0:=
 tr_wa (r:=true) (f:=145) h (.inl ⟨hpc,rfl⟩) fun x ok S w hx=>by
  rw [bB (by simp [h]) (by simp [hpc])] at hx
  refine (iE (x:=x) (by rw [ok.st,hst]) hx).mono fun e w' ⟨he,hg⟩=>⟨he,x,Emp,⟨⟨ok.ph,ok.st,ok.sn,ok.nx,rfl,?_,?_,?_,?_,?_⟩,bB (by simp [h]) (by simp)⟩,hg⟩<;>simp [h]
theorem ts_answer3 (P:dB c q p t no o) (h:p.ph=3) (hpc:p.pc=2) (ho:q.own t≠-1) (hs0:0≤p.seen) (hs4:p.seen≤4):bG A c a t no o q p {q with own:=Sw.set q.own t p.seen} {p with st:=p.seen,pc:=5} Sw.rs0:=
 tr_wa (r:=true) (f:=146) h (.inr (.inr ⟨hpc,rfl⟩)) fun x ok S w hx=>by
  have e:=ok.seen (.inr h) (.inr hpc)
  rw [←e] at hs0 hs4
  rw [bB (by simp [h]) (by simp [hpc])] at hx
  refine (gN (x:=x) (by rw [ok.pc,hpc]) P.ht P.hc ho hs0 hs4 hx).mono fun e' w' ⟨he,hg⟩=>?_
  rw [show ({q with own:=Sw.set q.own t x.seen}:Sw.Q)={q with own:=Sw.set q.own t p.seen} by rw [e]] at hg
  refine ⟨he,{x with st:=x.seen},Emp,⟨⟨ok.ph,e,ok.sn,ok.nx,rfl,?_,?_,?_,?_,?_⟩,bB (by simp [h]) (by simp)⟩,hg⟩<;>simp [h]
theorem jS (P:dB c q p 0 no o) (hn:p.nx<no) (ok:eH p x):∀ (y:Tc) S w,y.nx=x.nx→(Thr a.b 0 (a.ov no) (.slice (some ⟨a.lg,0,none⟩) c.locals c.locals) y (Sep (bV a.lg (c.locals*2) 39 (cG p.l)) (Sep (Ops (a.ov no) no o) E))).at_ S w→
 WCells a.b a.og a.oo no a.oc x.nx y.at_ (o p.nx).r w:=fun y S w hy h=>by
 have:=th_wcells (c:=c) (a:=a) (t:=0) (no:=no) (o:=o) (x:=y) (l:=p.l) (E:=E) (by rw [hy,ok.nx];exact hn) h
 rw [hy,ok.nx] at this
 rw [ok.nx];exact this
theorem ts_still {r:Sw.Rq} (P:dB c q p 0 no o) (h:p.ph=3) (hpc:p.pc=5) (hn:p.nx<no) (hk:(o p.nx).kd=1) (hl:q.ln=some r) (h0:r.st=0):bG A c a 0 no o q p q {p with pc:=0} Sw.rs0:=
 gR h fun x ok S w hx=>by
  rw [bB (by simp [h]) (by simp [hpc])] at hx
  have hI:=P.ho _ hn
  refine (act_waitS (x:=x) (o:=(o p.nx).r) (G:=fun _=>Emp) (K:=0) (no:=no) P.hc P.sh hk (hI.b1 hk) (by rw [ok.ph,h];decide) (by rw [ok.pc,hpc]) (by rw [ok.nx];exact hn) P.hno (jS P hn ok) (.inl ⟨rfl,rfl,rfl⟩)
   (fun w S hS=>(core_look0 hl h0 w S hS).mono fun e w' ⟨he,hg⟩=>⟨s0,he,hg.conv fun _ _ h=>emp_add h⟩) hx).mono ?_
  rintro e w' ⟨v,u,he,hg⟩
  refine ⟨({x with pc:=0},Emp),⟨0,by rw [he];unfold rsV Sw.rs0 Sw.w0;simp only [fl0];rfl⟩,⟨⟨ok.ph,ok.st,ok.sn,ok.nx,rfl,?_,?_,?_,?_,?_⟩,bB (by simp [h]) (by simp)⟩,hg⟩<;>simp [h]
theorem ts_granted {r:Sw.Rq} (P:dB c q p 0 no o) (h:p.ph=3) (hpc:p.pc=5) (hn:p.nx<no) (hk:(o p.nx).kd=1) (hl:q.ln=some r) (h0:r.st=1) (hg0:r.got<c.frags):bG A c a 0 no o q p {q with ln:=none} {p with ph:=2,at_:=7,got:=r.got,wk:=0} Sw.rs0:=
 gR h fun x ok S w hx=>by
  rw [bB (by simp [h]) (by simp [hpc])] at hx
  have hI:=P.ho _ hn
  refine (act_waitS (x:=x) (o:=(o p.nx).r) (K:=1) (no:=no) P.hc P.sh hk (hI.b1 hk) (by rw [ok.ph,h];decide) (by rw [ok.pc,hpc]) (by rw [ok.nx];exact hn) P.hno (jS P hn ok) (.inr (.inr ⟨rfl,rfl,r.got,hg0,rfl,rfl⟩))
   (fun w=>core_look1 hl h0 w) hx).mono ?_
  rintro e w' ⟨v,u,he,hg⟩
  refine ⟨({x with wr:=u,got:=v,ph:=2,at_:=7},Sep (Got v r.got) (Seq 2 u 8 (wd r.got (yl c.refs) 0 8))),⟨0,by rw [he];unfold rsV Sw.rs0 Sw.w0;simp only [fl0];rfl⟩,⟨⟨rfl,ok.st,ok.sn,ok.nx,ok.pc,?_,fun _=>rfl,?_,?_,?_⟩,?_⟩,?_⟩
  · simp
  · simp
  · simp
  · simp
  · simp [ThK]
  · rw [←wd_all]
    exact hg.conv fun S w h=>th_in (aB.assoc (aB.monoL (fun _ h=>aB.monoL (fun _ h=>fU (th_out h)) h) h))
theorem ts_failed {r:Sw.Rq} (P:dB c q p 0 no o) (h:p.ph=3) (hpc:p.pc=5) (hn:p.nx<no) (hk:(o p.nx).kd=1) (hl:q.ln=some r) (h0:r.st=2):bG A c a 0 no o q p {q with ln:=none} (p.er 6).1 (p.er 6).2:=
 gR h fun x ok S w hx=>by
  rw [bB (by simp [h]) (by simp [hpc])] at hx
  have hI:=P.ho _ hn
  refine (act_waitS (x:=x) (o:=(o p.nx).r) (G:=fun _=>Emp) (K:=2) (no:=no) P.hc P.sh hk (hI.b1 hk) (by rw [ok.ph,h];decide) (by rw [ok.pc,hpc]) (by rw [ok.nx];exact hn) P.hno (jS P hn ok) (.inr (.inl ⟨rfl,rfl,rfl⟩))
   (fun w S hS=>(core_look2 hl h0 w S hS).mono fun e w' ⟨he,hg⟩=>⟨s0,he,hg.conv fun _ _ h=>emp_add h⟩) hx).mono ?_
  rintro e w' ⟨v,u,he,hg⟩
  refine ⟨(x.next,Emp),⟨x.own,?_⟩,kY ok rfl rfl rfl rfl rfl rfl rfl rfl,hg⟩
  rw [he,ok.nx];unfold rsV Sw.T.er Sw.w0;simp only [fl0]
end
end
section
attribute [local go_sem] aF aI aO aV
open Go.Proofs.Tryz
open Go.RowKit
variable {A:CA} {c:Cf} {Fr b j lg n t:Nat} {l:Nat→Lc} {S:Nat→Prop} {o:OpR} {q:Sw.Q} {x:Tc} {X:aC} {lv ov:Value} {w w':World}
section
theorem act_program3 (hc:c.ok) (hFr:Fr<c.frags) (hk:o.kd=3) (hjo:o.b=j) (hj:j<n) (hs:(l j).k≤63∧(l j).i≤63) (hix:ixI (l j).k (l j).i=(Fr:Int)) (h:(Sep (aE A c q) (aT b t ov lg n x l X)).at_ S w):
 Calls prog 223 #[.pointer (some ⟨A.b,0,none⟩),.agg (opc o),.func (.func 224) #[.pointer (some ⟨b,0,none⟩)] #[]] w fun e w'=>∃ fb g' cap',e=.returned (.pointer (some ⟨fb,0,none⟩))∧aA (Sep (Sep (aE A c q) (aT b t ov lg n x l X)) (dK fb c g' cap' ⟨Fr,o.n,0,-1,false,0⟩)) S w w':=by
 have hoc:opc o=#[.int .i64 3,.int .i64 (o.a:Int),.int .i64 (j:Int),.int .i64 (o.c:Int),.int .i64 (o.n:Int),.complex .f64 o.z1 o.z2]:=by unfold opc;rw [hk,hjo];rfl
 rw [hoc]
 have g0:=(aA.begin h).moreSt (St.fresh #[.int .i64 3,.int .i64 (o.a:Int),.int .i64 (j:Int),.int .i64 (o.c:Int),.int .i64 (o.n:Int),.complex .f64 o.z1 o.z2] 27)
 obtain ⟨vb,hvb⟩:∃ k,w.heap.size=k:=⟨_,rfl⟩
 rw [hvb] at g0
 have o0:=g0.r.vi 0 3
 have g1:=g0.drew_
 obtain ⟨c0,c1,c2,c3,c4,c5,c6,c7,c8⟩:=eG g1.l.l
 have p2:=g1.r.vi 2 (j:Int)
 have p4:=g1.r.vi 4 (o.n:Int)
 have HB:=zz ((act_head hj hs g1.l.r.is).mono fun e w' ⟨h1,h2⟩=>(⟨by rw [h1,hix],h2.symm⟩:e=Ending.returned (.int .i64 (Fr:Int))∧w'=_))
 have HL:=zz (find_field Fr o.n hc (bO g1.l.l.is).choose_spec)
 have HG:=zz g1.l
 unfold cfV at HL
 clear h g0 g1 hc hk hjo hoc hs hix
 go_enter func223,ntmps223
 go_upto_region 1 with fail
 generalize w.alloc _=w1 at*
 go_wp2_with fail
 go_still_tail 10,(by kernel_rfl)
 still_call HB.out
 repeat still_step
 refine wpStill_nil ?_
 change wpList _ _ _ _ _ w1.drew
 generalize w1.drew=w2 at*
 go_wp2_with fail
 with_reducible refine HL.out.mono ?_
 rintro e w3 ⟨fb,g',cap',rfl,hst⟩
 have hg:=zz (HG.out.moreSt hst)
 clear HB HL HG hst c0 c1 c2 c3 c4 c5 c6 c7 c8 o0 p2 p4
 go_wp2_with fail
 go_ret
 exact ⟨fb,g',cap',rfl,hg.out⟩
theorem act_program4 (hc:c.ok) (hFr:Fr<c.frags) (hk:o.kd=4) (hjo:o.a=j) (hj:j<n) (hs:(l j).k≤63∧(l j).i≤63) (hix:ixI (l j).k (l j).i=(Fr:Int)) (h:(Sep (aE A c q) (aT b t ov lg n x l X)).at_ S w):
 Calls prog 223 #[.pointer (some ⟨A.b,0,none⟩),.agg (opc o),.func (.func 224) #[.pointer (some ⟨b,0,none⟩)] #[]] w fun e w'=>∃ fb g' cap',e=.returned (.pointer (some ⟨fb,0,none⟩))∧aA (Sep (Sep (aE A c q) (aT b t ov lg n x l X)) (dK fb c g' cap' ⟨Fr,o.n,0,-1,false,0⟩)) S w w':=by
 have hoc:opc o=#[.int .i64 4,.int .i64 (j:Int),.int .i64 (o.b:Int),.int .i64 (o.c:Int),.int .i64 (o.n:Int),.complex .f64 o.z1 o.z2]:=by unfold opc;rw [hk,hjo];rfl
 rw [hoc]
 have g0:=(aA.begin h).moreSt (St.fresh #[.int .i64 4,.int .i64 (j:Int),.int .i64 (o.b:Int),.int .i64 (o.c:Int),.int .i64 (o.n:Int),.complex .f64 o.z1 o.z2] 27)
 obtain ⟨vb,hvb⟩:∃ k,w.heap.size=k:=⟨_,rfl⟩
 rw [hvb] at g0
 have o0:=g0.r.vi 0 4
 have g1:=g0.drew_
 obtain ⟨c0,c1,c2,c3,c4,c5,c6,c7,c8⟩:=eG g1.l.l
 have p1:=g1.r.vi 1 (j:Int)
 have p4:=g1.r.vi 4 (o.n:Int)
 have HB:=zz ((act_head hj hs g1.l.r.is).mono fun e w' ⟨h1,h2⟩=>(⟨by rw [h1,hix],h2.symm⟩:e=Ending.returned (.int .i64 (Fr:Int))∧w'=_))
 have HL:=zz (find_field Fr o.n hc (bO g1.l.l.is).choose_spec)
 have HG:=zz g1.l
 unfold cfV at HL
 clear h g0 g1 hc hk hjo hoc hs hix
 go_enter func223,ntmps223
 go_upto_region 1 with fail
 generalize w.alloc _=w1 at*
 go_wp2_with fail
 go_still_tail 10,(by kernel_rfl)
 still_call HB.out
 repeat still_step
 refine wpStill_nil ?_
 change wpList _ _ _ _ _ w1.drew
 generalize w1.drew=w2 at*
 go_wp2_with fail
 with_reducible refine HL.out.mono ?_
 rintro e w3 ⟨fb,g',cap',rfl,hst⟩
 have hg:=zz (HG.out.moreSt hst)
 clear HB HL HG hst c0 c1 c2 c3 c4 c5 c6 c7 c8 o0 p1 p4
 go_wp2_with fail
 go_ret
 exact ⟨fb,g',cap',rfl,hg.out⟩
end
end
end Go.Proofs.YtgcmiahhkalfmaaGreat
