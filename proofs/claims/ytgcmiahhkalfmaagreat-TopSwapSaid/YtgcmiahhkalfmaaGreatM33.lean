import Derived.Test.YtgcmiahhkalfmaaGreatM32
set_option maxRecDepth 100000
set_option maxHeartbeats 8000000
set_option linter.unusedVariables false
set_option linter.unusedSimpArgs false
namespace Go.Proofs.YtgcmiahhkalfmaaGreat
attribute [local go_sem] aF aI aO aV
open Go.Proofs.Tryz
open Go.RowKit
variable {args:Array Value} {s:Bool} {A:CA} {c:Cf} {f:FuncId} {st:Int} {l:List Bool} {b cap g lg n:Nat} {fr:Nat→Bool} {t:Nat→One} {S:Nat→Prop} {o:OpR} {ln:Option Sw.Rq} {P:Program} {q:Sw.Q} {x:Tc} {X:aC} {lv ov:Value} {w w':World}
section
theorem op_need1 {A C N z1 z2:Nat} (hc:c.ok) (hA:A<c.locals) (hs:c.shapes[0]? = some (false,l)) (h:(aZ c g cap).at_ S w):
 Calls prog 277 #[cfV c g cap,.agg #[.int .i64 1,.int .i64 A,.int .i64 0,.int .i64 C,.int .i64 N,.complex .f64 z1 z2]] w fun e w'=>e=.returned (.tuple #[.int .i64 1,.int .i64 0])∧Below w.heap.size w w':=by
 have hb0:Below w.heap.size w ((w.alloc (.cells (aD c (.slice (some ⟨g,0,none⟩) c.shapes.length cap)) 34)).alloc (.cells #[.int .i64 1,.int .i64 A,.int .i64 0,.int .i64 C,.int .i64 N,.complex .f64 z1 z2] 27)):=((Below.refl w.heap.size w).alloc (Nat.le_refl _) _).alloc (by simp) _
 have C0:Blk ((w.alloc (.cells (aD c (.slice (some ⟨g,0,none⟩) c.shapes.length cap)) 34)).alloc (.cells #[.int .i64 1,.int .i64 A,.int .i64 0,.int .i64 C,.int .i64 N,.complex .f64 z1 z2] 27)) w.heap.size (aD c (.slice (some ⟨g,0,none⟩) c.shapes.length cap)) 34:=(Blk.new w _ _).alloc _
 have D0:Blk ((w.alloc (.cells (aD c (.slice (some ⟨g,0,none⟩) c.shapes.length cap)) 34)).alloc (.cells #[.int .i64 1,.int .i64 A,.int .i64 0,.int .i64 C,.int .i64 N,.complex .f64 z1 z2] 27)) (w.heap.size+1) #[.int .i64 1,.int .i64 A,.int .i64 0,.int .i64 C,.int .i64 N,.complex .f64 z1 z2] 27:=by have:=Blk.new (w.alloc (.cells (aD c (.slice (some ⟨g,0,none⟩) c.shapes.length cap)) 34)) #[.int .i64 1,.int .i64 A,.int .i64 0,.int .i64 C,.int .i64 N,.complex .f64 z1 z2] 27;rw [World.size_alloc] at this;exact this
 have HB0:=zz hb0
 have HC0:=zz C0
 have HD0:=zz D0
 have g0:=zz ((aA.begin h).below_ hb0)
 have HK:=zz hc
 have HSH:=zz hs
 have hl6:l.length≤6:=(hc.shape _ (List.mem_of_getElem? hs)).1
 have HCK:=zz (op_check1 (C:=C) (N:=N) (z1:=z1) (z2:=z2) hc hA hs g0.out.is)
 unfold cfV at*
 simp only [aD] at*
 clear h hc hb0 hs
 go_enter func277,ntmps277
 go_upto_region 1 with fail
 generalize (w.alloc _).alloc _=W1 at*
 generalize hob:w.heap.size+1=ob at*
 obtain ⟨c0,c1,c2,c3,c4,c5,c6,c7,c8⟩:=cf9 C0
 have e0:=D0.cell 0
 have e1:=D0.cell 1
 have e2:=D0.cell 2
 have e3:=D0.cell 3
 have e4:=D0.cell 4
 have e5:=D0.cell 5
 simp at e0 e1 e2 e3 e4 e5
 clear C0 D0
 go_wp2_with fail
 refine qz (HCK.out) fun w2 hb=>?_
 have C2:=zz (aK HC0.out hb)
 have D2:=zz (aK HD0.out hb)
 have HB2:=zz (HB0.out.trans (hb.mono HB0.out.size))
 have HA:=zz (dM (i:=0) HK.out (g0.out.below_ hb).is HSH.out)
 rw [show ((0:Nat):Int)=0 from rfl] at HA
 unfold cfV at HA
 clear c0 c1 c2 c3 c4 c5 c6 c7 c8 e0 e1 e2 e3 e4 e5 HC0 HD0 HB0 hb g0 HCK
 obtain ⟨c0,c1,c2,c3,c4,c5,c6,c7,c8⟩:=cf9 C2.out
 have e2:w2.cell? ⟨ob,2,none⟩=some (.int .i64 0):=D2.out.cell 2
 go_wp2_with fail
 with_reducible refine HA.out.mono ?_
 rintro e w5 ht
 obtain ⟨u,rfl,hst⟩:=told_st ht
 obtain ⟨x1,k1,rfl⟩:=hst.1.choose_spec.1.1.slice
 have hb:=hst.below
 have D5:=aK D2.out hb
 have HB5:=HB2.out.trans (hb.mono HB2.out.size)
 have D6:=zz (D5.alloc (.cells #[.bool false,.slice x1 l.length k1] 55))
 have E6:=zz (Blk.new w5 #[.bool false,.slice x1 l.length k1] 55)
 have HB6:=zz (HB5.alloc HB5.size (.cells #[.bool false,.slice x1 l.length k1] 55))
 clear ht hst hb D5 HB5 HA C2 D2 HB2 c0 c1 c2 c3 c4 c5 c6 c7 c8 e2
 go_upto_region 4 with fail
 generalize w5.alloc _=w7 at*
 generalize w5.heap.size=sb at*
 have E7:=E6.out
 have D7:=D6.out
 have g7:=zz (emp_goes w7).drew_
 have hne:Nonempty (In Emp (fun _=>False) w7):=⟨⟨_,g7.out⟩⟩
 have e0:∀ i:In Emp (fun _=>False) w7,i.w.cell? ⟨ob,0,none⟩=some (.int .i64 1):=fun i=>(aK D7 (bH i.h)).cell 0
 have e1:∀ i:In Emp (fun _=>False) w7,i.w.cell? ⟨ob,1,none⟩=some (.int .i64 A):=fun i=>(aK D7 (bH i.h)).cell 1
 have e2:∀ i:In Emp (fun _=>False) w7,i.w.cell? ⟨ob,2,none⟩=some (.int .i64 0):=fun i=>(aK D7 (bH i.h)).cell 2
 have e3:∀ i:In Emp (fun _=>False) w7,i.w.cell? ⟨ob,3,none⟩=some (.int .i64 C):=fun i=>(aK D7 (bH i.h)).cell 3
 have e4:∀ i:In Emp (fun _=>False) w7,i.w.cell? ⟨ob,4,none⟩=some (.int .i64 N):=fun i=>(aK D7 (bH i.h)).cell 4
 have e5:∀ i:In Emp (fun _=>False) w7,i.w.cell? ⟨ob,5,none⟩=some (.complex .f64 z1 z2):=fun i=>(aK D7 (bH i.h)).cell 5
 have s0:∀ i:In Emp (fun _=>False) w7,i.w.cell? ⟨sb,0,none⟩=some (.bool false):=fun i=>(aK E7 (bH i.h)).cell 0
 have s1:∀ i:In Emp (fun _=>False) w7,i.w.cell? ⟨sb,1,none⟩=some (.slice x1 l.length k1):=fun i=>(aK E7 (bH i.h)).cell 1
 have HZ:=zz fun w1 (hg:aA Emp (fun _=>False) w7 w1)=>hg.plain (op_size1 (A:=(A:Int)) (B:=0) (C:=(C:Int)) (N:=(N:Int)) (z1:=z1) (z2:=z2) x1 k1 w1 hl6)
 have HP:=zz fun w1 (hg:aA Emp (fun _=>False) w7 w1)=>hg.plain (shape_spine x1 l.length k1 N w1 hl6)
 clear D7 E7 D6 E6
 go_wp2_with fail
 refine bL (by kernel_rfl) (by kernel_rfl) g7.out ?_
 repeat (go_big_quiet_step (first|exact In.call HZ.out|exact In.call HP.out))
 refine wpQuiet_nil ?_
 intro w8 g8
 have HF:=zz (HB6.out.trans ((bH g8).mono HB6.out.size))
 clear e0 e1 e2 e3 e4 e5 s0 s1 HZ HP g7 hne g8 HB6
 go_wp2_with fail
 go_ret2
 exact ⟨rfl,HF.out⟩
end
section
variable {l:Nat→Lc}
theorem act_both_cell (c4:w.cell? ⟨b,4,none⟩=some (.int .i64 st)):Calls prog 279 #[.pointer (some ⟨b,0,none⟩)] w fun e w'=>e=.returned (.bool (bth st))∧w=w':=by
 unfold bth
 by_cases h1:st=1
 · subst h1
   go_enter func279,ntmps279
   go_wp2_with fail
   go_ret
   exact ⟨rfl,rfl⟩
 · have h2:(st==1)=false:=by simpa using h1
   rw [h2]
   have h3:decide (st=1)=false:=by simpa using h1
   go_enter func279,ntmps279
   go_wp2_with fail
   go_ret
   exact ⟨by simp,rfl⟩
theorem core_twoX {α:Type} {R:α→Ending→Prop} {Y:α→aC} (h:aN P f args w (Two A.bs A.bsp A.bt c q) R (fun x=>Sep (Two A.bs A.bsp A.bt c {q with t:=t,fr:=fr,ln:=ln}) (Y x))):
 aN P f args w (aE A c q) R (fun x=>Sep (aE A c {q with t:=t,fr:=fr,ln:=ln}) (Y x)):=
 ((((h.lX (B:=HnQ A.bh c.threads q)).assocX).rX).rX).rX
theorem sep_emp {T:aC} (h:T.at_ S w):(Sep T Emp).at_ S w:=⟨S,fun _=>False,h,fun _ h=>h,fun _ _ h=>h,fun _ h=>h,fun _ h=>h.elim,fun _ h=>.inl h⟩
theorem core_ask (hl:q.ln=none) (ht0:0<c.threads) (hc:c.ok) (s:Bool):∃ (q':Sw.Q) (G:Sl→aC) (kk:Int),
 (∀ w,aN prog 278 #[.pointer (some ⟨A.bsp,0,none⟩),.int .i64 0,.int .i64 1,.int .i64 0,.bool s] w (aE A c q) (fun (z:Sl) e=>e=.returned (.agg #[.int .i64 kk,.slice z.1 z.2.1 z.2.2,.int .i64 (-1)])) (fun z=>Sep (aE A c q') (G z)))∧
 ((Sw.topF q.fr c.frags=none∧q'={q with ln:=some nq}∧(G=fun _=>Emp)∧kk=0)∨∃ i,Sw.topF q.fr c.frags=some i∧q'=q.take i s∧(G=fun z=>Got (slV z) i)∧kk=1):=by
 have h:=fun w=>sp_ask (bs:=A.bs) (b:=A.bsp) (bt:=A.bt) (s:=s) hl ht0 hc w
 unfold askO at h
 cases hT:Sw.topF q.fr c.frags with
 | none=>
  rw [hT] at h
  refine ⟨_,_,_,fun w=>?_,.inl ⟨rfl,rfl,rfl,rfl⟩⟩
  exact core_twoX (t:=q.t) (fr:=q.fr) ((h w).conv (fun _ _ h=>h) fun y e he=>⟨y,he,fun S w h=>sep_emp h.2⟩)
 | some i=>
  rw [hT] at h
  exact ⟨_,_,_,fun w=>core_twoX (ln:=q.ln) (h w),.inr ⟨i,rfl,rfl,rfl,rfl⟩⟩
def askO2 (A:CA) (c:Cf) (q:Sw.Q) (s:Bool) (T:Tc→aC) (x:Tc) (v u:Value):aC:=
 match Sw.topF q.fr c.frags with
 | some i=>Sep (Sep (Sep (aE A c (q.take i s)) (T {x with wr:=u,got:=v,ph:=2,at_:=7})) (Got v i)) (Seq 2 u 8 (wc i (yl c.refs) 8))
 | none=>Sep (aE A c {q with ln:=some nq}) (T {x with ph:=3,pc:=5})
theorem act_asks (hc:c.ok) (hs:c.shapes[0]? = some (false,c.refs)) (hk:o.kd=1) (hb:o.b=0) (ha:o.a<c.locals) (hln:q.ln=none) (h:(Sep (aE A c q) (Thr b 0 ov lv x X)).at_ S w):
 Calls prog 222 #[.pointer (some ⟨b,0,none⟩),.pointer (some ⟨A.b,0,none⟩),.agg (opc o)] w fun e w'=>∃ v u:Value,e=.returned (Rs.v ⟨0,0,0,false,0,0,false⟩)∧aA (askO2 A c q (!(x.sn==bth x.st)) (fun x=>Thr b 0 ov lv x X) x v u) S w w':=by
 have hoc:opc o=#[.int .i64 1,.int .i64 (o.a:Int),.int .i64 0,.int .i64 (o.c:Int),.int .i64 (o.n:Int),.complex .f64 o.z1 o.z2]:=by unfold opc;rw [hk,hb];rfl
 rw [hoc]
 have ht0:0<c.threads:=by have:=hc.threads;omega
 obtain ⟨q',G,kk,hA,hTF⟩:=core_ask (A:=A) hln ht0 hc (!(x.sn==bth x.st))
 have HA:=zz hA
 have HTF:=zz hTF
 have g0:=((aA.begin h).moreSt (St.fresh #[.int .i64 1,.int .i64 (o.a:Int),.int .i64 0,.int .i64 (o.c:Int),.int .i64 (o.n:Int),.complex .f64 o.z1 o.z2] 27)).moreSt (St.fresh aQ 41)
 rw [World.size_alloc] at g0
 obtain ⟨vb,hvb⟩:∃ k,w.heap.size=k:=⟨_,rfl⟩
 obtain ⟨rb,hrb⟩:∃ k,vb+1=k:=⟨_,rfl⟩
 rw [hvb,hrb] at g0
 have g1:=zz g0.drew_
 have E:=fun i:In (Sep (Sep (Sep (aE A c q) (Thr b 0 ov lv x X)) (Var vb #[.int .i64 1,.int .i64 (o.a:Int),.int .i64 0,.int .i64 (o.c:Int),.int .i64 (o.n:Int),.complex .f64 o.z1 o.z2] 27)) (Var rb #[.int .i64 0,.int .i64 0,.int .i64 0,.bool false,.complex .f64 0 0] 41)) S w=>And.intro (eG i.h.l.l.l) i.h.l.r
 have hne:=Nonempty.intro (⟨_,g1.out⟩:In (Sep (Sep (Sep (aE A c q) (Thr b 0 ov lv x X)) (Var vb #[.int .i64 1,.int .i64 (o.a:Int),.int .i64 0,.int .i64 (o.c:Int),.int .i64 (o.n:Int),.complex .f64 o.z1 o.z2] 27)) (Var rb #[.int .i64 0,.int .i64 0,.int .i64 0,.bool false,.complex .f64 0 0] 41)) S w)
 have e0:=fun i=>(E i).1.1
 have e1:=fun i=>(E i).1.2.1
 have e2:=fun i=>(E i).1.2.2.1
 have e3:=fun i=>(E i).1.2.2.2.1
 have e4:=fun i=>(E i).1.2.2.2.2.1
 have e5:=fun i=>(E i).1.2.2.2.2.2.1
 have e6:=fun i=>(E i).1.2.2.2.2.2.2.1
 have e7:=fun i=>(E i).1.2.2.2.2.2.2.2.1
 have e8:=fun i=>(E i).1.2.2.2.2.2.2.2.2
 have b0:=fun i=>(E i).2.vi 0 1
 have b1:=fun i=>(E i).2.vi 1 (o.a:Int)
 have b2:=fun i=>(E i).2.vi 2 0
 have b3:=fun i=>(E i).2.vi 3 (o.c:Int)
 have b4:=fun i=>(E i).2.vi 4 (o.n:Int)
 have b5:=fun i=>(E i).2.vC 5 (.complex .f64 o.z1 o.z2)
 have HND:=zz fun w1 (hg:aA (Sep (Sep (Sep (aE A c q) (Thr b 0 ov lv x X)) (Var vb #[.int .i64 1,.int .i64 (o.a:Int),.int .i64 0,.int .i64 (o.c:Int),.int .i64 (o.n:Int),.complex .f64 o.z1 o.z2] 27)) (Var rb #[.int .i64 0,.int .i64 0,.int .i64 0,.bool false,.complex .f64 0 0] 41)) S w w1)=>hg.plain (op_need1 (c:=c) (g:=A.g) (cap:=A.cap) (A:=o.a) (C:=o.c) (N:=o.n) (z1:=o.z1) (z2:=o.z2) hc ha hs (bO hg.l.l.l.is).choose_spec)
 unfold cfV at HND
 have HC:=zz hc
 have HS:=zz hs
 have HK:=zz hk
 have HB:=zz hb
 have HOC:=zz hoc
 unfold Rs.v
 simp only [aQ] at*
 clear h g0 hc hs hk hb hoc E hA hTF hln
 go_enter func222,ntmps222
 go_upto_region 1 with fail
 generalize (w.alloc _).alloc _=w1 at*
 refine bL (by kernel_rfl) (by kernel_rfl) g1.out ?_
 repeat (go_big_quiet_step (exact In.call HND.out))
 refine wpQuiet_nil ?_
 intro w2 hg2
 clear g1 hne e0 e1 e2 e3 e4 e5 e6 e7 e8 b0 b1 b2 b3 b4 b5 HND
 go_wp2_with fail
 have g3:=hg2.drew_
 refine wp_region_held_drew (S:=(fun w'=>w'.cell? ⟨A.b,11,none⟩=some (.pointer (some ⟨A.bsp,0,none⟩))∧w'.cell? ⟨b,0,none⟩=some (.int .i64 0)∧w'.cell? ⟨b,5,none⟩=some (.bool x.sn)∧w'.cell? ⟨b,4,none⟩=some (.int .i64 x.st))) (by kernel_rfl) ⟨g3.l.l.l.cp 11 A.bsp,g3.l.l.r.ci 0 0,g3.l.l.r.cb 5 x.sn,g3.l.l.r.ci 4 x.st⟩ (fun hHeld=>?_)
 generalize w2.drew=wd at*
 refine tk 0 ?_
 refine tk 1 ?_
 refine tk 2 ?_
 refine tk 3 ?_
 refine tk 4 ?_
 refine tk 5 ?_
 refine tk 6 ?_
 refine tk 7 ?_
 refine tk 8 ?_
 refine tk 9 ?_
 refine tk 10 ?_
 refine tk 11 ?_
 refine tk 12 ?_
 refine tk 13 ?_
 refine tk 14 ?_
 refine dV (i:=15) (oi:=_) (v:=.bool (bth x.st)) rfl (by kernel_rfl) (by kernel_rfl) (by kernel_rfl) (fun _ _ _ h=>h) ⟨by rfl,fun w hSw=>⟨_,_,?_,act_both_cell hSw.2.2.2⟩⟩ (by assumption) ?_
 · go_simp
 try simp only [Act.put,List.setIfInBounds_toArray,List.set_cons_zero,List.set_cons_succ]
 refine tk 16 ?_
 refine wpAnyH_ready (rs:=[17,18]) (by kernel_rfl) (by simp) ?_
 refine AllReadyH.cons (o:=_) rfl ?cA (AllReadyH.cons (o:=_) rfl ?cB AllReadyH.nil)
 case' cA=>
  intro K hK
  have HLA:=zz ((HA.out _).lX.lX.lX.on g3)
  go_simp
  with_reducible refine HLA.out.mono ?_
  rintro e w4 ⟨v,rfl,hgx⟩
  go_wp2_with fail
  refine hK.out _ _ ⟨hgx.l.l.l.l.cp 11 A.bsp,hgx.l.l.l.r.ci 0 0,hgx.l.l.l.r.cb 5 x.sn,hgx.l.l.l.r.ci 4 x.st⟩ (fun hHeld=>?_)
  clear hK K HLA
  try simp only [Act.put,List.setIfInBounds_toArray,List.set_cons_zero,List.set_cons_succ]
  refine rdy 18 fun K hK=>?_
  go_simp
  have hz:=hgx.moreSt (St.fresh #[.int .i64 0,.slice none 0 0,.int .i64 0] 233)
  refine hK.out _ _ ⟨hz.l.l.l.l.l.cp 11 A.bsp,hz.l.l.l.l.r.ci 0 0,hz.l.l.l.l.r.cb 5 x.sn,hz.l.l.l.l.r.ci 4 x.st⟩ (fun hHeld=>?_)
  clear hK K
  generalize w4.heap.size=gb at*
  generalize w4.alloc _=we at*
  try simp only [Act.put,List.setIfInBounds_toArray,List.set_cons_zero,List.set_cons_succ]
  have y0:=hz.r.vi 0 0
  have y1:=hz.r.vC 1 (.slice none 0 0)
  have y2:=hz.r.vi 2 0
  have z0:=hz.r.vf 0
  have z1:=hz.r.vf 1
  have z2:=hz.r.vf 2
  have hg4:=hz.then (aH (fun S h=>(((aA.begin h).vput 0 (.int .i64 kk) rfl).vput 1 (.slice v.1 v.2.1 v.2.2) rfl).vput 2 (.int .i64 (-1)) rfl))
  refine rdy 19 fun K hK=>?_
  go_simp
  refine hK.out _ _ ⟨hg4.l.l.l.l.l.cp 11 A.bsp,hg4.l.l.l.l.r.ci 0 0,hg4.l.l.l.l.r.cb 5 x.sn,hg4.l.l.l.l.r.ci 4 x.st⟩ (fun hHeld=>?_)
  clear hK K hHeld hgx hz g3 y0 y1 y2 z0 z1 z2
  generalize World.setCell _ _ _=w5 at*
  try simp only [Act.put,List.setIfInBounds_toArray,List.set_cons_zero,List.set_cons_succ]
  refine wpAnyH_done (by kernel_rfl) ?_ _
 case' cB=>
  intro K hK
  go_simp
  have hz:=g3.moreSt (St.fresh #[.int .i64 0,.slice none 0 0,.int .i64 0] 233)
  refine hK.out _ _ ⟨hz.l.l.l.l.cp 11 A.bsp,hz.l.l.l.r.ci 0 0,hz.l.l.l.r.cb 5 x.sn,hz.l.l.l.r.ci 4 x.st⟩ (fun hHeld=>?_)
  clear hK K
  generalize wd.heap.size=gb at*
  generalize wd.alloc _=we at*
  try simp only [Act.put,List.setIfInBounds_toArray,List.set_cons_zero,List.set_cons_succ]
  have HLA:=zz ((HA.out _).lX.lX.lX.lX.on hz)
  refine rdy 17 fun K hK=>?_
  go_simp
  with_reducible refine HLA.out.mono ?_
  rintro e w4 ⟨v,rfl,hgx⟩
  go_wp2_with fail
  refine hK.out _ _ ⟨hgx.l.l.l.l.l.cp 11 A.bsp,hgx.l.l.l.l.r.ci 0 0,hgx.l.l.l.l.r.cb 5 x.sn,hgx.l.l.l.l.r.ci 4 x.st⟩ (fun hHeld=>?_)
  clear hK K HLA
  try simp only [Act.put,List.setIfInBounds_toArray,List.set_cons_zero,List.set_cons_succ]
  have hgr:=hgx.conv fun S w h=>aB.rot h
  have y0:=hgr.r.vi 0 0
  have y1:=hgr.r.vC 1 (.slice none 0 0)
  have y2:=hgr.r.vi 2 0
  have z0:=hgr.r.vf 0
  have z1:=hgr.r.vf 1
  have z2:=hgr.r.vf 2
  have hg4:=hgr.then (aH (fun S h=>(((aA.begin h).vput 0 (.int .i64 kk) rfl).vput 1 (.slice v.1 v.2.1 v.2.2) rfl).vput 2 (.int .i64 (-1)) rfl))
  refine rdy 19 fun K hK=>?_
  go_simp
  refine hK.out _ _ ⟨hg4.l.l.l.l.l.cp 11 A.bsp,hg4.l.l.l.l.r.ci 0 0,hg4.l.l.l.l.r.cb 5 x.sn,hg4.l.l.l.l.r.ci 4 x.st⟩ (fun hHeld=>?_)
  clear hK K hHeld hgx hz g3 hgr y0 y1 y2 z0 z1 z2
  generalize World.setCell _ _ _=w5 at*
  try simp only [Act.put,List.setIfInBounds_toArray,List.set_cons_zero,List.set_cons_succ]
  refine wpAnyH_done (by kernel_rfl) ?_ _
 all_goals (
  have hg5:aA (Sep (Sep (Sep (Sep (Sep (aE A c q') (Thr b 0 ov lv x X)) (Var vb #[.int .i64 1,.int .i64 (o.a:Int),.int .i64 0,.int .i64 (o.c:Int),.int .i64 (o.n:Int),.complex .f64 o.z1 o.z2] 27)) (Var rb #[.int .i64 0,.int .i64 0,.int .i64 0,.bool false,.complex .f64 0 0] 41)) (G v)) (Var gb #[.int .i64 kk,.slice v.1 v.2.1 v.2.2,.int .i64 (-1)] 233)) S w w5:=hg4
  clear hg4
  have HG6:=zz (hg5.conv fun S w h=>aB.monoL (fun S h=>aB.monoL (fun S h=>aB.rot h) (aB.rot h)) h)
  clear hg5
  rcases HTF.out with ⟨hT,rfl,rfl,rfl⟩|⟨i,hT,rfl,rfl,rfl⟩
  · have hg6:=HG6.out
    have q0:=hg6.r.vi 0 0
    have d3:=hg6.l.l.l.l.r.ci 3 x.ph
    have f3:=hg6.l.l.l.l.r.fr 3
    have hg7:=hg6.then (aG (aG (aG (aG (fun S h=>aH (B':=Thr b 0 ov lv {x with ph:=3} X) (fun S h=>(aA.begin h).put 3 (.int .i64 3) (cs':=aM 0 ov lv {x with ph:=3}) rfl) S h)))))
    have d7:=hg7.l.l.l.l.r.ci 7 x.pc
    have f7:=hg7.l.l.l.l.r.fr 7
    have hg:=(hg7.then (aG (aG (aG (aG (fun S h=>aH (B':=Thr b 0 ov lv {x with ph:=3,pc:=5} X) (fun S h=>(aA.begin h).put 7 (.int .i64 5) (cs':=aM 0 ov lv {x with ph:=3,pc:=5}) rfl) S h)))))).l
    clear HG6 hg6 hg7
    go_upto_region 7 with fail
    generalize World.setCell _ _ _=w6 at*
    clear d3 f3 d7 f7 q0
    have q0_:=hg.r.vi 0 0
    have p0_:=hg.r.vf 0
    have q1_:=hg.r.vi 1 0
    have p1_:=hg.r.vf 1
    have q2_:=hg.r.vi 2 0
    have p2_:=hg.r.vf 2
    have q3_:=hg.r.vb 3 false
    have p3_:=hg.r.vf 3
    have q4_:=hg.r.vC 4 (.complex .f64 0 0)
    have p4_:=hg.r.vf 4
    have g8_:=hg.then (aH (fun S h=>(aA.begin h).p5 (.int .i64 (0)) (.int .i64 (0)) (.int .i64 (0)) (.bool (false)) (.complex .f64 0 0)))
    have k0_:=g8_.r.vi 0 (0)
    have k1_:=g8_.r.vi 1 (0)
    have k2_:=g8_.r.vi 2 (0)
    have k3_:=g8_.r.vb 3 (false)
    have k4_:=g8_.r.vC 4 (.complex .f64 0 0)
    have HF:=zz g8_.l
    clear hg g8_
    go_wp2_with fail
    (try rw [aI])
    exact bodyPost_ret (v:=.tuple #[.agg #[.int .i64 (0),.int .i64 (0),.int .i64 (0),.bool (false),.complex .f64 0 0],.bool false]) (by simp [results,results222,go_sem,k0_,k1_,k2_,k3_,k4_]) rfl ⟨rfl,.bool false,.bool false,by unfold askO2;rw [hT];exact HF.out.l.l⟩
  · obtain ⟨gs,go,cp,hv,_,_⟩:=bN HG6.out.l.l.l.r.is
    obtain ⟨v0,v1,v2⟩:=v
    cases hv
    have hg6:aA (Sep (Sep (Sep (Sep (Sep (aE A c (q.take i (!(x.sn==bth x.st)))) (Thr b 0 ov lv x X)) (Got (.slice (some ⟨gs,go,none⟩) 1 v2) i)) (Var vb #[.int .i64 1,.int .i64 (o.a:Int),.int .i64 0,.int .i64 (o.c:Int),.int .i64 (o.n:Int),.complex .f64 o.z1 o.z2] 27)) (Var rb #[.int .i64 0,.int .i64 0,.int .i64 0,.bool false,.complex .f64 0 0] 41)) (Var gb #[.int .i64 1,.slice (some ⟨gs,go,none⟩) 1 v2,.int .i64 (-1)] 233)) S w w5:=HG6.out
    clear HG6
    have q0:=hg6.r.vi 0 1
    have q1:=hg6.r.vC 1 (.slice (some ⟨gs,go,none⟩) 1 v2)
    have q2:=hg6.r.vi 2 (-1)
    have b0:=hg6.l.l.r.vi 0 1
    have b1:=hg6.l.l.r.vi 1 (o.a:Int)
    have b2:=hg6.l.l.r.vi 2 0
    have b3:=hg6.l.l.r.vi 3 (o.c:Int)
    have b4:=hg6.l.l.r.vi 4 (o.n:Int)
    have b5:=hg6.l.l.r.vC 5 (.complex .f64 o.z1 o.z2)
    have HT:=zz (hg6.callx (aN.lX (aN.lX (aN.lX (R:=fun (_:Value) e=>e=.returned (.bool true)) (O1:=fun u=>Sep (Sep (aE A c (q.take i (!(x.sn==bth x.st)))) (Thr b 0 ov lv {x with wr:=u,got:=.slice (some ⟨gs,go,none⟩) 1 v2,ph:=2,at_:=7} X)) (Got (.slice (some ⟨gs,go,none⟩) 1 v2) i)) (Y:=fun u=>Seq 2 u 8 (wc i (yl c.refs) 8)) fun S h=>act_takes (o:=o) HC.out (gS hT).1 HS.out HK.out HB.out h))))
    rw [HOC.out] at HT
    clear hg6
    go_wp2_with fail
    with_reducible refine HT.out.mono ?_
    rintro e w6 ⟨u,rfl,hgy⟩
    have hg7:=(hgy.conv fun S w h=>aB.rot h).l
    have hg:=hg7.conv fun S w h=>aB.rot h
    clear HT hgy hg7 q0 q1 q2 b0 b1 b2 b3 b4 b5
    have q0_:=hg.r.vi 0 0
    have p0_:=hg.r.vf 0
    have q1_:=hg.r.vi 1 0
    have p1_:=hg.r.vf 1
    have q2_:=hg.r.vi 2 0
    have p2_:=hg.r.vf 2
    have q3_:=hg.r.vb 3 false
    have p3_:=hg.r.vf 3
    have q4_:=hg.r.vC 4 (.complex .f64 0 0)
    have p4_:=hg.r.vf 4
    have g8_:=hg.then (aH (fun S h=>(aA.begin h).p5 (.int .i64 (0)) (.int .i64 (0)) (.int .i64 (0)) (.bool (false)) (.complex .f64 0 0)))
    have k0_:=g8_.r.vi 0 (0)
    have k1_:=g8_.r.vi 1 (0)
    have k2_:=g8_.r.vi 2 (0)
    have k3_:=g8_.r.vb 3 (false)
    have k4_:=g8_.r.vC 4 (.complex .f64 0 0)
    have HF:=zz g8_.l
    clear hg g8_
    go_wp2_with fail
    (try rw [aI])
    exact bodyPost_ret (v:=.tuple #[.agg #[.int .i64 (0),.int .i64 (0),.int .i64 (0),.bool (false),.complex .f64 0 0],.bool false]) (by simp [results,results222,go_sem,k0_,k1_,k2_,k3_,k4_]) rfl ⟨_,_,rfl,by unfold askO2;rw [hT];exact HF.out.drop (aU.both (aU.left _ _) (aU.refl _))⟩)
end
end Go.Proofs.YtgcmiahhkalfmaaGreat
