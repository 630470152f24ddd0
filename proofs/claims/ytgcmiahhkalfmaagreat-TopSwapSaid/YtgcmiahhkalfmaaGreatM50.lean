import Derived.Test.YtgcmiahhkalfmaaGreatM49
set_option maxRecDepth 100000
set_option maxHeartbeats 8000000
set_option linter.unusedVariables false
set_option linter.unusedSimpArgs false
namespace Go.Proofs.YtgcmiahhkalfmaaGreat
section
attribute [local go_sem] aF aI aO aV
open Go.Proofs.Tryz
open Go.RowKit
variable {cap sb:Nat} {no:Nat→Nat} {sc:Nat→Nat→Opn} {S:Nat→Prop} {vs:Nat→Value} {H O V:aC} {iv:Value} {w w':World}
theorem jQ.l {O B:aC} {gb go n:Nat} {vs:Nat→Value} {no:Nat→Nat} {sc:Nat→Nat→Opn} (h:jQ O gb go n vs no sc):jQ (Sep O B) gb go n vs no sc where
 cell:=fun S w hs t ht=>let ⟨S1,h1,_⟩:=aB.l hs;h.cell S1 w h1 t ht
 seq:=fun S w hs t ht=>let ⟨S1,h1,_⟩:=aB.l hs;h.seq S1 w h1 t ht
 len:=h.len
def wnC (hb gb ob oo oc jb nb:Nat) (iv:Value):Array Value:=#[.pointer (some ⟨hb,0,none⟩),.pointer (some ⟨gb,0,none⟩),.slice (some ⟨ob,oo,none⟩) 2 oc,iv,.slice none 0 0,.slice (some ⟨jb,0,none⟩) 2 2,.slice (some ⟨nb,0,none⟩) 2 2]
def WnT (O V H:aC) (hb gb ob oo oc jb nb wb:Nat) (iv:Value) (k:Nat):aC:=
 Sep (Sep (Sep (Sep (Sep (Sep (Sep O (GrO gb Sw.cS gr0)) V) H) (bV jb 2 4 (bM fun _=>false))) (bV nb 2 4 (bM fun _=>false))) (Var wb (wnC hb gb ob oo oc jb nb iv) 52)) (cQ 3 1 iv k (List.replicate k (.int .i64 (-1))))
section
variable {hb gb ob oo oc jb nb wb:Nat}
theorem wn_done (h:aA (WnT O V H hb gb ob oo oc jb nb wb iv 24) S w w'):∃ ib ic,aA (WkT O wb ⟨hb,gb,ob,oo,oc,ib,ic,jb,nb⟩ (fun _=>-1) gr0 (fun _=>false) (fun _=>false) H) S w w':=by
 obtain ⟨S1,hr,_⟩:=aB.r h.is
 have hl:∀ j,j<24→(List.replicate 24 (Value.int .i64 (-1)))[j]? = some (idM (fun _=>-1) j):=fun j hj=>by rw [List.getElem?_replicate,if_pos hj];rfl
 obtain ⟨ib,ic,rfl,_⟩:=kX (by decide) hl hr
 refine ⟨ib,ic,(h.drop (aU.both (aU.both (aU.both (aU.both (aU.both (aU.left _ _) (aU.refl _)) (aU.refl _)) (aU.refl _)) (aU.refl _)) (aU.refl _))).conv fun S w h=>?_⟩
 have a:=aB.assoc (aB.assoc (aB.assoc (aB.assoc (aB.assoc h))))
 refine aB.monoR (fun S h=>?_) a
 have b:=aB.swap (aB.assoc' (aB.monoR (fun S h=>aB.assoc' (jN (aB.monoR (fun S h=>aB.assoc' h) h))) h))
 refine aB.monoL (fun S h=>?_) b
 refine ⟨(.slice none 0 0,[]),kW (eW _ _ _) (aB.monoR (fun S h=>?_) h)⟩
 obtain ⟨_,_,e,h'⟩:=kX (by decide) hl h
 cases e
 exact h'
theorem wk_new (hI:jQ O ob oo 2 vs no sc) (w:World):
 aN prog 5 #[cfV Sw.cS sb cap,.slice (some ⟨ob,oo,none⟩) 2 oc] w (Sep O (aZ Sw.cS sb cap)) (fun (z:WkX×Nat×CA×Nat×Value×(Nat→TA)) e=>e=.returned (.tuple #[.pointer (some ⟨z.2.1,0,none⟩),.bool true])∧z.1.ob=ob∧z.1.oo=oo)
  (fun z=>WkT O z.2.1 z.1 (fun _=>-1) gr0 (fun _=>false) (fun _=>false) (Hp z.2.2.1 Sw.cS (q0 Sw.cS) z.2.2.2.1 y00 z.1.hb z.2.2.2.2.1 2 z.2.2.2.2.2 no sc 0 fun _=>p00)):=by
 intro S h
 obtain ⟨i0,hi,hz0,hz1,hz2⟩:=info_parts Tryz.info3
 have g0:=(aA.begin h).moreSt (St.fresh #[.int .i64 24,.int .i64 60,.int .i64 2,.int .i64 2,.int .i64 4,.int .i64 0,.int .i64 2,.int .i64 24,.slice (some ⟨sb,0,none⟩) 3 cap] 34)
 obtain ⟨tb,htb⟩:∃ k,w.heap.size=k:=⟨_,rfl⟩
 rw [htb] at g0
 obtain ⟨V,hV⟩:∃ V,V=Var tb #[.int .i64 24,.int .i64 60,.int .i64 2,.int .i64 2,.int .i64 4,.int .i64 0,.int .i64 2,.int .i64 24,.slice (some ⟨sb,0,none⟩) 3 cap] 34:=⟨_,rfl⟩
 have HV:=zz hV
 have hcf:∀ S w,(Sep O (aZ Sw.cS sb cap)).at_ S w→∃ S',(aZ Sw.cS sb cap).at_ S' w:=fun S w h=>(aB.r h).imp fun _ h=>h.1
 have HN:=zz fun w1 (gg:aA (Sep (Sep O (aZ Sw.cS sb cap)) V) S w w1)=>(aN.lX (fun S h=>(heap_new (capn:=oc) cS_ok hcf hI.l rfl h).mono fun e w' ⟨A,yb,hb,sv,fa,he,hg⟩=>⟨(A,yb,hb,sv,fa),he,hg⟩:aN prog 10 #[cfV Sw.cS sb cap,.slice (some ⟨ob,oo,none⟩) 2 oc] w1 (Sep O (aZ Sw.cS sb cap)) (fun (v:CA×Nat×Nat×Value×(Nat→TA)) e=>e=.returned (.tuple #[.pointer (some ⟨v.2.2.1,0,none⟩),.int .i64 0])) (fun v=>Sep (Sep O (aZ Sw.cS sb cap)) (Hp v.1 Sw.cS (q0 Sw.cS) v.2.1 y00 v.2.2.1 v.2.2.2.1 2 v.2.2.2.2 no sc 0 fun _=>p00)))).on gg
 have HG:=zz fun w1 (H:aC) (gg:aA (Sep (Sep (Sep O (aZ Sw.cS sb cap)) V) H) S w w1)=>(((gr_new cS_ok rfl rfl w1).r).l).l.on gg
 have hcv:cfV Sw.cS sb cap=.agg #[.int .i64 24,.int .i64 60,.int .i64 2,.int .i64 2,.int .i64 4,.int .i64 0,.int .i64 2,.int .i64 24,.slice (some ⟨sb,0,none⟩) 3 cap]:=rfl
 rw [←hV] at g0
 rw [hcv] at HN HG ⊢
 have hmb:=fun w=>kB 2 (by omega) w
 rw [show ((2:Nat):Int)=2 from rfl] at hmb
 have cc:∀ (A:aC) (w1:World),aA (Sep A V) S w w1→_:=fun A w1 (gg:aA (Sep A V) S w w1)=>by
  rw [HV.out] at gg
  exact (⟨gg.r.vc 0 rfl,gg.r.vc 1 rfl,gg.r.vc 2 rfl,gg.r.vc 3 rfl,gg.r.vc 4 rfl,gg.r.vc 5 rfl,gg.r.vc 6 rfl,gg.r.vc 7 rfl,gg.r.vc 8 rfl⟩:w1.cell? ⟨tb,0,none⟩=some (.int .i64 24)∧w1.cell? ⟨tb,1,none⟩=some (.int .i64 60)∧w1.cell? ⟨tb,2,none⟩=some (.int .i64 2)∧w1.cell? ⟨tb,3,none⟩=some (.int .i64 2)∧w1.cell? ⟨tb,4,none⟩=some (.int .i64 4)∧w1.cell? ⟨tb,5,none⟩=some (.int .i64 0)∧w1.cell? ⟨tb,6,none⟩=some (.int .i64 2)∧w1.cell? ⟨tb,7,none⟩=some (.int .i64 24)∧w1.cell? ⟨tb,8,none⟩=some (.slice (some ⟨sb,0,none⟩) 3 cap))
 have CC:=zz cc
 clear h hI hcf hcv hV cc
 go_enter func5,ntmps5
 go_upto_region 1 with fail
 generalize w.alloc _=w1 at*
 clear htb
 obtain ⟨k0,k1,k2,k3,k4,k5,k6,k7,k8⟩:=CC.out _ _ g0
 have HNC:=zz (HN.out _ g0)
 clear HN g0
 go_wp2_with fail
 with_reducible refine HNC.out.mono ?_
 rintro e w2 ⟨⟨A,yb,hb,sv,fa⟩,rfl,hg⟩
 clear HNC k0 k1 k2 k3 k4 k5 k6 k7 k8
 dsimp only at hg ⊢
 obtain ⟨H,hH⟩:∃ H,H=Hp A Sw.cS (q0 Sw.cS) yb y00 hb sv 2 fa no sc 0 fun _=>p00:=⟨_,rfl⟩
 rw [←hH] at hg
 have HH:=zz hH
 have HGC:=zz (HG.out _ _ hg)
 obtain ⟨k0,k1,k2,k3,k4,k5,k6,k7,k8⟩:=CC.out _ _ hg.l
 clear HG hg hH
 go_wp2_with fail
 with_reducible refine HGC.out.mono ?_
 rintro e w3 ⟨gb,rfl,hg⟩
 clear HGC k0 k1 k2 k3 k4 k5 k6 k7 k8
 go_upto_region 5 with fail
 have g1:=hg.drew_
 clear hg
 refine wp_region_held_drew (S:=fun w'=>True) (by kernel_rfl) trivial (fun hHeld=>?_)
 generalize w3.drew=w4 at*
 refine tk 0 ?_
 refine tk 1 ?_
 refine tk 2 ?_
 refine tk 3 ?_
 refine tk 4 ?_
 refine tk 6 ?_
 refine tk 7 ?_
 refine wpAnyH_ready (rs:=[5,8]) (by kernel_rfl) (by simp) ?_
 refine AllReadyH.cons (o:=_) rfl ?cA (AllReadyH.cons (o:=_) rfl ?cB AllReadyH.nil)
 case' cA=>
  intro K hK
  go_simp
  have g2:=g1.moreSt (St.rep w4 2 4 (.bool false))
  go_wp2_with fail
  refine hon hK trivial fun hHeld=>?_
  clear hK K
  refine rdy 8 fun K hK=>?_
  go_simp
  have g3:=g2.moreSt (St.rep _ 2 4 (.bool false))
  simp only [World.size_alloc] at g3
  go_wp2_with fail
  refine hon hK trivial fun hHeld=>?_
  clear hK K
  generalize w4.heap.size+1=nb at*
  generalize w4.heap.size=jb at*
 case' cB=>
  intro K hK
  go_simp
  have g2:=g1.moreSt (St.rep w4 2 4 (.bool false))
  go_wp2_with fail
  refine hon hK trivial fun hHeld=>?_
  clear hK K
  refine rdy 5 fun K hK=>?_
  go_simp
  have g3x:=g2.moreSt (St.rep _ 2 4 (.bool false))
  have g3:=g3x.conv fun S w h=>aB.rot h
  clear g3x
  simp only [World.size_alloc] at g3
  go_wp2_with fail
  refine hon hK trivial fun hHeld=>?_
  clear hK K
  generalize w4.heap.size+1=jb at*
  generalize w4.heap.size=nb at*
 all_goals (
  generalize (w4.alloc _).alloc _=w5 at*
  clear g1 g2
  refine tk 9 ?_
  have g4:=eL (e:=3) (sz:=1) (g3.moreSt (St.fresh (wnC hb gb ob oo oc jb nb (.slice none 0 0)) 52))
  unfold wnC at g4
  refine rdy 10 fun K hK=>?_
  go_simp
  go_wp2_with fail
  refine hon hK trivial fun hHeld=>?_
  clear hK K
  refine tk 11 ?_
  refine wpAnyH_done (by kernel_rfl) ?_ _
  clear hHeld g3
  generalize w5.heap.size=wb at*
  generalize w5.alloc _=w6 at*
  have HG:=zz (show aA (WnT O V H hb gb ob oo oc jb nb wb (.slice none 0 0) 0) S w w6 from g4)
  clear g4 hmb
  go_wp2_with fail
  go_loopw [11] (fun i wr=>∃ (j:Nat) (iv:Value) (wx:World),wx=wr∧j≤24∧i=.int .i64 (j:Int)∧aA (WnT O V H hb gb ob oo oc jb nb wb iv j) S w wx) (fun i _=>24-(intOf i).toNat)
  case atStart=>exact ⟨0,_,_,rfl,by omega,rfl,HG.out⟩
  case round=>
   clear HG
   obtain ⟨j,iv,wr,rfl,hj,rfl,hg⟩:=hrel
   obtain ⟨k0,_⟩:=CC.out _ _ hg.l.l.l.l.l
   by_cases hlt:j<24
   · have hji:(j:Int)<24:=by omega
     have HJ:=zz hlt
     obtain ⟨ka,kc,rfl⟩:=bE hg.r.is.1
     have c3:=hg.l.r.vC 3 (.slice ka j kc)
     have HK:=zz hg
     have HR:=zz hg.r.is.1
     clear hg hlt hj
     go_wp2_with (at_builtin;refine bI rfl _ _ 22 rfl 3 i0 (.int .i64 0) 1 8 underlying22 hi hz0 hz1 hz2 rfl (by decide) _ _ _ rfl (HR.out.alloc _) ⟨wr.heap.size,0,none⟩ 1 1 [.int .i64 (-1)] rfl ?c0 ?c1 ?c2 ?c3 (by decide) ?_)
     case c0=>rfl
     case c1=>
      intro j u hj
      rw [bU,(Blk.new wr _ 3).cell,Nat.zero_add]
      simpa using hj
     case c2=>intro u hu;simp at hu;subst hu;rfl
     case c3=>have:=HJ.out;omega
     intro v' wf h9 hgr hbk
     have gX:=HK.out.then (aH (fun S h=>bS (m:=1) (news:=[.int .i64 (-1)]) h ((Below.refl wr.heap.size wr).alloc (Nat.le_refl _) (.cells #[.int .i64 (-1)] 3)) h9 hgr (by simpa using hbk)))
     have gY:=gX.then (aG (aH (fun S h=>(aA.begin h).vput 3 v' (cs':=wnC hb gb ob oo oc jb nb v') rfl)))
     have f3:=gX.l.r.vf 3
     have d3:=gX.l.r.vC 3 (.slice ka j kc)
     obtain ⟨na,nc,rfl⟩:=bE h9
     have HY:=zz gY
     clear HK HR h9 hgr hbk gX gY c3 k0
     go_wp2_with fail
     go_round
     case rel=>exact ⟨j+1,_,_,rfl,HJ.out,by go_num,by unfold WnT;rw [List.replicate_succ'];exact HY.out⟩
     case measure=>have:=HJ.out;simp [intOf];omega
   · obtain rfl:j=24:=by omega
     have HG:=zz hg
     clear hg hj hlt
     go_wp2_with fail
     go_ret2
     obtain ⟨ib,ic,hg⟩:=wn_done HG.out
     rw [HH.out] at hg
     exact ⟨(⟨hb,gb,ob,oo,oc,ib,ic,jb,nb⟩,wb,A,yb,sv,fa),⟨rfl,rfl,rfl⟩,hg⟩)
end
end
section
open Go.Proofs.Tryz
open Go.RowKit
variable {A:CA} {gb n x:Nat} {S:Nat→Prop} {fa:Nat→TA} {vs:Nat→Value} {O:aC} {sv va vb:Value} {X:WkX} {w w':World}
structure WkS where
 q:Sw.Q
 y:Sw.Y
 ps:Nat→Sw.T
 ids:Nat→Int
 g:Sw.Gr
 jo:Nat→Bool
 go:Nat→Bool
 st:Int
def WkZ (O:aC) (wb:Nat) (X:WkX) (A:CA) (yb:Nat) (sv:Value) (fa:Nat→TA) (n:Nat) (s:WkS):aC:=WkT O wb X s.ids s.g s.jo s.go (Hp A Sw.cS s.q yb s.y X.hb sv 2 fa (fun _=>6*n) scs s.st s.ps)
def WokS (n:Nat) (s:WkS):Prop:=Wok n s.q s.y s.ps s.ids s.g s.jo s.go
section
variable {wb yb:Nat} {s:WkS}
theorem wk_step (W:WokS n s) (hn:n≤60) (hO:jQ O X.ob X.oo 2 vs (fun _=>6*n) scs) (hx:x≤2) (w:World):
 aN prog 7 #[.pointer (some ⟨wb,0,none⟩),.int .i64 (x:Int)] w (WkZ O wb X A yb sv fa n s) (fun (z:WkS×Sw.Rs×Int) e=>e=.returned (.tuple #[tkV (x:Int) (rsOf z.2.1 z.2.2),.bool true])∧WokS n z.1∧(z.2.1.d=true→x=2→z.2.1.er=0→z.2.1.nx%6=1→Sw.NumW z.2.1.z))
  (fun z=>WkZ O wb X A yb sv fa n z.1):=by
 match x,hx with
 | 0,_=>
  obtain ⟨q',y',hr,W'⟩:=wok_cyc W hn
  intro S h
  refine ((wk_cyc (hr A yb) w:aJ _ _ _ _ _ _ _) S h).mono fun e w' ⟨he,hg⟩=>⟨(⟨q',y',s.ps,s.ids,s.g,s.jo,s.go,wrap64 (s.st+1)⟩,Sw.rs0,0),⟨?_,W',fun h=>by simp [Sw.rs0] at h⟩,hg⟩
  rw [he]
  have e0:rs0=rsOf Sw.rs0 0:=by simp [rs0,rsOf,Sw.rs0,Sw.w0,fl0]
  rw [e0]
  rfl
 | t+1,hx=>
  have ht:t<2:=by omega
  obtain ⟨q',p',rs,ids',g',gn,hr,hF,W',hz⟩:=wok_thr W hn ht
  have hlen:s.g.len≤60:=by have:=W.len;have:=W.nx 0 (by omega);omega
  intro S h
  refine ((wk_thr (vs:=vs) ht cS_ok (hr A (fa t)) hO hF hlen w) S h).mono fun e w' ⟨ow,he,hg⟩=>⟨(⟨q',s.y,Sw.set s.ps t p',ids',g',Sw.set s.jo t true,Sw.set s.go t gn,wrap64 (s.st+1)⟩,rs,ow),⟨?_,W',fun h1 h2=>hz h1 (by omega)⟩,hg⟩
  rw [he]
  rfl
end
theorem bits1 (m:Nat) (h:m≤60):bits BinOp.and IntKind.i64 (m:Int) 1=(m:Int)%2:=by
 have:=all17 (p:=fun m:Nat=>decide (bits BinOp.and IntKind.i64 (m:Int) 1=(m:Int)%2)) (by kernel_rfl) m (by omega)
 simpa using this
def sixA (i:Nat):Array Value:=#[.int .i64 1,.int .i64 0,.int .i64 0,.int .i64 0,.int .i64 0,.complex .f64 0 0,.int .i64 12,.int .i64 1,.int .i64 0,.int .i64 0,.int .i64 0,.complex .f64 (fl i) 4607182418800017408,.int .i64 4,.int .i64 0,.int .i64 1,.int .i64 0,.int .i64 2,.complex .f64 0 0,.int .i64 7,.int .i64 2,.int .i64 0,.int .i64 0,.int .i64 0,.complex .f64 0 0,
 .int .i64 4,.int .i64 0,.int .i64 2,.int .i64 0,.int .i64 ((i:Int)%2),.complex .f64 0 0,.int .i64 8,.int .i64 0,.int .i64 0,.int .i64 0,.int .i64 ((i:Int)%2),.complex .f64 0 0]
def sixB (i:Nat):Array Value:=#[.int .i64 7,.int .i64 0,.int .i64 0,.int .i64 0,.int .i64 ((i:Int)%2),.complex .f64 0 0,.int .i64 3,.int .i64 1,.int .i64 0,.int .i64 0,.int .i64 2,.complex .f64 0 0,.int .i64 13,.int .i64 2,.int .i64 0,.int .i64 0,.int .i64 0,.complex .f64 0 0,.int .i64 4,.int .i64 0,.int .i64 2,.int .i64 0,.int .i64 0,.complex .f64 0 0,
 .int .i64 4,.int .i64 0,.int .i64 2,.int .i64 0,.int .i64 1,.complex .f64 0 0,.int .i64 3,.int .i64 1,.int .i64 0,.int .i64 0,.int .i64 2,.complex .f64 0 0]
theorem opL_six (f:Nat→Opn) (i:Nat):opL f (6*(i+1))=opL f (6*i)++((opc (f (6*i)).r).toList++((opc (f (6*i+1)).r).toList++((opc (f (6*i+2)).r).toList++((opc (f (6*i+3)).r).toList++((opc (f (6*i+4)).r).toList++(opc (f (6*i+5)).r).toList))))):=by
 rw [show 6*(i+1)=6*i+1+1+1+1+1+1 by omega,opL,opL,opL,opL,opL,opL]
 simp only [List.append_assoc]
theorem opL_A (i:Nat):opL scA (6*(i+1))=opL scA (6*i)++(sixA i).toList:=by
 rw [opL_six]
 have h0:(6*i)%6=0:=by omega
 have h1:(6*i+1)%6=1:=by omega
 have h2:(6*i+2)%6=2:=by omega
 have h3:(6*i+3)%6=3:=by omega
 have h4:(6*i+4)%6=4:=by omega
 have h5:(6*i+5)%6=5:=by omega
 have d1:(6*i+1)/6=i:=by omega
 have d4:(6*i+4)/6=i:=by omega
 have d5:(6*i+5)/6=i:=by omega
 have f0:fl 0=0:=fl0
 have f1:fl 1=4607182418800017408:=fl1
 simp [scA,h0,h1,h2,h3,h4,h5,d1,d4,d5,opc,Opn.r,sixA,f0,f1]
theorem opL_B (i:Nat):opL scB (6*(i+1))=opL scB (6*i)++(sixB i).toList:=by
 rw [opL_six]
 have h0:(6*i)%6=0:=by omega
 have h1:(6*i+1)%6=1:=by omega
 have h2:(6*i+2)%6=2:=by omega
 have h3:(6*i+3)%6=3:=by omega
 have h4:(6*i+4)%6=4:=by omega
 have h5:(6*i+5)%6=5:=by omega
 have d0:6*i/6=i:=by omega
 have f0:fl 0=0:=fl0
 simp [scB,h0,h1,h2,h3,h4,h5,d0,opc,Opn.r,sixB,f0]
theorem sixA_one (i:Nat):∀ u∈(sixA i).toList,u.oneCell'=true:=by
 simp [sixA,Value.oneCell']
theorem sixB_one (i:Nat):∀ u∈(sixB i).toList,u.oneCell'=true:=by
 simp [sixB,Value.oneCell']
def OS (va vb:Value) (m:Nat):aC:=Sep (Sep Emp (cQ 27 6 va (6*m) (opL scA (6*m)))) (cQ 27 6 vb (6*m) (opL scB (6*m)))
def vsS (va vb:Value) (t:Nat):Value:=if t=0 then va else vb
theorem opsInS {T:TypeId} (h1:1≤n) (hn:n≤60):jQ (Sep (OS va vb n) (Var gb #[va,vb] T)) gb 0 2 (vsS va vb) (fun _=>6*n) scs where
 cell:=fun S w h t ht=>by
  have g:=(aA.begin h).r
  have:t=0∨t=1:=by omega
  rcases this with rfl|rfl
  · exact g.vc 0 rfl
  · exact g.vc 1 rfl
 seq:=fun S w h t ht=>by
  have g:=(aA.begin h).l
  have:t=0∨t=1:=by omega
  rcases this with rfl|rfl
  · exact ⟨_,cX g.l.r.is (by omega)⟩
  · exact ⟨_,cX g.r.is (by omega)⟩
 len:=fun t ht=>⟨by omega,by omega⟩
end
section
attribute [local go_sem] aF aI aO aV
open Go.Proofs.Tryz
open Go.RowKit
theorem swap_main (n:Nat) (a0:Option Addr) (len0 cap0:Nat) (z0:List Int) (w:World) (h1:(1:Int)≤(n:Int)) (h60:(n:Int)≤60) (hl:(len0:Int)≤3000) (w0:IsRow .i64 w a0 len0 cap0 z0):
 Calls prog 3 #[.slice a0 len0 cap0,.int .i64 (n:Int)] w fun e w'=>e=.returned (.bool true)∧Below w.heap.size w w':=by
 obtain ⟨i0,hi,hz0,hz1,hz2⟩:=info_parts Tryz.info27
 have HW:=zz w0
 clear w0
 go_enter func3,ntmps3
 go_wp2_with fail
 refine qz (kE _) fun wa hb=>?_
 have g0:aA Emp (fun _=>False) w wa:=(aA.begin (w:=w) (fun _ h=>h)).below_ hb
 clear hb
 have HG:=zz (show aA (OS (.slice none 0 0) (.slice none 0 0) 0) (fun _=>False) w wa from eL (eL g0))
 clear g0
 go_wp2_with fail
 go_loopw [5,6,7] (fun x y i wr=>∃ (m:Nat) (va vb:Value) (wx:World),wx=wr∧va=x∧vb=y∧m≤n∧i=.int .i64 (m:Int)∧aA (OS va vb m) (fun _=>False) w wx) (fun _ _ i _=>n-(intOf i).toNat)
 case atStart=>exact ⟨0,_,_,_,rfl,rfl,rfl,Nat.zero_le _,rfl,HG.out⟩
 case round=>
  clear HG
  obtain ⟨m,va,vb,wr,rfl,rfl,rfl,hm,rfl,hg⟩:=hrel
  by_cases hlt:m<n
  · have hlti:(m:Int)<(n:Int):=by omega
    have HX:=zz hg
    have HR:=zz hg.l.r.is.1
    have HM:=zz hlt
    have hbt:=bits1 m (by omega)
    clear hg hm hlt
    go_wp2_with (at_builtin;refine bI rfl _ _ 24 rfl 27 i0 (.agg #[.int .i64 0,.int .i64 0,.int .i64 0,.int .i64 0,.int .i64 0,.complex .f64 0 0]) 6 56 underlying24 hi hz0 hz1 hz2 rfl (by decide) _ _ _ rfl (HR.out.alloc _) ⟨wr.heap.size,0,none⟩ 6 6 (sixA m).toList rfl ?c0 ?c1 ?c2 ?c3 (by decide) ?_)
    case c0=>rfl
    case c1=>
     intro j u hj
     show (wr.alloc (.cells (sixA m) 27)).cell? _=_
     rw [bU,(Blk.new wr (sixA m) 27).cell,Nat.zero_add]
     simpa using hj
    case c2=>exact sixA_one m
    case c3=>omega
    intro v' w2 ho hgr hbk
    have g2:=HX.out.then (aG (aH (fun S h=>bS h ((Below.refl wr.heap.size wr).alloc (Nat.le_refl _) (.cells (sixA m) 27)) ho hgr (by simpa using hbk))))
    have HR2:=zz g2.r.is.1
    have H2:=zz g2
    clear HX HR ho hgr hbk g2
    go_wp2_with (at_builtin;refine bI rfl _ _ 24 rfl 27 i0 (.agg #[.int .i64 0,.int .i64 0,.int .i64 0,.int .i64 0,.int .i64 0,.complex .f64 0 0]) 6 56 underlying24 hi hz0 hz1 hz2 rfl (by decide) _ _ _ rfl (HR2.out.alloc _) ⟨w2.heap.size,0,none⟩ 6 6 (sixB m).toList rfl ?c0 ?c1 ?c2 ?c3 (by decide) ?_)
    case c0=>rfl
    case c1=>
     intro j u hj
     show (w2.alloc (.cells (sixB m) 27)).cell? _=_
     rw [bU,(Blk.new w2 (sixB m) 27).cell,Nat.zero_add]
     simpa using hj
    case c2=>exact sixB_one m
    case c3=>omega
    intro v2 w3 ho hgr hbk
    have g3:=H2.out.then (aH (fun S h=>bS h ((Below.refl w2.heap.size w2).alloc (Nat.le_refl _) (.cells (sixB m) 27)) ho hgr (by simpa using hbk)))
    have H3:=zz g3
    clear H2 HR2 ho hgr hbk hbt g3
    go_wp2_with fail
    go_round
    case rel=>exact ⟨m+1,_,_,_,rfl,rfl,rfl,HM.out,by go_num,by unfold OS;rw [opL_A,opL_B,show 6*(m+1)=6*m+6 by omega];exact H3.out⟩
    case measure=>have:=HM.out;simp [intOf];omega
  · obtain rfl:m=n:=by omega
    obtain ⟨aa,ak,rfl⟩:=bE hg.l.r.is.1
    obtain ⟨ba,bk,rfl⟩:=bE hg.r.is.1
    have HG:=zz hg
    clear hg hm hlt hi hz0 hz1 hz2
    go_wp2_with fail
    with_reducible refine (plain_new _).mono ?_
    rintro e w3 ⟨sb,rfl,hs⟩
    obtain ⟨gb,hgb⟩:∃ k,w3.heap.size=k:=⟨_,rfl⟩
    have g1:=((HG.out.moreSt hs).moreSt (St.fresh #[.slice aa (6*m) ak,.slice ba (6*m) bk] 24)).conv fun _ _ h=>aB.rot h
    rw [hgb] at g1
    obtain ⟨O,hO⟩:∃ O,O=Sep (OS (.slice aa (6*m) ak) (.slice ba (6*m) bk) m) (Var gb #[.slice aa (6*m) ak,.slice ba (6*m) bk] 24):=⟨_,rfl⟩
    have HI:=zz (show jQ O gb 0 2 (vsS (.slice aa (6*m) ak) (.slice ba (6*m) bk)) (fun _=>6*m) scs from by rw [hO];exact opsInS (by omega) (by omega))
    rw [←hO] at g1
    have HN:=zz ((wk_new (oc:=2) HI.out _).on g1)
    generalize cfV Sw.cS sb 3=cv at*
    clear HG hs g1 hO
    go_wp2_with fail
    with_reducible refine HN.out.mono ?_
    rintro e w4 ⟨⟨X,wb,A,yb,sv,fa⟩,⟨rfl,hX1,hX2⟩,hg⟩
    dsimp only at hX1 hX2 hg ⊢
    rw [←hX1,←hX2] at HI
    have HG:=zz (show aA (WkZ O wb X A yb sv fa m ⟨q0 Sw.cS,y00,fun _=>p00,fun _=>-1,g00,fun _=>false,fun _=>false,0⟩) (fun _=>False) w w4 from hg)
    clear HN hg hX1 hX2 hgb
    go_wp2_with fail
    go_loopw [10,11,12,13] (fun i _ _ _ wx=>∃ (k:Nat) (s:WkS) (wr:World),wr=wx∧k≤len0∧i=.int .i64 (k:Int)∧WokS m s∧aA (WkZ O wb X A yb sv fa m s) (fun _=>False) w wr) (fun i _ _ _ _=>len0-(intOf i).toNat)
    case atStart=>exact ⟨0,⟨q0 Sw.cS,y00,fun _=>p00,fun _=>-1,g00,fun _=>false,fun _=>false,0⟩,_,rfl,Nat.zero_le _,rfl,wok_first m,HG.out⟩
    case round=>
     clear HG
     obtain ⟨k,s,wr,rfl,hk,rfl,W,hg⟩:=hrel
     by_cases hlt:k<len0
     · obtain ⟨ab,off,x,rfl,hab,hx,hc0⟩:=HW.out.at_ hlt
       clear hx
       have hcl:=((hg.turned.below (Nat.le_refl _) fun _ h=>h.elim).cell (p:=⟨ab,off+k,none⟩) hab).trans hc0
       clear hc0 hab
       have hlti:(k:Int)<(len0:Int):=by omega
       have HS:=zz fun (p:Nat) (hp:p≤2)=>(wk_step W (by omega) HI.out hp wr).on hg
       have HLT:=zz hlt
       clear hg hlt hk W
       go_upto_region 18 with fail
       clear hcl
       obtain ⟨zP,hzP⟩:∃ z:Bool,decide (x<0∨2<x)=z:=⟨_,rfl⟩
       have HP:=zz hzP
       clear hzP
       go_cut [85] from 80 to 86 (fun u wc=>u=.bool zP∧wr=wc)
       case first=>
        have hzP:=HP.out
        by_cases h0:x<0
        · obtain rfl:true=zP:=by rw [←hzP];simp [h0]
          clear hzP
          go_wp2_with fail
          go_meet
          exact ⟨rfl,rfl⟩
        · by_cases h2:x>2
          · obtain rfl:true=zP:=by rw [←hzP];simp;omega
            clear hzP
            go_wp2_with fail
            go_meet
            exact ⟨rfl,rfl⟩
          · obtain rfl:false=zP:=by rw [←hzP];simp;omega
            clear hzP
            go_wp2_with fail
            go_meet
            exact ⟨rfl,rfl⟩
       case rest=>
       obtain ⟨rfl,rfl⟩:=hcut
       go_upto_if 85 with fail
       go_cut [11] from 80 to 86 (fun u wc=>∃ p:Nat,p≤2∧u=.int .i64 (p:Int)∧wr=wc)
       case first=>
        cases zP with
        | true=>
         go_wp2_with fail
         go_meet
         exact ⟨0,by omega,rfl,rfl⟩
        | false=>
         go_wp2_with fail
         go_meet
         have h:=of_decide_eq_false HP.out
         exact ⟨x.toNat,by omega,by rw [show ((x.toNat:Nat):Int)=x by omega],rfl⟩
       case rest=>
       obtain ⟨p,hp,rfl,rfl⟩:=hcut
       have HSC:=zz (HS.out p hp)
       have hpi:(p:Int)≤2:=by omega
       unfold tkV rsOf at HSC
       simp only [bW] at HSC
       clear HS HP hp
       go_wp2_with fail
       with_reducible refine HSC.out.mono ?_
       rintro e w5 ⟨⟨s',rs,ow⟩,⟨rfl,W',said⟩,hg⟩
       dsimp only at W' said hg ⊢
       obtain ⟨d,nx,er,r,z⟩:=rs
       have W2:=zz W'
       have SD:=zz said
       dsimp only at SD ⊢
       have g4:=hg.moreSt (St.fresh #[.int .i64 (p:Int),.bool d,.int .i64 (nx:Int),.int .i64 ow,.int .i64 er,.bool r,.complex .f64 (fl z.k) (fl z.i)] 43)
       clear HSC W' said hg
       go_upto_region 23 with fail
       generalize w5.heap.size=tb at*
       generalize w5.alloc _=w6 at*
       obtain ⟨⟨x0,x1,x2,x3,x4,x5,x6⟩,_⟩:=cT g4.r
       have HG:=zz (show aA (WkT O wb X s'.ids s'.g s'.jo s'.go (Hp A Sw.cS s'.q yb s'.y X.hb sv 2 fa (fun _=>6*m) scs s'.st s'.ps)) (fun _=>False) w w6 from g4.l)
       clear g4
       go_cut [129] from 94 to 129 (fun u wc=>u=.bool false∧w6=wc)
       case first=>
        clear HG W2
        cases d with
        | false=>
         go_wp2_with fail
         go_meet
         exact ⟨rfl,rfl⟩
        | true=>
         by_cases hp2:p=2
         · subst hp2
           rw [show ((2:Nat):Int)=2 from rfl] at x0
           by_cases he:er=0
           · subst he
             by_cases h6:nx%6=1
             · have n3:((nx:Int)%6==1)=true:=by simp;omega
               rcases SD.out rfl rfl rfl h6 with hz|⟨hi,hk⟩
               · have e1:z.k=0:=by rw [hz];rfl
                 have e2:z.i=0:=by rw [hz];rfl
                 have f1:(FloatKind.f64.format.order 0 4607182418800017408 != some Ordering.eq)=true:=by kernel_rfl
                 have HWD:=zz fun w=>kU 0 0 0 0 w (by omega) (by omega) (by omega) (by omega)
                 unfold cx at HWD
                 rw [e1,e2] at x6
                 rw [fl0] at x6 HWD
                 clear e1 e2 hz SD h6
                 go_wp2_with fail
                 refine qq (HWD.out _) ?_
                 go_wp2_with fail
                 go_meet
                 exact ⟨rfl,rfl⟩
               · have f1:(FloatKind.f64.format.order 4607182418800017408 4607182418800017408 != some Ordering.eq)=false:=by kernel_rfl
                 rw [hi,fl1] at x6
                 clear hi hk SD h6
                 go_wp2_with fail
                 go_meet
                 exact ⟨rfl,rfl⟩
             · have n3:((nx:Int)%6==1)=false:=by simp;omega
               clear SD h6
               go_wp2_with fail
               go_meet
               exact ⟨rfl,rfl⟩
           · have n2:(er==0)=false:=by simpa using he
             clear SD
             go_wp2_with fail
             go_meet
             exact ⟨rfl,rfl⟩
         · have n1:((p:Int)==2)=false:=by simp;omega
           clear SD
           go_wp2_with fail
           go_meet
           exact ⟨rfl,rfl⟩
       case rest=>
       obtain ⟨rfl,rfl⟩:=hcut
       clear x0 x1 x2 x3 x4 x5 x6 SD
       have c0:=(bJ HG.out).1
       have HSO:=zz ((wk_hpR (mok_sound W2.out.m w6)).on HG.out)
       go_upto_region 25 with fail
       by_cases h9:k%9=0
       · have n9:((k:Int)%9==0)=true:=by simp;omega
         clear HG h9
         go_wp2_with fail
         refine qz HSO.out fun w7 hg=>?_
         have HG:=zz hg
         clear HSO hg c0 n9
         go_wp2_with fail
         go_round
         case rel=>exact ⟨k+1,s',_,rfl,HLT.out,by go_num,W2.out,HG.out⟩
         case measure=>have:=HLT.out;simp [intOf];omega
       · have n9:((k:Int)%9==0)=false:=by simp;omega
         clear HSO h9 c0
         go_wp2_with fail
         go_round
         case rel=>exact ⟨k+1,s',_,rfl,HLT.out,by go_num,W2.out,HG.out⟩
         case measure=>have:=HLT.out;simp [intOf];omega
     · obtain rfl:k=len0:=by omega
       have HKN:=zz (fun w=>kE w)
       have HG:=zz hg
       clear hg W HW
       go_wp2_with fail
       refine qz (HKN.out _) fun w5 hb=>?_
       have HF:=zz ((HG.out.below_ hb).turned.below (Nat.le_refl _) fun _ h=>h.elim)
       clear HG hb HKN
       go_wp2_with fail
       go_ret
       exact ⟨rfl,HF.out⟩
theorem swap_out (x:Int) (a0:Option Addr) (len0 cap0:Nat) (w:World) (h:x<1∨60<x∨3000<(len0:Int)):
 Calls prog 3 #[.slice a0 len0 cap0,.int .i64 x] w fun e w'=>e=.returned (.bool true)∧Below w.heap.size w w':=by
 have HK:=zz (fun w=>kE w)
 have HH:=zz h
 clear h
 go_enter func3,ntmps3
 go_wp2_with fail
 refine qz (HK.out _) fun wa hb=>?_
 have HB:=zz hb
 clear hb
 by_cases h1:(len0:Int)>3000
 · skip
   go_wp2_with fail
   refine qz (HK.out _) fun wb hb=>?_
   have HB2:=zz hb
   clear hb HK
   go_wp2_with fail
   go_ret
   exact ⟨rfl,HB.out.trans (HB2.out.mono HB.out.size)⟩
 by_cases h2:x<1
 · skip
   go_wp2_with fail
   refine qz (HK.out _) fun wb hb=>?_
   have HB2:=zz hb
   clear hb HK
   go_wp2_with fail
   go_ret
   exact ⟨rfl,HB.out.trans (HB2.out.mono HB.out.size)⟩
 · have h3:x>60:=by have:=HH.out;omega
   clear HH
   go_wp2_with fail
   refine qz (HK.out _) fun wb hb=>?_
   have HB2:=zz hb
   clear hb HK
   go_wp2_with fail
   go_ret
   exact ⟨rfl,HB.out.trans (HB2.out.mono HB.out.size)⟩
theorem swap_all (x:Int) (a0:Option Addr) (len0 cap0:Nat) (z0:List Int) (w:World) (w0:IsRow .i64 w a0 len0 cap0 z0):
 Calls prog 3 #[.slice a0 len0 cap0,.int .i64 x] w fun e w'=>e=.returned (.bool true)∧Below w.heap.size w w':=by
 by_cases h:x<1∨60<x∨3000<(len0:Int)
 · exact swap_out x a0 len0 cap0 w h
 · obtain ⟨n,rfl⟩:∃ n:Nat,x=(n:Int):=⟨x.toNat,by omega⟩
   exact swap_main n a0 len0 cap0 z0 w (by omega) (by omega) (by omega) w0
end
end Go.Proofs.YtgcmiahhkalfmaaGreat
