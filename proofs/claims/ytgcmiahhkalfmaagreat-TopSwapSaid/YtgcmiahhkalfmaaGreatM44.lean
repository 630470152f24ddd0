import Derived.Test.YtgcmiahhkalfmaaGreatM32
set_option maxRecDepth 100000
set_option maxHeartbeats 8000000
set_option linter.unusedVariables false
set_option linter.unusedSimpArgs false
namespace Go.Proofs.YtgcmiahhkalfmaaGreat
attribute [local go_sem] aF aI aO aV
open Go.Proofs.Tryz
open Go.RowKit
variable {c:Cf} {ll:List Bool} {A B C Fr N b cap g j lg n t z1 z2:Nat} {l:Nat→Lc} {S:Nat→Prop} {o:OpR} {q:Sw.Q} {x:Tc} {X:aC} {lv ov:Value} {w w':World}
section
variable {A:CA}
theorem act_read {i k vk vi:Nat} (hc:c.ok) (hi:i<c.frags) (hk:k<8) (hv:q.m (i*8+k)=⟨vk,vi⟩) (h:(aE A c q).at_ S w):
 Calls prog 235 #[.pointer (some ⟨A.b,0,none⟩),.int .i64 (i:Int),.int .i64 (k:Int)] w fun e w'=>e=.returned (.tuple #[cx vk vi,.bool true])∧aA (aE A c q) S w w':=by
 have g0:=aA.begin h
 obtain ⟨c0,c1,c2,c3,c4,c5,c6,c7,c8⟩:=eG g0
 have HA:=zz (g0.plain (eQ i k hc (bO g0.is).choose_spec hi hk))
 have hw:i*8+k<c.words:=by unfold Cf.words;omega
 have HM:=zz fun w1 (gg:aA (aE A c q) S w w1)=>(core_read hv hc hw w1).on gg
 unfold cfV at HA
 clear h g0 hc hv hw
 go_enter func235,ntmps235
 go_wp2_with fail
 refine qz HA.out fun w1 hg=>?_
 have HC:=zz (HM.out _ hg)
 have k9:=hg.cp 9 A.bm
 clear c0 c1 c2 c3 c4 c5 c6 c7 c8 HA HM hg
 generalize ((i*8+k:Nat):Int)=ad at*
 go_wp2_with fail
 refine qz HC.out fun w2 hg=>?_
 have HG:=zz hg
 unfold cx
 clear hg HC k9
 go_wp2_with fail
 go_ret2
 exact ⟨rfl,HG.out⟩
theorem act_first (hc:c.ok) (hs:c.shapes[0]? = some (false,ll)) (h:(aZ c g cap).at_ S w):
 Calls prog 283 #[cfV c g cap,cx 0 1] w fun e w'=>∃ v:Option Addr×Nat×Nat,e=.returned (.tuple #[.int .i64 0,.agg #[.bool false,.slice v.1 v.2.1 v.2.2],.bool true])∧aA (aZ c g cap) S w w':=by
 have g0:=((aA.begin h).moreSt (St.fresh (aD c (.slice (some ⟨g,0,none⟩) c.shapes.length cap)) 34)).moreSt (St.fresh #[.bool false,.slice none 0 0] 55)
 rw [World.size_alloc] at g0
 obtain ⟨cb,hcb⟩:∃ k,w.heap.size=k:=⟨_,rfl⟩
 obtain ⟨rb,hrb⟩:∃ k,cb+1=k:=⟨_,rfl⟩
 rw [hcb,hrb] at g0
 have HT:=zz (fun w=>jA 0 1 w (by omega) (by omega))
 have HA:=zz fun w1 (gg:aA (Sep (Sep (aZ c g cap) (Var cb (aD c (.slice (some ⟨g,0,none⟩) c.shapes.length cap)) 34)) (Var rb #[.bool false,.slice none 0 0] 55)) S w w1)=>dM (i:=0) hc gg.l.l.is hs
 rw [show ((0:Nat):Int)=0 from rfl] at HA HT
 rw [show ((1:Nat):Int)=1 from rfl] at HT
 obtain ⟨c0,c1,c2,c3,c4,c5,c6,c7,c8⟩:_∧_∧_∧_∧_∧_∧_∧_∧_:=⟨g0.l.r.vi 0 c.frags,g0.l.r.vi 1 c.spine,g0.l.r.vi 2 c.globals,g0.l.r.vi 3 c.threads,g0.l.r.vi 4 c.locals,g0.l.r.vi 5 0,g0.l.r.vi 6 c.stack,g0.l.r.vi 7 c.low,g0.l.r.vC 8 (.slice (some ⟨g,0,none⟩) c.shapes.length cap)⟩
 unfold cfV cx at*
 simp only [aD] at*
 generalize fl 0=x0 at*
 generalize fl 1=x1 at*
 clear h hc hs
 go_enter func283,ntmps283
 go_upto_region 1 with fail
 generalize (w.alloc _).alloc _=w1 at*
 go_wp2_with fail
 refine qq (HT.out _) ?_
 go_wp2_with fail
 with_reducible refine (HA.out _ g0).mono ?_
 rintro e w2 ⟨v1,rfl,hb,S1,hr,hs1⟩
 obtain ⟨xx,k1,rfl⟩:=hr.slice
 have g3:=(g0.below_ hb).moreSt (St.fresh #[.bool false,.slice xx ll.length k1] 55)
 clear HT HA c0 c1 c2 c3 c4 c5 c6 c7 c8 g0 hr hs1 hb
 go_upto_region 3 with fail
 generalize w2.heap.size=sb at*
 generalize w2.alloc _=w3 at*
 have e0:=g3.r.vb 0 false
 have e1:=g3.r.vC 1 (.slice xx ll.length k1)
 have q0:=g3.l.r.vb 0 false
 have q1:=g3.l.r.vC 1 (.slice none 0 0)
 have f0:=g3.l.r.vf 0
 have f1:=g3.l.r.vf 1
 have g5:=(g3.then (aG (aH (fun S h=>((aA.begin h).vput 0 (.bool false) rfl).vput 1 (.slice xx ll.length k1) rfl)))).drew_
 have r0:=g5.l.r.vb 0 false
 have r1:=g5.l.r.vC 1 (.slice xx ll.length k1)
 have HF:=zz g5.l.l.l
 clear g3 g5
 go_wp2_with fail
 go_region
 generalize World.drew (World.setCell (World.setCell _ _ _) _ _)=wf at*
 clear e0 e1 q0 q1 f0 f1
 go_wp2_with fail
 exact bodyPost_ret (v:=.tuple #[.int .i64 0,.agg #[.bool false,.slice xx ll.length k1],.bool true]) (by simp [results,results283,go_sem,r0,r1]) rfl ⟨(xx,ll.length,k1),rfl,HF.out⟩
theorem core_first (hc:c.ok) (hs:c.shapes[0]? = some (false,ll)) (w:World):
 aN prog 283 #[cfV c A.g A.cap,cx 0 1] w (aE A c q) (fun (v:Option Addr×Nat×Nat) e=>e=.returned (.tuple #[.int .i64 0,.agg #[.bool false,.slice v.1 v.2.1 v.2.2],.bool true])) (fun _=>aE A c q):=
 aN.r (aN.l fun S h=>act_first hc hs h)
theorem act_tells (hc:c.ok) (hFc:Fr<c.frags) (hsh:c.shapes[0]? = some (false,ll)) (hv1:q.m (Fr*8+1)=⟨0,1⟩) (hk:o.kd=11) (hjo:o.b=j) (hj:j<n) (hs:(l j).k≤63∧(l j).i≤63) (hix:ixI (l j).k (l j).i=Fr)
 (ha:o.a<n) (hn:n≤8) (hph:x.ph=2) (hnx:x.nx≤1000) (h:(Sep (aE A c q) (aT b t ov lg n x l X)).at_ S w):
 Calls prog 226 #[.pointer (some ⟨b,0,none⟩),.pointer (some ⟨A.b,0,none⟩),.agg (opc o)] w fun e w'=>e=.returned (Rs.v ⟨x.nx,x.own,0,false,fl 0,fl 0,true⟩)∧aA (Sep (aE A c q) (aT b t ov lg n x.next (jL l o.a ⟨false,0,0⟩) X)) S w w':=by
 have hoc:opc o=#[.int .i64 11,.int .i64 (o.a:Int),.int .i64 (j:Int),.int .i64 (o.c:Int),.int .i64 (o.n:Int),.complex .f64 o.z1 o.z2]:=by unfold opc;rw [hk,hjo];rfl
 rw [hoc]
 have g0:=((aA.begin h).moreSt (St.fresh #[.int .i64 11,.int .i64 (o.a:Int),.int .i64 (j:Int),.int .i64 (o.c:Int),.int .i64 (o.n:Int),.complex .f64 o.z1 o.z2] 27)).moreSt (St.fresh aQ 41)
 rw [World.size_alloc] at g0
 obtain ⟨vb,hvb⟩:∃ k,w.heap.size=k:=⟨_,rfl⟩
 obtain ⟨rb,hrb⟩:∃ k,vb+1=k:=⟨_,rfl⟩
 rw [hvb,hrb] at g0
 simp only [aQ] at g0
 have HH:=zz (act_head hj hs g0.l.l.r.is)
 rw [hix] at HH
 have HRD:=zz fun w1 (gg:aA (Sep (Sep (Sep (aE A c q) (aT b t ov lg n x l X)) (Var vb #[.int .i64 11,.int .i64 (o.a:Int),.int .i64 (j:Int),.int .i64 (o.c:Int),.int .i64 (o.n:Int),.complex .f64 o.z1 o.z2] 27)) (Var rb #[.int .i64 0,.int .i64 0,.int .i64 0,.bool false,.complex .f64 0 0] 41)) S w w1)=>gg.call (bR (bR (bR fun S h=>act_read hc hFc (by omega) hv1 h)))
 have HFI:=zz fun w1 (gg:aA (Sep (Sep (Sep (aE A c q) (aT b t ov lg n x l X)) (Var vb #[.int .i64 11,.int .i64 (o.a:Int),.int .i64 (j:Int),.int .i64 (o.c:Int),.int .i64 (o.n:Int),.complex .f64 o.z1 o.z2] 27)) (Var rb #[.int .i64 0,.int .i64 0,.int .i64 0,.bool false,.complex .f64 0 0] 41)) S w w1)=>aN.on (aN.l (aN.l (aN.l (core_first hc hsh w1)))) gg
 have HLY:=zz fun w1 sb v1 v2 v3 (gg:aA (Sep (Sep (Sep (Sep (aE A c q) (aT b t ov lg n x l X)) (Var vb #[.int .i64 11,.int .i64 (o.a:Int),.int .i64 (j:Int),.int .i64 (o.c:Int),.int .i64 (o.n:Int),.complex .f64 o.z1 o.z2] 27)) (Var rb #[.int .i64 0,.int .i64 0,.int .i64 0,.bool false,.complex .f64 0 0] 41)) (Var sb #[.bool false,.slice v1 v2 v3] 55)) S w w1)=>gg.call (bR (bR (bR (cY fun S h=>lM (v:=⟨false,0,0⟩) ha hn hph hnx h))))
 have HW:=zz fun w=>num_whole 0 w (by omega)
 rw [show ((0:Nat):Int)=0 from rfl] at HW
 rw [show ((1:Nat):Int)=1 from rfl] at HRD
 unfold Rs.v cfV cx at*
 rw [fl0] at*
 simp only at HLY
 generalize fl 1=y1 at*
 clear h hoc hk hjo hc hsh hv1 hix hs
 go_enter func226,ntmps226
 go_upto_region 1 with fail
 generalize (w.alloc _).alloc _=w1 at*
 have p2:=g0.l.r.vi 2 (j:Int)
 go_wp2_with fail
 refine qq HH.out ?_
 have HRC:=zz (HRD.out _ g0)
 clear HH HRD g0 p2
 go_wp2_with fail
 refine qz HRC.out fun w3 hg=>?_
 obtain ⟨c0,c1,c2,c3,c4,c5,c6,c7,c8⟩:=eG hg.l.l.l
 have HFC:=zz (HFI.out _ hg)
 clear HRC HFI hg
 go_wp2_with fail
 with_reducible refine HFC.out.mono ?_
 rintro e w4 ⟨⟨v1,v2,v3⟩,rfl,hg⟩
 clear HFC c0 c1 c2 c3 c4 c5 c6 c7 c8
 have g5:=hg.moreSt (St.fresh #[.bool false,.slice v1 v2 v3] 55)
 clear hg
 go_upto_region 3 with fail
 generalize w4.heap.size=sb at*
 generalize w4.alloc _=w5 at*
 have p0:=g5.l.l.r.vi 0 11
 have p1:=g5.l.l.r.vi 1 (o.a:Int)
 go_wp2_with fail
 have g7:=g5.drew_
 clear g5 p0 p1
 refine wp_region_held_drew (S:=fun w'=>w'.cell? ⟨vb,1,none⟩=some (.int .i64 (o.a:Int))) (by kernel_rfl) (g7.l.l.r.vi 1 (o.a:Int)) (fun hHeld=>?_)
 generalize w5.drew=wd at*
 refine tk 0 ?_
 refine tk 1 ?_
 refine tk 2 ?_
 refine tk 3 ?_
 refine dV (i:=4) (oi:=_) (v:=.complex .f64 0 0) rfl (by kernel_rfl) (by kernel_rfl) (by kernel_rfl) (fun _ _ _ h=>h) ⟨by rfl,fun w hSw=>⟨_,_,?_,HW.out w⟩⟩ (by assumption) ?_
 · go_simp
 try simp only [Act.put,List.setIfInBounds_toArray,List.set_cons_zero,List.set_cons_succ]
 refine tk 5 ?_
 have HYC:=zz (HLY.out _ _ _ _ _ g7)
 clear HLY HW g7
 refine rdy 6 fun K hK=>?_
 go_simp
 refine qz HYC.out fun w6 hgx=>?_
 have hg:aA (Sep (Sep (Sep (aE A c q) (aT b t ov lg n x.next (jL l o.a ⟨false,0,0⟩) X)) (Var vb #[.int .i64 11,.int .i64 (o.a:Int),.int .i64 (j:Int),.int .i64 (o.c:Int),.int .i64 (o.n:Int),.complex .f64 o.z1 o.z2] 27)) (Var rb #[.int .i64 0,.int .i64 0,.int .i64 0,.bool false,.complex .f64 0 0] 41)) S w w6:=hgx.l
 clear HYC hgx hHeld
 go_wp2_with fail
 refine hon hK (hg.l.r.vi 1 (o.a:Int)) fun hHeld=>?_
 clear hK K
 refine tk 7 ?_
 refine tk 8 ?_
 have q0:=hg.r.vi 0 0
 have f0:=hg.r.vf 0
 have q1:=hg.r.vi 1 0
 have f1:=hg.r.vf 1
 have q2:=hg.r.vi 2 0
 have f2:=hg.r.vf 2
 have q3:=hg.r.vb 3 false
 have f3:=hg.r.vf 3
 have q4:=hg.r.vC 4 (.complex .f64 0 0)
 have f4:=hg.r.vf 4
 have g8:=hg.then (aH (fun S h=>(aA.begin h).p5 (.int .i64 (x.nx:Int)) (.int .i64 x.own) (.int .i64 0) (.bool false) (.complex .f64 0 0)))
 refine rdy 9 fun K hK=>?_
 go_simp
 go_wp2_with fail
 refine hon hK (g8.l.r.vi 1 (o.a:Int)) fun hHeld=>?_
 clear hK K
 refine tk 10 ?_
 refine wpAnyH_done (by kernel_rfl) ?_ _
 clear hHeld q0 q1 q2 q3 q4 f0 f1 f2 f3 f4
 generalize World.setCell (World.setCell (World.setCell (World.setCell (World.setCell _ _ _) _ _) _ _) _ _) _ _=wf at*
 have k0:=g8.r.vi 0 (x.nx:Int)
 have k1:=g8.r.vi 1 x.own
 have k2:=g8.r.vi 2 0
 have k3:=g8.r.vb 3 false
 have k4:=g8.r.vC 4 (.complex .f64 0 0)
 have HF:=zz g8.l.l
 clear hg g8
 go_wp2_with fail
 exact bodyPost_ret (v:=.tuple #[.agg #[.int .i64 (x.nx:Int),.int .i64 x.own,.int .i64 0,.bool false,.complex .f64 0 0],.bool true]) (by simp [results,results226,go_sem,k0,k1,k2,k3,k4]) rfl ⟨rfl,HF.out⟩
end
section
theorem op_check11 (hc:c.ok) (hA:A<c.locals) (hB:B<c.locals) (h:(aZ c g cap).at_ S w):
 Calls prog 218 #[cfV c g cap,.agg #[.int .i64 11,.int .i64 A,.int .i64 B,.int .i64 C,.int .i64 N,.complex .f64 z1 z2]] w fun e w'=>e=.returned (.int .i64 0)∧Below w.heap.size w w':=by
 have hb0:Below w.heap.size w ((w.alloc (.cells (aD c (.slice (some ⟨g,0,none⟩) c.shapes.length cap)) 34)).alloc (.cells #[.int .i64 11,.int .i64 A,.int .i64 B,.int .i64 C,.int .i64 N,.complex .f64 z1 z2] 27)):=((Below.refl w.heap.size w).alloc (Nat.le_refl _) _).alloc (by simp) _
 have C0:Blk ((w.alloc (.cells (aD c (.slice (some ⟨g,0,none⟩) c.shapes.length cap)) 34)).alloc (.cells #[.int .i64 11,.int .i64 A,.int .i64 B,.int .i64 C,.int .i64 N,.complex .f64 z1 z2] 27)) w.heap.size (aD c (.slice (some ⟨g,0,none⟩) c.shapes.length cap)) 34:=(Blk.new w _ _).alloc _
 have D0:Blk ((w.alloc (.cells (aD c (.slice (some ⟨g,0,none⟩) c.shapes.length cap)) 34)).alloc (.cells #[.int .i64 11,.int .i64 A,.int .i64 B,.int .i64 C,.int .i64 N,.complex .f64 z1 z2] 27)) (w.heap.size+1) #[.int .i64 11,.int .i64 A,.int .i64 B,.int .i64 C,.int .i64 N,.complex .f64 z1 z2] 27:=by have:=Blk.new (w.alloc (.cells (aD c (.slice (some ⟨g,0,none⟩) c.shapes.length cap)) 34)) #[.int .i64 11,.int .i64 A,.int .i64 B,.int .i64 C,.int .i64 N,.complex .f64 z1 z2] 27;rw [World.size_alloc] at this;exact this
 have HB0:=zz hb0
 have HC0:=zz C0
 have HD0:=zz D0
 have g0:=zz ((aA.begin h).below_ hb0)
 have HK:=zz hc
 unfold cfV at*
 simp only [aD] at*
 clear h hc hb0
 go_enter func218,ntmps218
 go_upto_region 1 with fail
 generalize (w.alloc _).alloc _=W1 at*
 generalize hob:w.heap.size+1=ob at*
 have d0:=D0.cell 0
 simp at d0
 go_wp2_with fail
 refine qz (op_words11 _) fun w2 hb=>?_
 have C2:=zz (aK HC0.out hb)
 have D2:=zz (aK HD0.out hb)
 have HB2:=zz (HB0.out.trans (hb.mono HB0.out.size))
 have HCK:=zz (bY HK.out (g0.out.below_ hb).is)
 have G2:=zz (g0.out.below_ hb)
 unfold cfV at HCK
 clear d0 C0 D0 HC0 HD0 HB0 hb g0
 obtain ⟨c0,c1,c2,c3,c4,c5,c6,c7,c8⟩:=cf9 C2.out
 go_wp2_with fail
 refine qz (HCK.out) fun w3 hb=>?_
 have C3:=aK C2.out hb
 have D3:=aK D2.out hb
 have HB3:=zz (HB2.out.trans (hb.mono HB2.out.size))
 have G3:=zz (G2.out.below_ hb)
 clear c0 c1 c2 c3 c4 c5 c6 c7 c8 C2 D2 HB2 hb HCK G2
 have cI:∀ s pos,(w3.iter s pos).cell? ⟨w.heap.size,4,none⟩=some (.int .i64 c.locals):=fun s pos=>(C3.alloc (.stringIter s pos)).cell 4
 have cI2:∀ s pos,(w3.iter s pos).cell? ⟨w.heap.size,2,none⟩=some (.int .i64 c.globals):=fun s pos=>(C3.alloc (.stringIter s pos)).cell 2
 have dI0:∀ s pos,(w3.iter s pos).cell? ⟨ob,0,none⟩=some (.int .i64 11):=fun s pos=>(D3.alloc (.stringIter s pos)).cell 0
 have dI1:∀ s pos,(w3.iter s pos).cell? ⟨ob,1,none⟩=some (.int .i64 A):=fun s pos=>(D3.alloc (.stringIter s pos)).cell 1
 have dI2:∀ s pos,(w3.iter s pos).cell? ⟨ob,2,none⟩=some (.int .i64 B):=fun s pos=>(D3.alloc (.stringIter s pos)).cell 2
 have dI4:∀ s pos,(w3.iter s pos).cell? ⟨ob,4,none⟩=some (.int .i64 N):=fun s pos=>(D3.alloc (.stringIter s pos)).cell 4
 have HBI:=zz fun (s:ByteArray) (pos:Nat)=>(show Below w.heap.size w (w3.iter s pos) from HB3.out.alloc HB3.out.size (.stringIter s pos))
 have hnx0:∀ ty,(Instr.next (.pointer (some ⟨w3.heap.size,0,none⟩)) true ty).run prog (w3.iter ⟨#[97,98]⟩ 0)=.ok (.tuple #[.bool true,.int .i64 0,.int .i32 97]) (w3.iter ⟨#[97,98]⟩ 1):=fun ty=>run_next_ascii w3 _ 0 ty (by decide) (by decide)
 have hnx1:∀ ty,(Instr.next (.pointer (some ⟨w3.heap.size,0,none⟩)) true ty).run prog (w3.iter ⟨#[97,98]⟩ 1)=.ok (.tuple #[.bool true,.int .i64 1,.int .i32 98]) (w3.iter ⟨#[97,98]⟩ 2):=fun ty=>run_next_ascii w3 _ 1 ty (by decide) (by decide)
 have hnx2:=fun ty=>run_next_end (P:=prog) w3 ⟨#[97,98]⟩ 2 ty (by decide)
 have CC3:=zz C3
 have DD3:=zz D3
 clear C3 D3 HB3
 go_wp2_with fail
 go_loopw [8,9,10] (fun _ _ _ wr=>∃ pos:Nat,pos≤2∧wr=w3.iter ⟨#[97,98]⟩ pos) (fun _ _ _ wr=>dR w3.heap.size wr)
 case atStart=>exact ⟨0,by omega,rfl⟩
 case round=>
  obtain ⟨pos,hpos,rfl⟩:=hrel
  have hcase:pos=0∨pos=1∨pos=2:=by omega
  rcases hcase with rfl|rfl|rfl
  · clear hnx1 hnx2
    go_wp2_with fail
    refine qq (dT _ _) ?_
    go_wp2_with fail
    go_round
    case rel=>exact ⟨1,by omega,rfl⟩
    case measure=>rw [aL,aL];decide
  · clear hnx0 hnx2
    go_wp2_with fail
    refine qq (hM _ _) ?_
    go_wp2_with fail
    go_round
    case rel=>exact ⟨2,by omega,rfl⟩
    case measure=>rw [aL,aL];decide
  · clear hnx0 hnx1
    go_wp2_with fail
    go_ret
    exact ⟨rfl,HBI.out _ _⟩
theorem op_check12 (hc:c.ok) (hA:A<c.locals) (h:(aZ c g cap).at_ S w):
 Calls prog 218 #[cfV c g cap,.agg #[.int .i64 12,.int .i64 A,.int .i64 B,.int .i64 C,.int .i64 N,.complex .f64 z1 z2]] w fun e w'=>e=.returned (.int .i64 0)∧Below w.heap.size w w':=by
 have hb0:Below w.heap.size w ((w.alloc (.cells (aD c (.slice (some ⟨g,0,none⟩) c.shapes.length cap)) 34)).alloc (.cells #[.int .i64 12,.int .i64 A,.int .i64 B,.int .i64 C,.int .i64 N,.complex .f64 z1 z2] 27)):=((Below.refl w.heap.size w).alloc (Nat.le_refl _) _).alloc (by simp) _
 have C0:Blk ((w.alloc (.cells (aD c (.slice (some ⟨g,0,none⟩) c.shapes.length cap)) 34)).alloc (.cells #[.int .i64 12,.int .i64 A,.int .i64 B,.int .i64 C,.int .i64 N,.complex .f64 z1 z2] 27)) w.heap.size (aD c (.slice (some ⟨g,0,none⟩) c.shapes.length cap)) 34:=(Blk.new w _ _).alloc _
 have D0:Blk ((w.alloc (.cells (aD c (.slice (some ⟨g,0,none⟩) c.shapes.length cap)) 34)).alloc (.cells #[.int .i64 12,.int .i64 A,.int .i64 B,.int .i64 C,.int .i64 N,.complex .f64 z1 z2] 27)) (w.heap.size+1) #[.int .i64 12,.int .i64 A,.int .i64 B,.int .i64 C,.int .i64 N,.complex .f64 z1 z2] 27:=by have:=Blk.new (w.alloc (.cells (aD c (.slice (some ⟨g,0,none⟩) c.shapes.length cap)) 34)) #[.int .i64 12,.int .i64 A,.int .i64 B,.int .i64 C,.int .i64 N,.complex .f64 z1 z2] 27;rw [World.size_alloc] at this;exact this
 have HB0:=zz hb0
 have HC0:=zz C0
 have HD0:=zz D0
 have g0:=zz ((aA.begin h).below_ hb0)
 have HK:=zz hc
 unfold cfV at*
 simp only [aD] at*
 clear h hc hb0
 go_enter func218,ntmps218
 go_upto_region 1 with fail
 generalize (w.alloc _).alloc _=W1 at*
 generalize hob:w.heap.size+1=ob at*
 have d0:=D0.cell 0
 simp at d0
 go_wp2_with fail
 refine qz (op_words12 _) fun w2 hb=>?_
 have C2:=zz (aK HC0.out hb)
 have D2:=zz (aK HD0.out hb)
 have HB2:=zz (HB0.out.trans (hb.mono HB0.out.size))
 have HCK:=zz (bY HK.out (g0.out.below_ hb).is)
 have G2:=zz (g0.out.below_ hb)
 unfold cfV at HCK
 clear d0 C0 D0 HC0 HD0 HB0 hb g0
 obtain ⟨c0,c1,c2,c3,c4,c5,c6,c7,c8⟩:=cf9 C2.out
 go_wp2_with fail
 refine qz (HCK.out) fun w3 hb=>?_
 have C3:=aK C2.out hb
 have D3:=aK D2.out hb
 have HB3:=zz (HB2.out.trans (hb.mono HB2.out.size))
 have G3:=zz (G2.out.below_ hb)
 clear c0 c1 c2 c3 c4 c5 c6 c7 c8 C2 D2 HB2 hb HCK G2
 have cI:∀ s pos,(w3.iter s pos).cell? ⟨w.heap.size,4,none⟩=some (.int .i64 c.locals):=fun s pos=>(C3.alloc (.stringIter s pos)).cell 4
 have cI2:∀ s pos,(w3.iter s pos).cell? ⟨w.heap.size,2,none⟩=some (.int .i64 c.globals):=fun s pos=>(C3.alloc (.stringIter s pos)).cell 2
 have dI0:∀ s pos,(w3.iter s pos).cell? ⟨ob,0,none⟩=some (.int .i64 12):=fun s pos=>(D3.alloc (.stringIter s pos)).cell 0
 have dI1:∀ s pos,(w3.iter s pos).cell? ⟨ob,1,none⟩=some (.int .i64 A):=fun s pos=>(D3.alloc (.stringIter s pos)).cell 1
 have dI2:∀ s pos,(w3.iter s pos).cell? ⟨ob,2,none⟩=some (.int .i64 B):=fun s pos=>(D3.alloc (.stringIter s pos)).cell 2
 have dI4:∀ s pos,(w3.iter s pos).cell? ⟨ob,4,none⟩=some (.int .i64 N):=fun s pos=>(D3.alloc (.stringIter s pos)).cell 4
 have HBI:=zz fun (s:ByteArray) (pos:Nat)=>(show Below w.heap.size w (w3.iter s pos) from HB3.out.alloc HB3.out.size (.stringIter s pos))
 have hnx0:∀ ty,(Instr.next (.pointer (some ⟨w3.heap.size,0,none⟩)) true ty).run prog (w3.iter ⟨#[97,122]⟩ 0)=.ok (.tuple #[.bool true,.int .i64 0,.int .i32 97]) (w3.iter ⟨#[97,122]⟩ 1):=fun ty=>run_next_ascii w3 _ 0 ty (by decide) (by decide)
 have hnx1:∀ ty,(Instr.next (.pointer (some ⟨w3.heap.size,0,none⟩)) true ty).run prog (w3.iter ⟨#[97,122]⟩ 1)=.ok (.tuple #[.bool true,.int .i64 1,.int .i32 122]) (w3.iter ⟨#[97,122]⟩ 2):=fun ty=>run_next_ascii w3 _ 1 ty (by decide) (by decide)
 have hnx2:=fun ty=>run_next_end (P:=prog) w3 ⟨#[97,122]⟩ 2 ty (by decide)
 have CC3:=zz C3
 have DD3:=zz D3
 clear C3 D3 HB3
 go_wp2_with fail
 go_loopw [8,9,10] (fun _ _ _ wr=>∃ pos:Nat,pos≤2∧wr=w3.iter ⟨#[97,122]⟩ pos) (fun _ _ _ wr=>dR w3.heap.size wr)
 case atStart=>exact ⟨0,by omega,rfl⟩
 case round=>
  obtain ⟨pos,hpos,rfl⟩:=hrel
  have hcase:pos=0∨pos=1∨pos=2:=by omega
  rcases hcase with rfl|rfl|rfl
  · clear hnx1 hnx2
    go_wp2_with fail
    refine qq (dT _ _) ?_
    go_wp2_with fail
    go_round
    case rel=>exact ⟨1,by omega,rfl⟩
    case measure=>rw [aL,aL];decide
  · clear hnx0 hnx2
    go_wp2_with fail
    go_round
    case rel=>exact ⟨2,by omega,rfl⟩
    case measure=>rw [aL,aL];decide
  · clear hnx0 hnx1
    go_wp2_with fail
    go_ret
    exact ⟨rfl,HBI.out _ _⟩
theorem op_check13 (hc:c.ok) (hA:A<c.locals) (h:(aZ c g cap).at_ S w):
 Calls prog 218 #[cfV c g cap,.agg #[.int .i64 13,.int .i64 A,.int .i64 B,.int .i64 C,.int .i64 N,.complex .f64 z1 z2]] w fun e w'=>e=.returned (.int .i64 0)∧Below w.heap.size w w':=by
 have hb0:Below w.heap.size w ((w.alloc (.cells (aD c (.slice (some ⟨g,0,none⟩) c.shapes.length cap)) 34)).alloc (.cells #[.int .i64 13,.int .i64 A,.int .i64 B,.int .i64 C,.int .i64 N,.complex .f64 z1 z2] 27)):=((Below.refl w.heap.size w).alloc (Nat.le_refl _) _).alloc (by simp) _
 have C0:Blk ((w.alloc (.cells (aD c (.slice (some ⟨g,0,none⟩) c.shapes.length cap)) 34)).alloc (.cells #[.int .i64 13,.int .i64 A,.int .i64 B,.int .i64 C,.int .i64 N,.complex .f64 z1 z2] 27)) w.heap.size (aD c (.slice (some ⟨g,0,none⟩) c.shapes.length cap)) 34:=(Blk.new w _ _).alloc _
 have D0:Blk ((w.alloc (.cells (aD c (.slice (some ⟨g,0,none⟩) c.shapes.length cap)) 34)).alloc (.cells #[.int .i64 13,.int .i64 A,.int .i64 B,.int .i64 C,.int .i64 N,.complex .f64 z1 z2] 27)) (w.heap.size+1) #[.int .i64 13,.int .i64 A,.int .i64 B,.int .i64 C,.int .i64 N,.complex .f64 z1 z2] 27:=by have:=Blk.new (w.alloc (.cells (aD c (.slice (some ⟨g,0,none⟩) c.shapes.length cap)) 34)) #[.int .i64 13,.int .i64 A,.int .i64 B,.int .i64 C,.int .i64 N,.complex .f64 z1 z2] 27;rw [World.size_alloc] at this;exact this
 have HB0:=zz hb0
 have HC0:=zz C0
 have HD0:=zz D0
 have g0:=zz ((aA.begin h).below_ hb0)
 have HK:=zz hc
 unfold cfV at*
 simp only [aD] at*
 clear h hc hb0
 go_enter func218,ntmps218
 go_upto_region 1 with fail
 generalize (w.alloc _).alloc _=W1 at*
 generalize hob:w.heap.size+1=ob at*
 have d0:=D0.cell 0
 simp at d0
 go_wp2_with fail
 refine qz (op_words13 _) fun w2 hb=>?_
 have C2:=zz (aK HC0.out hb)
 have D2:=zz (aK HD0.out hb)
 have HB2:=zz (HB0.out.trans (hb.mono HB0.out.size))
 have HCK:=zz (bY HK.out (g0.out.below_ hb).is)
 have G2:=zz (g0.out.below_ hb)
 unfold cfV at HCK
 clear d0 C0 D0 HC0 HD0 HB0 hb g0
 obtain ⟨c0,c1,c2,c3,c4,c5,c6,c7,c8⟩:=cf9 C2.out
 go_wp2_with fail
 refine qz (HCK.out) fun w3 hb=>?_
 have C3:=aK C2.out hb
 have D3:=aK D2.out hb
 have HB3:=zz (HB2.out.trans (hb.mono HB2.out.size))
 have G3:=zz (G2.out.below_ hb)
 clear c0 c1 c2 c3 c4 c5 c6 c7 c8 C2 D2 HB2 hb HCK G2
 have cI:∀ s pos,(w3.iter s pos).cell? ⟨w.heap.size,4,none⟩=some (.int .i64 c.locals):=fun s pos=>(C3.alloc (.stringIter s pos)).cell 4
 have cI2:∀ s pos,(w3.iter s pos).cell? ⟨w.heap.size,2,none⟩=some (.int .i64 c.globals):=fun s pos=>(C3.alloc (.stringIter s pos)).cell 2
 have dI0:∀ s pos,(w3.iter s pos).cell? ⟨ob,0,none⟩=some (.int .i64 13):=fun s pos=>(D3.alloc (.stringIter s pos)).cell 0
 have dI1:∀ s pos,(w3.iter s pos).cell? ⟨ob,1,none⟩=some (.int .i64 A):=fun s pos=>(D3.alloc (.stringIter s pos)).cell 1
 have dI2:∀ s pos,(w3.iter s pos).cell? ⟨ob,2,none⟩=some (.int .i64 B):=fun s pos=>(D3.alloc (.stringIter s pos)).cell 2
 have dI4:∀ s pos,(w3.iter s pos).cell? ⟨ob,4,none⟩=some (.int .i64 N):=fun s pos=>(D3.alloc (.stringIter s pos)).cell 4
 have HBI:=zz fun (s:ByteArray) (pos:Nat)=>(show Below w.heap.size w (w3.iter s pos) from HB3.out.alloc HB3.out.size (.stringIter s pos))
 have hnx0:∀ ty,(Instr.next (.pointer (some ⟨w3.heap.size,0,none⟩)) true ty).run prog (w3.iter ⟨#[97]⟩ 0)=.ok (.tuple #[.bool true,.int .i64 0,.int .i32 97]) (w3.iter ⟨#[97]⟩ 1):=fun ty=>run_next_ascii w3 _ 0 ty (by decide) (by decide)
 have hnx1:=fun ty=>run_next_end (P:=prog) w3 ⟨#[97]⟩ 1 ty (by decide)
 have CC3:=zz C3
 have DD3:=zz D3
 clear C3 D3 HB3
 go_wp2_with fail
 go_loopw [8,9,10] (fun _ _ _ wr=>∃ pos:Nat,pos≤1∧wr=w3.iter ⟨#[97]⟩ pos) (fun _ _ _ wr=>dR w3.heap.size wr)
 case atStart=>exact ⟨0,by omega,rfl⟩
 case round=>
  obtain ⟨pos,hpos,rfl⟩:=hrel
  have hcase:pos=0∨pos=1:=by omega
  rcases hcase with rfl|rfl
  · clear hnx1
    go_wp2_with fail
    refine qq (dT _ _) ?_
    go_wp2_with fail
    go_round
    case rel=>exact ⟨1,by omega,rfl⟩
    case measure=>rw [aL,aL];decide
  · clear hnx0
    go_wp2_with fail
    go_ret
    exact ⟨rfl,HBI.out _ _⟩
end
end Go.Proofs.YtgcmiahhkalfmaaGreat
