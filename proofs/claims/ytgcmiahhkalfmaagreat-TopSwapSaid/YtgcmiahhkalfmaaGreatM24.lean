import Derived.Test.YtgcmiahhkalfmaaGreatM23
set_option maxRecDepth 100000
set_option maxHeartbeats 8000000
set_option linter.unusedVariables false
set_option linter.unusedSimpArgs false
namespace Go.Proofs.YtgcmiahhkalfmaaGreat
attribute [local go_sem] aF aI aO aV
open Go.Proofs.Tryz
open Go.RowKit
variable {A:CA} {c:Cf} {rest:List Value} {Fr N ad b i lg n r t ui uk:Nat} {l:Nat→Lc} {S:Nat→Prop} {o:OpR} {q:Sw.Q} {x:Tc} {X:aC} {lv ov v:Value} {w w':World}
section
theorem gM (hc:c.ok) (hat:x.at_=6) (hx:x.addr=(ad:Int)) (had:ad<c.words) (hw1:x.w1=fl uk) (hw2:x.w2=fl ui)
 (hph:x.ph=2) (hnx:x.nx≤1000) (h:(Sep (aE A c q) (Thr b t ov lv x X)).at_ S w):
 Calls prog 156 #[.pointer (some ⟨b,0,none⟩),.pointer (some ⟨A.b,0,none⟩)] w fun e w'=>e=.returned (Rs.v ⟨x.nx,x.own,0,false,0,0,true⟩)∧aA (Sep (aE A c {q with m:=Sw.set q.m ad ⟨uk,ui⟩}) (Thr b t ov lv x.next X)) S w w':=by
 obtain ⟨x,rfl⟩:∃ y:Tc,x={y with addr:=(ad:Int),at_:=6,w1:=fl uk,w2:=fl ui}:=⟨x,by rw [←hx,←hat,←hw1,←hw2]⟩
 have g0:=(aA.begin h).moreSt (St.fresh aQ 41)
 obtain ⟨rb,hrb⟩:∃ k,w.heap.size=k:=⟨_,rfl⟩
 rw [hrb] at g0
 have c11:=g0.l.r.ci 11 6
 have g1:=g0.drew_
 have k9:=g1.l.l.cp 9 A.bm
 have c13:=g1.l.r.ci 13 (ad:Int)
 have c16:=g1.l.r.cC 16 (.complex .f64 (fl uk) (fl ui))
 have HL:=zz ((kG ⟨uk,ui⟩ hc had _).l.l.on g1)
 dsimp only at HL
 unfold Rs.v
 simp only [aQ] at*
 generalize hz1:fl uk=z1 at*
 generalize hz2:fl ui=z2 at*
 clear h g0 g1 hc hx hat hw1 hw2 hz1 hz2
 go_enter func156,ntmps156
 go_upto_region 1 with fail
 generalize w.alloc _=w1 at*
 go_wp2_with fail
 refine bA 1 fun F hF=>?_
 go_wp2_with fail
 refine wp_goto (show Exit.via F _ _ 1 (.goto 2) _ _ from ⟨_,by rw [hF.out];rfl,?_⟩)
 clear hF
 go_wp2_with fail
 go_still_tail 14,(by kernel_rfl)
 change wpList _ _ _ _ _ w1.drew
 generalize w1.drew=w2 at*
 go_wp2_with fail
 refine qz HL.out fun w3 hg=>?_
 have HD:=zz (hg.call (bR (cY fun S h=>act_done_ok (x:={x with addr:=(ad:Int),at_:=6,w1:=z1,w2:=z2}) (r:=false) (z1:=0) (z2:=0) hph hnx h)))
 unfold resV at HD
 clear HL hg k9 c13 c16 c11
 go_wp2_with fail
 refine qz HD.out fun w4 hgx=>?_
 have hg:aA (Sep (Sep (aE A c {q with m:=Sw.set q.m ad ⟨uk,ui⟩}) (Thr b t ov lv (Tc.next {x with addr:=(ad:Int),at_:=6,w1:=z1,w2:=z2}) X)) (Var rb #[.int .i64 0,.int .i64 0,.int .i64 0,.bool false,.complex .f64 0 0] 41)) S w w4:=hgx
 clear hgx HD
 have q0_:=hg.r.vi 0 0
 have p0_:=hg.r.vf 0
 have q1_:=hg.r.vi 1 0
 have p1_:=hg.r.vf 1
 have q2_:=hg.r.vi 2 0
 have p2_:=hg.r.vf 2
 have q3_:=hg.r.vb 3 false
 have p3_:=hg.r.vf 3
 have q4_:=hg.r.vC 4 (.complex .f64 0 0)
 have p4_:=hg.r.vf 4
 have g8_:=hg.then (aH (fun S h=>(aA.begin h).p5 (.int .i64 (x.nx)) (.int .i64 (x.own)) (.int .i64 (0)) (.bool (false)) (.complex .f64 0 0)))
 have k0_:=g8_.r.vi 0 (x.nx)
 have k1_:=g8_.r.vi 1 (x.own)
 have k2_:=g8_.r.vi 2 (0)
 have k3_:=g8_.r.vb 3 (false)
 have k4_:=g8_.r.vC 4 (.complex .f64 0 0)
 have HF:=zz g8_.l
 clear hg g8_
 go_wp2_with fail
 (try rw [aI])
 exact bodyPost_ret (v:=.tuple #[.agg #[.int .i64 (x.nx),.int .i64 (x.own),.int .i64 (0),.bool (false),.complex .f64 0 0],.bool true]) (by simp [results,results156,go_sem,k0_,k1_,k2_,k3_,k4_]) rfl ⟨rfl,HF.out⟩
theorem act_stores_grey (hc:c.ok) (hi:i<c.frags) (hu:(q.t i).hd=true→(q.t i).st=2) (hp:q.pl.length≤c.stack) (hF:i≤62) (hat:x.at_=5) (hw1:x.w1=fl (i+1)) (hw2:x.w2=fl 1) (h:(Sep (aE A c q) (Thr b t ov lv x X)).at_ S w):
 Calls prog 156 #[.pointer (some ⟨b,0,none⟩),.pointer (some ⟨A.b,0,none⟩)] w fun e w'=>e=.returned (Rs.v ⟨0,0,0,false,0,0,false⟩)∧aA (Sep (aE A c (q.grey c i x.sn)) (Thr b t ov lv {x with at_:=6} X)) S w w':=by
 obtain ⟨x,rfl⟩:∃ y:Tc,x={y with at_:=5,w1:=fl (i+1),w2:=fl 1}:=⟨x,by rw [←hat,←hw1,←hw2]⟩
 have g0:=(aA.begin h).moreSt (St.fresh aQ 41)
 obtain ⟨rb,hrb⟩:∃ k,w.heap.size=k:=⟨_,rfl⟩
 rw [hrb] at g0
 have c11:=g0.l.r.ci 11 5
 have c16:=g0.l.r.cC 16 (.complex .f64 (fl (i+1)) (fl 1))
 have g1:=g0.drew_
 have k10:=g1.l.l.cp 10 A.bs
 have c5:=g1.l.r.cb 5 x.sn
 have HL:=zz ((core_grey hc hi hu hp x.sn _).l.l.on g1)
 have HI:=zz fun w=>cW (i+1) 1 w (by omega) (by omega)
 rw [show ixB (i+1) 1=true by unfold ixB;simp,show ixI (i+1) 1=i by unfold ixI ixB;simp] at HI
 generalize hrb2:((q.t i).hd&&!q.blk i x.sn)=rv at*
 clear hrb2 hu hp hc
 unfold Rs.v
 unfold cx at HI
 generalize fl (i+1)=z1 at*
 generalize fl 1=z2 at*
 simp only [aQ] at*
 clear h g0 g1 hat hw1 hw2
 go_enter func156,ntmps156
 go_upto_region 1 with fail
 generalize w.alloc _=w1 at*
 go_wp2_with fail
 refine bA 2 fun F hF=>?_
 go_wp2_with fail
 refine wp_goto (show Exit.via F _ _ 2 (.goto 1) _ _ from ⟨_,by rw [hF.out];rfl,?_⟩)
 go_wp2_with fail
 refine qq (HI.out _) ?_
 clear HI
 go_wp2_with fail
 go_still_tail 9,(by kernel_rfl)
 change wpList _ _ _ _ _ w1.drew
 generalize w1.drew=w2 at*
 go_wp2_with fail
 refine qz HL.out fun w3 hgx=>?_
 have hg0:aA (Sep (Sep (aE A c (q.grey c i x.sn)) (Thr b t ov lv {x with at_:=5,w1:=z1,w2:=z2} X)) (Var rb #[.int .i64 0,.int .i64 0,.int .i64 0,.bool false,.complex .f64 0 0] 41)) S w w3:=hgx
 have d11:=hg0.l.r.ci 11 5
 have f11:=hg0.l.r.fr 11
 have hg:=hg0.then (aG (fun S h=>aH (B':=Thr b t ov lv {x with at_:=6,w1:=z1,w2:=z2} X) (fun S h=>(aA.begin h).put 11 (.int .i64 6) (cs':=aM t ov lv {x with at_:=6,w1:=z1,w2:=z2}) rfl) S h))
 clear hgx HL k10 c5 c11 c16
 go_wp2_with fail
 refine wp_goto (show Exit.via F _ _ 1 (.goto 4) _ _ from ⟨_,by rw [hF.out];rfl,?_⟩)
 clear hF hg0
 generalize World.setCell _ _ _=w6 at*
 have q0_:=hg.r.vi 0 0
 have p0_:=hg.r.vf 0
 have q1_:=hg.r.vi 1 0
 have p1_:=hg.r.vf 1
 have q2_:=hg.r.vi 2 0
 have p2_:=hg.r.vf 2
 have q3_:=hg.r.vb 3 false
 have p3_:=hg.r.vf 3
 have q4_:=hg.r.vC 4 (.complex .f64 0 0)
 have p4_:=hg.r.vf 4
 have g8_:=hg.then (aH (fun S h=>(aA.begin h).p5 (.int .i64 (0)) (.int .i64 (0)) (.int .i64 (0)) (.bool (false)) (.complex .f64 0 0)))
 have k0_:=g8_.r.vi 0 (0)
 have k1_:=g8_.r.vi 1 (0)
 have k2_:=g8_.r.vi 2 (0)
 have k3_:=g8_.r.vb 3 (false)
 have k4_:=g8_.r.vC 4 (.complex .f64 0 0)
 have HF:=zz g8_.l
 clear hg g8_
 go_wp2_with fail
 (try rw [aI])
 exact bodyPost_ret (v:=.tuple #[.agg #[.int .i64 (0),.int .i64 (0),.int .i64 (0),.bool (false),.complex .f64 0 0],.bool false]) (by simp [results,results156,go_sem,k0_,k1_,k2_,k3_,k4_]) rfl ⟨rfl,HF.out⟩
end
section
def olA (ok uk ui:Nat) (st:Int):Int:=if ixB ok 1 then 4 else bhd uk ui st
theorem iV {ok:Nat} (hc:c.ok) (hat:x.at_=3) (hx:x.addr=(ad:Int)) (had:ad<c.words) (hv:q.m ad=⟨ok,1⟩) (hok:ok≤63) (huk:uk≤63) (hui:ui≤63) (hw1:x.w1=fl uk) (hw2:x.w2=fl ui) (h:(Sep (aE A c q) (Thr b t ov lv x X)).at_ S w):
 Calls prog 156 #[.pointer (some ⟨b,0,none⟩),.pointer (some ⟨A.b,0,none⟩)] w fun e w'=>e=.returned (Rs.v ⟨0,0,0,false,0,0,false⟩)∧aA (Sep (aE A c q) (Thr b t ov lv {x with at_:=olA ok uk ui x.st,o1:=fl ok,o2:=fl 1} X)) S w w':=by
 obtain ⟨x,rfl⟩:∃ y:Tc,x={y with addr:=(ad:Int),at_:=3,w1:=fl uk,w2:=fl ui}:=⟨x,by rw [←hx,←hat,←hw1,←hw2]⟩
 have g0:=(aA.begin h).moreSt (St.fresh aQ 41)
 obtain ⟨rb,hrb⟩:∃ k,w.heap.size=k:=⟨_,rfl⟩
 rw [hrb] at g0
 have c11:=g0.l.r.ci 11 3
 have g1:=g0.drew_
 have HL:=zz ((core_read hv hc had _).l.l.on g1)
 have HI:=zz fun w=>word_is ok 1 w hok (by omega)
 rw [show ((1:Nat)==1)=true from rfl] at HI
 have HX:=zz fun w=>cW ok 1 w hok (by omega)
 have HBH:=zz fun w5 (hg:aA (Sep (Sep (aE A c q) (Thr b t ov lv {x with addr:=(ad:Int),at_:=3,w1:=fl uk,w2:=fl ui,o1:=fl ok,o2:=fl 1} X)) (Var rb aQ 41)) S w w5)=>act_behind huk hui rfl rfl hg.l.r.is
 dsimp only at HBH
 unfold olA
 generalize hk5:bhd uk ui x.st=k5 at*
 generalize hiv:ixI ok 1=iv at*
 generalize hib:ixB ok 1=ib at*
 unfold Rs.v
 unfold cx at*
 generalize hz1:fl uk=z1 at*
 generalize hz2:fl ui=z2 at*
 generalize hz3:fl ok=z3 at*
 generalize hz4:fl 1=z4 at*
 simp only [aQ] at*
 clear h g0 hv hc hat hx hw1 hw2 hk5 hiv hib hz1 hz2 hz3 hz4
 obtain ⟨kf,hkf⟩:∃ kf,(if ib=true then (4:Int) else k5)=kf:=⟨_,rfl⟩
 rw [hkf]
 have HK:=zz hkf
 clear hkf
 go_enter func156,ntmps156
 go_upto_region 1 with fail
 generalize w.alloc _=w1 at*
 go_wp2_with fail
 refine bA 2 fun F hF=>?_
 go_wp2_with fail
 refine wp_region_held_drew (S:=fun w'=>w'.cell? ⟨A.b,9,none⟩=some (.pointer (some ⟨A.bm,0,none⟩))∧w'.cell? ⟨b,13,none⟩=some (.int .i64 (ad:Int))) (by kernel_rfl) ⟨g1.l.l.cp 9 A.bm,g1.l.r.ci 13 (ad:Int)⟩ (fun hHeld=>?_)
 refine tk 0 ?_
 refine tk 1 ?_
 refine tk 2 ?_
 refine tk 3 ?_
 refine tk 4 ?_
 refine tk 5 ?_
 refine tk 6 ?_
 refine tk 7 ?_
 refine tk 8 ?_
 refine tk 9 ?_
 refine rdy 10 fun K hK=>?_
 go_simp
 refine qz HL.out fun w3 hgx=>?_
 have hg:aA (Sep (Sep (aE A c q) (Thr b t ov lv {x with addr:=(ad:Int),at_:=3,w1:=z1,w2:=z2} X)) (Var rb #[.int .i64 0,.int .i64 0,.int .i64 0,.bool false,.complex .f64 0 0] 41)) S w w3:=hgx
 clear HL hHeld hgx g1
 go_wp2_with fail
 refine hon hK ⟨hg.l.l.cp 9 A.bm,hg.l.r.ci 13 (ad:Int)⟩ fun hHeld=>?_
 clear hK K
 refine tk 11 ?_
 refine tk 12 ?_
 refine tk 13 ?_
 refine tk 14 ?_
 refine tk 15 ?_
 refine tk 16 ?_
 have d15:=hg.l.r.cC 15 (.complex .f64 x.o1 x.o2)
 have f15:=hg.l.r.fr 15
 have hg2:=hg.then (aG (fun S h=>aH (B':=Thr b t ov lv {x with addr:=(ad:Int),at_:=3,w1:=z1,w2:=z2,o1:=z3,o2:=z4} X) (fun S h=>(aA.begin h).put 15 (.complex .f64 z3 z4) (cs':=aM t ov lv {x with addr:=(ad:Int),at_:=3,w1:=z1,w2:=z2,o1:=z3,o2:=z4}) rfl) S h))
 refine rdy 17 fun K hK=>?_
 go_simp
 refine hK.out _ _ ⟨hg2.l.l.cp 9 A.bm,hg2.l.r.ci 13 (ad:Int)⟩ (fun hHeld=>?_)
 clear hK K hg d15 f15
 try simp only [Act.put,List.setIfInBounds_toArray,List.set_cons_zero,List.set_cons_succ]
 generalize World.setCell _ _ _=w4 at*
 refine rdy 18 fun K hK=>?_
 go_simp
 refine hon hK ⟨hg2.l.l.cp 9 A.bm,hg2.l.r.ci 13 (ad:Int)⟩ fun hHeld=>?_
 clear hK K
 refine wpAnyH_done (by kernel_rfl) ?_ _
 have d15:=hg2.l.r.cC 15 (.complex .f64 z3 z4)
 have HB2:=zz (HBH.out _ hg2)
 have HG2:=zz hg2
 clear hg2 HBH
 go_wp2_with fail
 refine qq (HI.out _) ?_
 go_wp2_with fail
 refine qq (HX.out _) ?_
 clear HI HX
 cases ib with
 | true=>
  obtain rfl:4=kf:=by have:=HK.out;simpa using this
  have hg0:=HG2.out
  have d11:=hg0.l.r.ci 11 3
  have f11:=hg0.l.r.fr 11
  have hg:aA (Sep (Sep (aE A c q) (Thr b t ov lv {x with addr:=(ad:Int),at_:=4,w1:=z1,w2:=z2,o1:=z3,o2:=z4} X)) (Var rb #[.int .i64 0,.int .i64 0,.int .i64 0,.bool false,.complex .f64 0 0] 41)) S w _:=hg0.then (aG (aH (fun S h=>(aA.begin h).put 11 (.int .i64 4) (cs':=aM t ov lv {x with addr:=(ad:Int),at_:=4,w1:=z1,w2:=z2,o1:=z3,o2:=z4}) rfl)))
  clear HB2 HG2 hg0 d15 HK
  go_wp2_with fail
  refine wp_goto (show Exit.via F _ _ 2 (.goto 4) _ _ from ⟨_,by rw [hF.out];rfl,?_⟩)
  clear hF d11 f11
  generalize World.setCell _ _ _=w6 at*
  have q0_:=hg.r.vi 0 0
  have p0_:=hg.r.vf 0
  have q1_:=hg.r.vi 1 0
  have p1_:=hg.r.vf 1
  have q2_:=hg.r.vi 2 0
  have p2_:=hg.r.vf 2
  have q3_:=hg.r.vb 3 false
  have p3_:=hg.r.vf 3
  have q4_:=hg.r.vC 4 (.complex .f64 0 0)
  have p4_:=hg.r.vf 4
  have g8_:=hg.then (aH (fun S h=>(aA.begin h).p5 (.int .i64 (0)) (.int .i64 (0)) (.int .i64 (0)) (.bool (false)) (.complex .f64 0 0)))
  have k0_:=g8_.r.vi 0 (0)
  have k1_:=g8_.r.vi 1 (0)
  have k2_:=g8_.r.vi 2 (0)
  have k3_:=g8_.r.vb 3 (false)
  have k4_:=g8_.r.vC 4 (.complex .f64 0 0)
  have HF:=zz g8_.l
  clear hg g8_
  go_wp2_with fail
  (try rw [aI])
  exact bodyPost_ret (v:=.tuple #[.agg #[.int .i64 (0),.int .i64 (0),.int .i64 (0),.bool (false),.complex .f64 0 0],.bool false]) (by simp [results,results156,go_sem,k0_,k1_,k2_,k3_,k4_]) rfl ⟨rfl,HF.out⟩
 | false=>
  obtain rfl:k5=kf:=by have:=HK.out;simpa using this
  clear HK
  go_wp2_with fail
  refine wp_goto (show Exit.via F _ _ 2 (.goto 5) _ _ from ⟨_,by rw [hF.out];rfl,?_⟩)
  go_wp2_with fail
  refine qq HB2.out ?_
  have hg0:=HG2.out
  have d11:=hg0.l.r.ci 11 3
  have f11:=hg0.l.r.fr 11
  have hg:aA (Sep (Sep (aE A c q) (Thr b t ov lv {x with addr:=(ad:Int),at_:=k5,w1:=z1,w2:=z2,o1:=z3,o2:=z4} X)) (Var rb #[.int .i64 0,.int .i64 0,.int .i64 0,.bool false,.complex .f64 0 0] 41)) S w _:=hg0.then (aG (aH (fun S h=>(aA.begin h).put 11 (.int .i64 k5) (cs':=aM t ov lv {x with addr:=(ad:Int),at_:=k5,w1:=z1,w2:=z2,o1:=z3,o2:=z4}) rfl)))
  clear HB2 HG2 hg0 d15
  go_wp2_with fail
  refine wp_goto (show Exit.via F _ _ 1 (.goto 4) _ _ from ⟨_,by rw [hF.out];rfl,?_⟩)
  clear hF d11 f11
  generalize World.setCell _ _ _=w6 at*
  have q0_:=hg.r.vi 0 0
  have p0_:=hg.r.vf 0
  have q1_:=hg.r.vi 1 0
  have p1_:=hg.r.vf 1
  have q2_:=hg.r.vi 2 0
  have p2_:=hg.r.vf 2
  have q3_:=hg.r.vb 3 false
  have p3_:=hg.r.vf 3
  have q4_:=hg.r.vC 4 (.complex .f64 0 0)
  have p4_:=hg.r.vf 4
  have g8_:=hg.then (aH (fun S h=>(aA.begin h).p5 (.int .i64 (0)) (.int .i64 (0)) (.int .i64 (0)) (.bool (false)) (.complex .f64 0 0)))
  have k0_:=g8_.r.vi 0 (0)
  have k1_:=g8_.r.vi 1 (0)
  have k2_:=g8_.r.vi 2 (0)
  have k3_:=g8_.r.vb 3 (false)
  have k4_:=g8_.r.vC 4 (.complex .f64 0 0)
  have HF:=zz g8_.l
  clear hg g8_
  go_wp2_with fail
  (try rw [aI])
  exact bodyPost_ret (v:=.tuple #[.agg #[.int .i64 (0),.int .i64 (0),.int .i64 (0),.bool (false),.complex .f64 0 0],.bool false]) (by simp [results,results156,go_sem,k0_,k1_,k2_,k3_,k4_]) rfl ⟨rfl,HF.out⟩
theorem kI (hc:c.ok) (hi:i<c.frags) (hu:(q.t i).hd=true→(q.t i).st=2) (hp:q.pl.length≤c.stack) (hF:i≤62) (huk:uk≤63) (hui:ui≤63) (hat:x.at_=4) (ho1:x.o1=fl (i+1)) (ho2:x.o2=fl 1) (hw1:x.w1=fl uk) (hw2:x.w2=fl ui) (h:(Sep (aE A c q) (Thr b t ov lv x X)).at_ S w):
 Calls prog 156 #[.pointer (some ⟨b,0,none⟩),.pointer (some ⟨A.b,0,none⟩)] w fun e w'=>e=.returned (Rs.v ⟨0,0,0,false,0,0,false⟩)∧aA (Sep (aE A c (q.grey c i x.sn)) (Thr b t ov lv {x with at_:=bhd uk ui x.st} X)) S w w':=by
 obtain ⟨x,rfl⟩:∃ y:Tc,x={y with at_:=4,o1:=fl (i+1),o2:=fl 1,w1:=fl uk,w2:=fl ui}:=⟨x,by rw [←hat,←ho1,←ho2,←hw1,←hw2]⟩
 have g0:=(aA.begin h).moreSt (St.fresh aQ 41)
 obtain ⟨rb,hrb⟩:∃ k,w.heap.size=k:=⟨_,rfl⟩
 rw [hrb] at g0
 have c11:=g0.l.r.ci 11 4
 have c15:=g0.l.r.cC 15 (.complex .f64 (fl (i+1)) (fl 1))
 have g1:=g0.drew_
 have k10:=g1.l.l.cp 10 A.bs
 have c5:=g1.l.r.cb 5 x.sn
 have HL:=zz ((core_grey hc hi hu hp x.sn _).l.l.on g1)
 have HI:=zz fun w=>cW (i+1) 1 w (by omega) (by omega)
 rw [show ixB (i+1) 1=true by unfold ixB;simp,show ixI (i+1) 1=i by unfold ixI ixB;simp] at HI
 have HBH:=zz fun w5 (hg:aA (Sep (Sep (aE A c (q.grey c i x.sn)) (Thr b t ov lv {x with at_:=4,o1:=fl (i+1),o2:=fl 1,w1:=fl uk,w2:=fl ui} X)) (Var rb aQ 41)) S w w5)=>act_behind huk hui rfl rfl hg.l.r.is
 dsimp only at HBH
 generalize hk5:bhd uk ui x.st=k5 at*
 generalize hrb2:((q.t i).hd&&!q.blk i x.sn)=rv at*
 clear hrb2 hu hp hc hk5
 unfold Rs.v
 unfold cx at HI
 generalize hz1:fl (i+1)=z1 at*
 generalize hz2:fl 1=z2 at*
 generalize hz3:fl uk=z3 at*
 generalize hz4:fl ui=z4 at*
 simp only [aQ] at*
 clear h g0 g1 hat hw1 hw2 ho1 ho2 hz1 hz2 hz3 hz4
 go_enter func156,ntmps156
 go_upto_region 1 with fail
 generalize w.alloc _=w1 at*
 go_wp2_with fail
 refine bA 2 fun F hF=>?_
 go_wp2_with fail
 refine wp_goto (show Exit.via F _ _ 2 (.goto 0) _ _ from ⟨_,by rw [hF.out];rfl,?_⟩)
 go_wp2_with fail
 refine qq (HI.out _) ?_
 clear HI
 go_wp2_with fail
 go_still_tail 9,(by kernel_rfl)
 change wpList _ _ _ _ _ w1.drew
 generalize w1.drew=w2 at*
 go_wp2_with fail
 refine qz HL.out fun w3 hgx=>?_
 have hg2:aA (Sep (Sep (aE A c (q.grey c i x.sn)) (Thr b t ov lv {x with at_:=4,o1:=z1,o2:=z2,w1:=z3,w2:=z4} X)) (Var rb #[.int .i64 0,.int .i64 0,.int .i64 0,.bool false,.complex .f64 0 0] 41)) S w w3:=hgx
 have HB2:=zz (HBH.out _ hg2)
 have HG2:=zz hg2
 clear hgx HL k10 c5 c11 c15 hg2 HBH
 go_wp2_with fail
 apply wp_label
 go_wp2_with fail
 refine qq HB2.out ?_
 have hg0:=HG2.out
 have d11:=hg0.l.r.ci 11 4
 have f11:=hg0.l.r.fr 11
 have hg:aA (Sep (Sep (aE A c (q.grey c i x.sn)) (Thr b t ov lv {x with at_:=k5,o1:=z1,o2:=z2,w1:=z3,w2:=z4} X)) (Var rb #[.int .i64 0,.int .i64 0,.int .i64 0,.bool false,.complex .f64 0 0] 41)) S w _:=hg0.then (aG (aH (fun S h=>(aA.begin h).put 11 (.int .i64 k5) (cs':=aM t ov lv {x with at_:=k5,o1:=z1,o2:=z2,w1:=z3,w2:=z4}) rfl)))
 clear HB2 HG2 hg0
 go_wp2_with fail
 refine wp_goto (show Exit.via F _ _ 1 (.goto 4) _ _ from ⟨_,by rw [hF.out];rfl,?_⟩)
 clear hF d11 f11
 generalize World.setCell _ _ _=w6 at*
 have q0_:=hg.r.vi 0 0
 have p0_:=hg.r.vf 0
 have q1_:=hg.r.vi 1 0
 have p1_:=hg.r.vf 1
 have q2_:=hg.r.vi 2 0
 have p2_:=hg.r.vf 2
 have q3_:=hg.r.vb 3 false
 have p3_:=hg.r.vf 3
 have q4_:=hg.r.vC 4 (.complex .f64 0 0)
 have p4_:=hg.r.vf 4
 have g8_:=hg.then (aH (fun S h=>(aA.begin h).p5 (.int .i64 (0)) (.int .i64 (0)) (.int .i64 (0)) (.bool (false)) (.complex .f64 0 0)))
 have k0_:=g8_.r.vi 0 (0)
 have k1_:=g8_.r.vi 1 (0)
 have k2_:=g8_.r.vi 2 (0)
 have k3_:=g8_.r.vb 3 (false)
 have k4_:=g8_.r.vC 4 (.complex .f64 0 0)
 have HF:=zz g8_.l
 clear hg g8_
 go_wp2_with fail
 (try rw [aI])
 exact bodyPost_ret (v:=.tuple #[.agg #[.int .i64 (0),.int .i64 (0),.int .i64 (0),.bool (false),.complex .f64 0 0],.bool false]) (by simp [results,results156,go_sem,k0_,k1_,k2_,k3_,k4_]) rfl ⟨rfl,HF.out⟩
end
section
theorem act_makes_last (u:Sw.Wd) (hc:c.ok) (hwr:x.wr=v) (had:ad<c.words)
 (h:(Sep (Sep (aE A c q) (Thr b t ov lv x X)) (Seq 2 v 1 (.int .i64 (ad:Int)::.complex .f64 (fl u.k) (fl u.i)::[]))).at_ S w):
 Calls prog 152 #[.pointer (some ⟨b,0,none⟩),.pointer (some ⟨A.b,0,none⟩)] w fun e w'=>∃ v',e=.returned (Rs.v ⟨0,0,0,false,0,0,false⟩)∧aA (Sep (aE A c {q with m:=Sw.set q.m ad u}) (Thr b t ov lv {x with wr:=v',at_:=8} X)) S w w':=by
 obtain ⟨gs,o,cp,rfl,h1,h2⟩:=bN (aA.begin h).r.is
 obtain ⟨x,rfl⟩:∃ y:Tc,x={y with wr:=.slice (some ⟨gs,o,none⟩) 1 cp}:=⟨x,by rw [←hwr]⟩
 have g0:=(aA.begin h).moreSt (St.fresh aQ 41)
 obtain ⟨rb,hrb⟩:∃ k,w.heap.size=k:=⟨_,rfl⟩
 rw [hrb] at g0
 have g1:=g0.drew_
 have k9:=g1.l.l.l.cp 9 A.bm
 have c18:=g1.l.l.r.cC 18 (.slice (some ⟨gs,o,none⟩) 1 cp)
 have s0:=g1.l.r.seq (i:=0) (x:=.int .i64 (ad:Int)) rfl
 have s1:=g1.l.r.seq (i:=1) (x:=.complex .f64 (fl u.k) (fl u.i)) rfl
 have HL:=zz ((kG u hc had _).l.l.l.on g1)
 simp only [Nat.add_zero] at s0
 unfold Rs.v
 simp only [aQ] at*
 generalize hz1:fl u.k=z1 at*
 generalize hz2:fl u.i=z2 at*
 clear h g0 g1 hc hwr
 go_enter func152,ntmps152
 go_upto_region 1 with fail
 generalize w.alloc _=w1 at*
 go_still_tail 20,(by kernel_rfl)
 change wpList _ _ _ _ _ w1.drew
 generalize w1.drew=w2 at*
 go_wp2_with fail
 refine qz HL.out fun w3 hgx=>?_
 have hg0:aA (Sep (Sep (Sep (aE A c {q with m:=Sw.set q.m ad u}) (Thr b t ov lv {x with wr:=.slice (some ⟨gs,o,none⟩) 1 cp} X)) (Seq 2 (.slice (some ⟨gs,o,none⟩) 1 cp) 1 (.int .i64 (ad:Int)::.complex .f64 z1 z2::[]))) (Var rb #[.int .i64 0,.int .i64 0,.int .i64 0,.bool false,.complex .f64 0 0] 41)) S w w3:=hgx
 have d18:=hg0.l.l.r.cC 18 (.slice (some ⟨gs,o,none⟩) 1 cp)
 have f18:=hg0.l.l.r.fr 18
 clear HL hgx k9 c18 s0 s1
 have hcw:cp=1∨2≤cp:=by omega
 rcases hcw with rfl|hcw
 case inl=>
  have hg1:=(hg0.drop (aU.both (aU.left _ _) (aU.refl _))).then (aG (fun S h=>aH (B':=Thr b t ov lv {x with wr:=.slice (some ⟨gs,o,none⟩) 0 0} X) (fun S h=>(aA.begin h).put 18 (.slice (some ⟨gs,o,none⟩) 0 0) (cs':=aM t ov lv {x with wr:=.slice (some ⟨gs,o,none⟩) 0 0}) rfl) S h))
  have e18:=hg1.l.r.cC 18 (.slice (some ⟨gs,o,none⟩) 0 0)
  have e11:=hg1.l.r.ci 11 x.at_
  have f11:=hg1.l.r.fr 11
  have hg:=hg1.then (aG (fun S h=>aH (B':=Thr b t ov lv {x with wr:=.slice (some ⟨gs,o,none⟩) 0 0,at_:=8} X) (fun S h=>(aA.begin h).put 11 (.int .i64 8) (cs':=aM t ov lv {x with wr:=.slice (some ⟨gs,o,none⟩) 0 0,at_:=8}) rfl) S h))
  clear hg0 hg1
  go_upto_region 6 with fail
  generalize World.setCell _ _ _=w6 at*
  clear d18 f18 e18 e11 f11
  have q0_:=hg.r.vi 0 0
  have p0_:=hg.r.vf 0
  have q1_:=hg.r.vi 1 0
  have p1_:=hg.r.vf 1
  have q2_:=hg.r.vi 2 0
  have p2_:=hg.r.vf 2
  have q3_:=hg.r.vb 3 false
  have p3_:=hg.r.vf 3
  have q4_:=hg.r.vC 4 (.complex .f64 0 0)
  have p4_:=hg.r.vf 4
  have g8_:=hg.then (aH (fun S h=>(aA.begin h).p5 (.int .i64 (0)) (.int .i64 (0)) (.int .i64 (0)) (.bool (false)) (.complex .f64 0 0)))
  have k0_:=g8_.r.vi 0 (0)
  have k1_:=g8_.r.vi 1 (0)
  have k2_:=g8_.r.vi 2 (0)
  have k3_:=g8_.r.vb 3 (false)
  have k4_:=g8_.r.vC 4 (.complex .f64 0 0)
  have HF:=zz g8_.l
  clear hg g8_
  go_wp2_with fail
  (try rw [aI])
  exact bodyPost_ret (v:=.tuple #[.agg #[.int .i64 (0),.int .i64 (0),.int .i64 (0),.bool (false),.complex .f64 0 0],.bool false]) (by simp [results,results152,go_sem,k0_,k1_,k2_,k3_,k4_]) rfl ⟨_,rfl,HF.out⟩
 case inr=>
  have hg1:=(hg0.drop (aU.both (aU.left _ _) (aU.refl _))).then (aG (fun S h=>aH (B':=Thr b t ov lv {x with wr:=.slice (some ⟨gs,o+2,none⟩) 0 (cp-1)} X) (fun S h=>(aA.begin h).put 18 (.slice (some ⟨gs,o+2,none⟩) 0 (cp-1)) (cs':=aM t ov lv {x with wr:=.slice (some ⟨gs,o+2,none⟩) 0 (cp-1)}) rfl) S h))
  have e18:=hg1.l.r.cC 18 (.slice (some ⟨gs,o+2,none⟩) 0 (cp-1))
  have e11:=hg1.l.r.ci 11 x.at_
  have f11:=hg1.l.r.fr 11
  have hg:=hg1.then (aG (fun S h=>aH (B':=Thr b t ov lv {x with wr:=.slice (some ⟨gs,o+2,none⟩) 0 (cp-1),at_:=8} X) (fun S h=>(aA.begin h).put 11 (.int .i64 8) (cs':=aM t ov lv {x with wr:=.slice (some ⟨gs,o+2,none⟩) 0 (cp-1),at_:=8}) rfl) S h))
  clear hg0 hg1
  go_upto_region 6 with fail
  generalize World.setCell _ _ _=w6 at*
  clear d18 f18 e18 e11 f11
  have q0_:=hg.r.vi 0 0
  have p0_:=hg.r.vf 0
  have q1_:=hg.r.vi 1 0
  have p1_:=hg.r.vf 1
  have q2_:=hg.r.vi 2 0
  have p2_:=hg.r.vf 2
  have q3_:=hg.r.vb 3 false
  have p3_:=hg.r.vf 3
  have q4_:=hg.r.vC 4 (.complex .f64 0 0)
  have p4_:=hg.r.vf 4
  have g8_:=hg.then (aH (fun S h=>(aA.begin h).p5 (.int .i64 (0)) (.int .i64 (0)) (.int .i64 (0)) (.bool (false)) (.complex .f64 0 0)))
  have k0_:=g8_.r.vi 0 (0)
  have k1_:=g8_.r.vi 1 (0)
  have k2_:=g8_.r.vi 2 (0)
  have k3_:=g8_.r.vb 3 (false)
  have k4_:=g8_.r.vC 4 (.complex .f64 0 0)
  have HF:=zz g8_.l
  clear hg g8_
  go_wp2_with fail
  (try rw [aI])
  exact bodyPost_ret (v:=.tuple #[.agg #[.int .i64 (0),.int .i64 (0),.int .i64 (0),.bool (false),.complex .f64 0 0],.bool false]) (by simp [results,results152,go_sem,k0_,k1_,k2_,k3_,k4_]) rfl ⟨_,rfl,HF.out⟩
theorem act_makes_on (hr:r≤10) (hN:r+2=N) (u:Sw.Wd) (hc:c.ok) (hwr:x.wr=v) (had:ad<c.words)
 (h:(Sep (Sep (aE A c q) (Thr b t ov lv x X)) (Seq 2 v N (.int .i64 (ad:Int)::.complex .f64 (fl u.k) (fl u.i)::rest))).at_ S w):
 Calls prog 152 #[.pointer (some ⟨b,0,none⟩),.pointer (some ⟨A.b,0,none⟩)] w fun e w'=>∃ v',e=.returned (Rs.v ⟨0,0,0,false,0,0,false⟩)∧aA (Sep (Sep (aE A c {q with m:=Sw.set q.m ad u}) (Thr b t ov lv {x with wr:=v'} X)) (Seq 2 v' (r+1) rest)) S w w':=by
 obtain ⟨gs,o,cp,rfl,h1,h2⟩:=bN (aA.begin h).r.is
 obtain ⟨x,rfl⟩:∃ y:Tc,x={y with wr:=.slice (some ⟨gs,o,none⟩) N cp}:=⟨x,by rw [←hwr]⟩
 have g0:=(aA.begin h).moreSt (St.fresh aQ 41)
 obtain ⟨rb,hrb⟩:∃ k,w.heap.size=k:=⟨_,rfl⟩
 rw [hrb] at g0
 have g1:=g0.drew_
 have hN0:0<N:=by omega
 have hN1:(0:Int)<(N:Int):=by omega
 have hN2:N≤12:=by omega
 have hN3:2≤N:=by omega
 have k9:=g1.l.l.l.cp 9 A.bm
 have c18:=g1.l.l.r.cC 18 (.slice (some ⟨gs,o,none⟩) N cp)
 have s0:=g1.l.r.seq (i:=0) (x:=.int .i64 (ad:Int)) rfl
 have s1:=g1.l.r.seq (i:=1) (x:=.complex .f64 (fl u.k) (fl u.i)) rfl
 have HL:=zz ((kG u hc had _).l.l.l.on g1)
 simp only [Nat.add_zero] at s0
 unfold Rs.v
 simp only [aQ] at*
 generalize hz1:fl u.k=z1 at*
 generalize hz2:fl u.i=z2 at*
 clear h g0 g1 hc hwr
 go_enter func152,ntmps152
 go_upto_region 1 with fail
 generalize w.alloc _=w1 at*
 go_still_tail 20,(by kernel_rfl)
 change wpList _ _ _ _ _ w1.drew
 generalize w1.drew=w2 at*
 go_wp2_with fail
 refine qz HL.out fun w3 hgx=>?_
 have hg0:aA (Sep (Sep (Sep (aE A c {q with m:=Sw.set q.m ad u}) (Thr b t ov lv {x with wr:=.slice (some ⟨gs,o,none⟩) N cp} X)) (Seq 2 (.slice (some ⟨gs,o,none⟩) N cp) N (.int .i64 (ad:Int)::.complex .f64 z1 z2::rest))) (Var rb #[.int .i64 0,.int .i64 0,.int .i64 0,.bool false,.complex .f64 0 0] 41)) S w w3:=hgx
 have d18:=hg0.l.l.r.cC 18 (.slice (some ⟨gs,o,none⟩) N cp)
 have f18:=hg0.l.l.r.fr 18
 clear HL hgx k9 c18 s0 s1
 have hg1:=hg0.then (aG (aG (fun S h=>aH (B':=Thr b t ov lv {x with wr:=.slice (some ⟨gs,o+2,none⟩) (N-1) (cp-1)} X) (fun S h=>(aA.begin h).put 18 (.slice (some ⟨gs,o+2,none⟩) (N-1) (cp-1)) (cs':=aM t ov lv {x with wr:=.slice (some ⟨gs,o+2,none⟩) (N-1) (cp-1)}) rfl) S h)))
 have hg:aA (Sep (Sep (Sep (aE A c {q with m:=Sw.set q.m ad u}) (Thr b t ov lv {x with wr:=.slice (some ⟨gs,o+2,none⟩) (N-1) (cp-1)} X)) (Seq 2 (.slice (some ⟨gs,o+2,none⟩) (N-1) (cp-1)) (r+1) rest)) (Var rb #[.int .i64 0,.int .i64 0,.int .i64 0,.bool false,.complex .f64 0 0] 41)) S w _:=hg1.conv fun S w h=>aB.monoL (fun S h=>aB.monoR (fun S h=>(by subst hN;exact seq_tail (n:=r+1) (ys:=[.int .i64 (ad:Int),.complex .f64 z1 z2]) rfl h)) h) h
 have e18:=hg.l.l.r.cC 18 (.slice (some ⟨gs,o+2,none⟩) (N-1) (cp-1))
 have hr2:¬(N-1=0):=by omega
 have hr3:¬(((N-1:Nat):Int)=0):=by omega
 have hcw:2≤cp:=by omega
 clear hg0 hg1
 go_upto_region 6 with fail
 generalize World.setCell _ _ _=w6 at*
 clear d18 f18 e18
 have q0_:=hg.r.vi 0 0
 have p0_:=hg.r.vf 0
 have q1_:=hg.r.vi 1 0
 have p1_:=hg.r.vf 1
 have q2_:=hg.r.vi 2 0
 have p2_:=hg.r.vf 2
 have q3_:=hg.r.vb 3 false
 have p3_:=hg.r.vf 3
 have q4_:=hg.r.vC 4 (.complex .f64 0 0)
 have p4_:=hg.r.vf 4
 have g8_:=hg.then (aH (fun S h=>(aA.begin h).p5 (.int .i64 (0)) (.int .i64 (0)) (.int .i64 (0)) (.bool (false)) (.complex .f64 0 0)))
 have k0_:=g8_.r.vi 0 (0)
 have k1_:=g8_.r.vi 1 (0)
 have k2_:=g8_.r.vi 2 (0)
 have k3_:=g8_.r.vb 3 (false)
 have k4_:=g8_.r.vC 4 (.complex .f64 0 0)
 have HF:=zz g8_.l
 clear hg g8_
 go_wp2_with fail
 (try rw [aI])
 exact bodyPost_ret (v:=.tuple #[.agg #[.int .i64 (0),.int .i64 (0),.int .i64 (0),.bool (false),.complex .f64 0 0],.bool false]) (by simp [results,results152,go_sem,k0_,k1_,k2_,k3_,k4_]) rfl ⟨_,rfl,HF.out⟩
end
section
def bornQ (q:Sw.Q) (i:Nat):Sw.Q:={q with t:=Sw.set q.t i {q.t i with hd:=true}}
theorem core_born (hk:i<c.frags) (h2:(q.t i).st=2) (hd:(q.t i).hd=false) (w:World):aJ prog 234 #[.pointer (some ⟨A.bsp,0,none⟩),.int .i64 (i:Int)] w (aE A c q) (.bool true) (aE A c (bornQ q i)):=
 eF (fr:=q.fr) (ln:=q.ln) (sp_born hk h2 hd w)
theorem act_bears (hF:Fr≤62) (hk:Fr<c.frags) (h2t:(q.t Fr).st=2) (hd:(q.t Fr).hd=false) (hgot:x.got=v) (hj:o.a<n) (hn:n≤8) (hph:x.ph=2) (hnx:x.nx≤1000) (h:(Sep (Sep (aE A c q) (aT b t ov lg n x l X)) (Got v Fr)).at_ S w):
 Calls prog 153 #[.pointer (some ⟨b,0,none⟩),.pointer (some ⟨A.b,0,none⟩),.agg (opc o)] w fun e w'=>e=.returned (Rs.v ⟨x.nx,x.own,0,true,fl (Fr+1),fl 1,true⟩)∧aA (Sep (aE A c (bornQ q Fr)) (aT b t ov lg n x.next (jL l o.a ⟨true,Fr+1,1⟩) X)) S w w':=by
 obtain ⟨gs,go,cp,rfl,h1,h2⟩:=bN (aA.begin h).r.is
 obtain ⟨x,rfl⟩:∃ y:Tc,x={y with got:=.slice (some ⟨gs,go,none⟩) 1 cp}:=⟨x,by rw [←hgot]⟩
 have g0:=((aA.begin h).moreSt (St.fresh (opc o) 27)).moreSt (St.fresh aQ 41)
 rw [World.size_alloc] at g0
 obtain ⟨vb,hvb⟩:∃ k,w.heap.size=k:=⟨_,rfl⟩
 obtain ⟨rb,hrb⟩:∃ k,vb+1=k:=⟨_,rfl⟩
 rw [hvb,hrb] at g0
 have g1:=g0.drew_
 have k11:=g1.l.l.l.l.cp 11 A.bsp
 have c17:=g1.l.l.l.r.cC 17 (.slice (some ⟨gs,go,none⟩) 1 cp)
 have s0:=g1.l.l.r.seq (i:=0) (x:=.int .i64 (Fr:Int)) rfl
 simp only [Nat.add_zero] at s0
 have HL:=zz ((core_born hk h2t hd _).l.l.l.l.on g1)
 have HLA:=zz fun w5 (hg5:aA (Sep (Sep (Sep (Sep (aE A c (bornQ q Fr)) (aT b t ov lg n {x with got:=.slice (some ⟨gs,go,none⟩) 1 cp} l X)) (Got (.slice (some ⟨gs,go,none⟩) 1 cp) Fr)) (Var vb #[.int .i64 (o.kd:Int),.int .i64 (o.a:Int),.int .i64 (o.b:Int),.int .i64 (o.c:Int),.int .i64 (o.n:Int),.complex .f64 o.z1 o.z2] 27)) (Var rb #[.int .i64 0,.int .i64 0,.int .i64 0,.bool false,.complex .f64 0 0] 41)) S w w5)=>hg5.call (bR (bR (bR (cY fun S h=>lM (x:={x with got:=.slice (some ⟨gs,go,none⟩) 1 cp}) (v:=⟨true,Fr+1,1⟩) hj hn hph hnx h))))
 have HRF:=zz fun w=>word_ref Fr w (by omega)
 unfold opc at*
 unfold Rs.v cx at*
 generalize fl (Fr+1)=z1 at*
 generalize fl 1=z2 at*
 simp only [aQ] at*
 clear h g0 g1 hgot
 go_enter func153,ntmps153
 go_upto_region 1 with fail
 generalize (w.alloc _).alloc _=w1 at*
 go_still_tail 11,(by kernel_rfl)
 change wpList _ _ _ _ _ w1.drew
 generalize w1.drew=w2 at*
 go_wp2_with fail
 refine qz HL.out fun w3 hgx=>?_
 clear HL k11 c17 s0
 have hg2:aA (Sep (Sep (Sep (Sep (aE A c (bornQ q Fr)) (aT b t ov lg n {x with got:=.slice (some ⟨gs,go,none⟩) 1 cp} l X)) (Got (.slice (some ⟨gs,go,none⟩) 1 cp) Fr)) (Var vb #[.int .i64 (o.kd:Int),.int .i64 (o.a:Int),.int .i64 (o.b:Int),.int .i64 (o.c:Int),.int .i64 (o.n:Int),.complex .f64 o.z1 o.z2] 27)) (Var rb #[.int .i64 0,.int .i64 0,.int .i64 0,.bool false,.complex .f64 0 0] 41)) S w w3:=hgx
 clear hgx
 have g1:=hg2.drew_
 have s0:=g1.l.l.r.seq (i:=0) (x:=.int .i64 (Fr:Int)) rfl
 simp only [Nat.add_zero] at s0
 have o1:=g1.l.r.vi 1 (o.a:Int)
 have c17:=g1.l.l.l.r.cC 17 (.slice (some ⟨gs,go,none⟩) 1 cp)
 go_wp2_with fail
 refine wp_region_held_drew (S:=fun w'=>w'.cell? ⟨vb,1,none⟩=some (.int .i64 (o.a:Int))∧w'.cell? ⟨b,17,none⟩=some (.slice (some ⟨gs,go,none⟩) 1 cp)∧w'.cell? ⟨gs,go,none⟩=some (.int .i64 (Fr:Int))) (by kernel_rfl) ⟨o1,c17,s0⟩ (fun hHeld=>?_)
 generalize w3.drew=wd at*
 refine tk 0 ?_
 refine tk 1 ?_
 refine tk 2 ?_
 refine tk 3 ?_
 refine tk 4 ?_
 refine tk 5 ?_
 refine tk 6 ?_
 refine tk 7 ?_
 refine tk 8 ?_
 refine tk 9 ?_
 refine rdy 10 fun K hK=>?_
 go_simp
 refine qq (HRF.out _) ?_
 go_wp2_with fail
 refine hon hK ⟨o1,c17,s0⟩ fun hHeld=>?_
 clear hK K
 refine tk 11 ?_
 refine rdy 12 fun K hK=>?_
 go_simp
 refine qz (HLA.out _ g1) fun w5 hgx=>?_
 have hg:aA (Sep (Sep (Sep (Sep (aE A c (bornQ q Fr)) (aT b t ov lg n (Tc.next {x with got:=.slice (some ⟨gs,go,none⟩) 1 cp}) (jL l o.a ⟨true,Fr+1,1⟩) X)) (Got (.slice (some ⟨gs,go,none⟩) 1 cp) Fr)) (Var vb #[.int .i64 (o.kd:Int),.int .i64 (o.a:Int),.int .i64 (o.b:Int),.int .i64 (o.c:Int),.int .i64 (o.n:Int),.complex .f64 o.z1 o.z2] 27)) (Var rb #[.int .i64 0,.int .i64 0,.int .i64 0,.bool false,.complex .f64 0 0] 41)) S w w5:=hgx
 clear hgx HLA hHeld hg2 s0 o1 c17
 go_wp2_with fail
 refine hon hK ⟨hg.l.r.vi 1 (o.a:Int),hg.l.l.l.r.cC 17 (.slice (some ⟨gs,go,none⟩) 1 cp),hg.l.l.r.seq (i:=0) (x:=.int .i64 (Fr:Int)) rfl⟩ fun hHeld=>?_
 clear hK K
 refine tk 13 ?_
 refine tk 14 ?_
 have q0_:=hg.r.vi 0 0
 have q1_:=hg.r.vi 1 0
 have q2_:=hg.r.vi 2 0
 have q3_:=hg.r.vb 3 false
 have q4_:=hg.r.vC 4 (.complex .f64 0 0)
 have p0_:=hg.r.vf 0
 have p1_:=hg.r.vf 1
 have p2_:=hg.r.vf 2
 have p3_:=hg.r.vf 3
 have p4_:=hg.r.vf 4
 have g8_:=hg.then (aH (fun S h=>(aA.begin h).p5 (.int .i64 x.nx) (.int .i64 x.own) (.int .i64 0) (.bool true) (.complex .f64 z1 z2)))
 refine rdy 15 fun K hK=>?_
 go_simp
 refine hK.out _ _ ⟨g8_.l.r.vi 1 (o.a:Int),g8_.l.l.l.r.cC 17 (.slice (some ⟨gs,go,none⟩) 1 cp),g8_.l.l.r.seq (i:=0) (x:=.int .i64 (Fr:Int)) rfl⟩ (fun hHeld=>?_)
 clear hK K
 have k0_:=g8_.r.vi 0 x.nx
 have k1_:=g8_.r.vi 1 x.own
 have k2_:=g8_.r.vi 2 0
 have k3_:=g8_.r.vb 3 true
 have k4_:=g8_.r.vC 4 (.complex .f64 z1 z2)
 have HF:=zz g8_.l.l.l
 have hp1_:=g8_.l.r.vi 1 (o.a:Int)
 have hp2_:=g8_.l.l.l.r.cC 17 (.slice (some ⟨gs,go,none⟩) 1 cp)
 have hp3_:=g8_.l.l.r.seq (i:=0) (x:=.int .i64 (Fr:Int)) rfl
 rw [Nat.add_zero] at hp3_
 clear g8_
 generalize World.setCell _ _ _=w6 at*
 try simp only [Act.put,List.setIfInBounds_toArray,List.set_cons_zero,List.set_cons_succ]
 refine rdy 16 fun K hK=>?_
 go_simp
 refine hon hK ⟨hp1_,hp2_,hp3_⟩ fun hHeld=>?_
 clear hK K
 refine wpAnyH_done (by kernel_rfl) ?_ _
 clear hg q0_ q1_ q2_ q3_ q4_ p0_ p1_ p2_ p3_ p4_
 go_wp2_with fail
 exact bodyPost_ret (v:=.tuple #[.agg #[.int .i64 x.nx,.int .i64 x.own,.int .i64 0,.bool true,.complex .f64 z1 z2],.bool true]) (by simp [results,results153,go_sem,k0_,k1_,k2_,k3_,k4_]) rfl ⟨rfl,HF.out⟩
end
end Go.Proofs.YtgcmiahhkalfmaaGreat
