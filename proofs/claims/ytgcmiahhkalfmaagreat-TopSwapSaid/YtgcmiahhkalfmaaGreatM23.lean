import Derived.Test.YtgcmiahhkalfmaaGreatM22
set_option maxRecDepth 100000
set_option maxHeartbeats 8000000
set_option linter.unusedVariables false
set_option linter.unusedSimpArgs false
namespace Go.Proofs.YtgcmiahhkalfmaaGreat
attribute [local go_sem] aF aI aO aV
open Go.Proofs.Tryz
open Go.RowKit
variable {A:CA} {c:Cf} {er:Int} {ad b i j k lg n t vi vk:Nat} {l:Nat→Lc} {S:Nat→Prop} {q:Sw.Q} {x:Tc} {O X:aC} {lv ov:Value} {w w':World}
section
variable {α:Type} {O':α→aC} {p:α→Prop}
def idle:Value:=.tuple #[.agg aQ,.bool false]
theorem act_step_border (h3:∀ S w,O.at_ S w→w.cell? ⟨b,3,none⟩=some (.int .i64 1))
 (hB:∀ w,aN prog 76 #[.pointer (some ⟨b,0,none⟩),.pointer (some ⟨A.b,0,none⟩)] w O (fun y e=>e=.returned (.tuple #[])∧p y) O'):
 ∀ w,aN prog 32 #[.pointer (some ⟨b,0,none⟩),.pointer (some ⟨A.b,0,none⟩)] w O (fun y e=>e=.returned idle∧p y) O':=by
 intro w S h
 have g0:=(aA.begin h).moreSt (St.fresh aQ 41)
 generalize hrb:w.heap.size=rb at g0
 have c3:=h3 _ _ g0.l.is
 have HL:=zz (((hB _).l (B:=Var rb aQ 41)).on g0)
 unfold idle
 simp only [aQ] at*
 clear h g0 h3 hB
 go_enter func32,ntmps32
 go_upto_region 1 with fail
 generalize w.alloc _=w1 at*
 go_wp2_with fail
 with_reducible refine HL.out.mono ?_
 rintro e w2 ⟨y,⟨rfl,hp⟩,hg⟩
 have q0:=hg.r.vi 0 0
 have q1:=hg.r.vi 1 0
 have q2:=hg.r.vi 2 0
 have q3:=hg.r.vb 3 false
 have q4:=hg.r.vC 4 (.complex .f64 0 0)
 have p0:=hg.r.vf 0
 have p1:=hg.r.vf 1
 have p2:=hg.r.vf 2
 have p3:=hg.r.vf 3
 have p4:=hg.r.vf 4
 have g8:=hg.then (aH (fun S h=>(aA.begin h).p5 (.int .i64 0) (.int .i64 0) (.int .i64 0) (.bool false) (.complex .f64 0 0)))
 have k0:=g8.r.vi 0 0
 have k1:=g8.r.vi 1 0
 have k2:=g8.r.vi 2 0
 have k3:=g8.r.vb 3 false
 have k4:=g8.r.vC 4 (.complex .f64 0 0)
 have HF:=zz g8.l
 have HP:=zz hp
 clear HL hg g8 c3 hp
 go_wp2_with fail
 exact bodyPost_ret (v:=.tuple #[.agg #[.int .i64 0,.int .i64 0,.int .i64 0,.bool false,.complex .f64 0 0],.bool false]) (by simp [results,results32,go_sem,k0,k1,k2,k3,k4]) rfl ⟨y,⟨rfl,HP.out⟩,HF.out⟩
theorem act_step_gone (h3:∀ S w,O.at_ S w→w.cell? ⟨b,3,none⟩=some (.int .i64 4)) (h:O.at_ S w):
 Calls prog 32 #[.pointer (some ⟨b,0,none⟩),.pointer (some ⟨A.b,0,none⟩)] w fun e w'=>e=.returned idle∧aA O S w w':=by
 have g0:=(aA.begin h).moreSt (St.fresh aQ 41)
 generalize hrb:w.heap.size=rb at g0
 have c3:=h3 _ _ g0.l.is
 have HG:=zz g0
 unfold idle
 simp only [aQ] at*
 clear h g0 h3
 go_enter func32,ntmps32
 go_upto_region 1 with fail
 generalize w.alloc _=w1 at*
 have hg:=HG.out
 have q0:=hg.r.vi 0 0
 have q1:=hg.r.vi 1 0
 have q2:=hg.r.vi 2 0
 have q3:=hg.r.vb 3 false
 have q4:=hg.r.vC 4 (.complex .f64 0 0)
 have p0:=hg.r.vf 0
 have p1:=hg.r.vf 1
 have p2:=hg.r.vf 2
 have p3:=hg.r.vf 3
 have p4:=hg.r.vf 4
 have g8:=hg.then (aH (fun S h=>(aA.begin h).p5 (.int .i64 0) (.int .i64 0) (.int .i64 0) (.bool false) (.complex .f64 0 0)))
 have k0:=g8.r.vi 0 0
 have k1:=g8.r.vi 1 0
 have k2:=g8.r.vi 2 0
 have k3:=g8.r.vb 3 false
 have k4:=g8.r.vC 4 (.complex .f64 0 0)
 have HF:=zz g8.l
 clear hg g8 HG
 go_wp2_with fail
 exact bodyPost_ret (v:=.tuple #[.agg #[.int .i64 0,.int .i64 0,.int .i64 0,.bool false,.complex .f64 0 0],.bool false]) (by simp [results,results32,go_sem,k0,k1,k2,k3,k4]) rfl ⟨rfl,HF.out⟩
structure Rs where
 nx:Int
 own:Int
 er:Int
 r:Bool
 z1:Nat
 z2:Nat
 d:Bool
def Rs.v (y:Rs):Value:=.tuple #[.agg #[.int .i64 y.nx,.int .i64 y.own,.int .i64 y.er,.bool y.r,.complex .f64 y.z1 y.z2],.bool y.d]
theorem act_step_within {rs:α→Rs} (hph:x.ph=2)
 (hW:∀ w,aN prog 77 #[.pointer (some ⟨b,0,none⟩),.pointer (some ⟨A.b,0,none⟩)] w (Sep (aE A c q) (Thr b t ov lv {x with own:=wrap64 (x.own+1)} X)) (fun y e=>e=.returned (rs y).v∧p y) O'):
 ∀ w,aN prog 32 #[.pointer (some ⟨b,0,none⟩),.pointer (some ⟨A.b,0,none⟩)] w (Sep (aE A c q) (Thr b t ov lv x X)) (fun y e=>e=.returned (rs y).v∧p y) O':=by
 intro w S h
 have g0:=(aA.begin h).moreSt (St.fresh aQ 41)
 generalize hrb:w.heap.size=rb at g0
 have c3:=g0.l.r.ci 3 x.ph
 rw [hph] at c3
 have c10:=g0.l.r.ci 10 x.own
 have f10:=g0.l.r.fr 10
 have g1:aA (Sep (Sep (aE A c q) (Thr b t ov lv {x with own:=wrap64 (x.own+1)} X)) (Var rb aQ 41)) S w _:=g0.then (aG (aH (fun S h=>(aA.begin h).put 10 (.int .i64 (wrap64 (x.own+1))) (cs':=aM t ov lv {x with own:=wrap64 (x.own+1)}) rfl)))
 have HL:=zz (((hW _).l (B:=Var rb aQ 41)).on g1)
 unfold Rs.v at*
 simp only [aQ] at*
 clear h g0 g1 hW
 go_enter func32,ntmps32
 go_upto_region 1 with fail
 generalize w.alloc _=w1 at*
 go_wp2_with fail
 with_reducible refine HL.out.mono ?_
 rintro e w2 ⟨y,⟨rfl,hp⟩,hg⟩
 have q0:=hg.r.vi 0 0
 have q1:=hg.r.vi 1 0
 have q2:=hg.r.vi 2 0
 have q3:=hg.r.vb 3 false
 have q4:=hg.r.vC 4 (.complex .f64 0 0)
 have p0:=hg.r.vf 0
 have p1:=hg.r.vf 1
 have p2:=hg.r.vf 2
 have p3:=hg.r.vf 3
 have p4:=hg.r.vf 4
 have g8:=hg.then (aH (fun S h=>(aA.begin h).p5 (.int .i64 (rs y).nx) (.int .i64 (rs y).own) (.int .i64 (rs y).er) (.bool (rs y).r) (.complex .f64 (rs y).z1 (rs y).z2)))
 have k0:=g8.r.vi 0 ((rs y).nx)
 have k1:=g8.r.vi 1 ((rs y).own)
 have k2:=g8.r.vi 2 ((rs y).er)
 have k3:=g8.r.vb 3 ((rs y).r)
 have k4:=g8.r.vC 4 (.complex .f64 (rs y).z1 (rs y).z2)
 have HF:=zz g8.l
 have HP:=zz hp
 clear HL hg g8 c3 c10 f10 hp
 go_wp2_with fail
 exact bodyPost_ret (v:=.tuple #[.agg #[.int .i64 (rs y).nx,.int .i64 (rs y).own,.int .i64 (rs y).er,.bool (rs y).r,.complex .f64 (rs y).z1 (rs y).z2],.bool (rs y).d]) (by simp [results,results32,go_sem,k0,k1,k2,k3,k4]) rfl ⟨y,⟨rfl,HP.out⟩,HF.out⟩
theorem act_step_waiting {rs:α→Rs} (hph:x.ph=3)
 (hW:∀ w,aN prog 78 #[.pointer (some ⟨b,0,none⟩),.pointer (some ⟨A.b,0,none⟩)] w (Sep (aE A c q) (Thr b t ov lv {x with own:=wrap64 (x.own+1)} X)) (fun y e=>e=.returned (rs y).v∧p y) O'):
 ∀ w,aN prog 32 #[.pointer (some ⟨b,0,none⟩),.pointer (some ⟨A.b,0,none⟩)] w (Sep (aE A c q) (Thr b t ov lv x X)) (fun y e=>e=.returned (rs y).v∧p y) O':=by
 intro w S h
 have g0:=(aA.begin h).moreSt (St.fresh aQ 41)
 generalize hrb:w.heap.size=rb at g0
 have c3:=g0.l.r.ci 3 x.ph
 rw [hph] at c3
 have c10:=g0.l.r.ci 10 x.own
 have f10:=g0.l.r.fr 10
 have g1:aA (Sep (Sep (aE A c q) (Thr b t ov lv {x with own:=wrap64 (x.own+1)} X)) (Var rb aQ 41)) S w _:=g0.then (aG (aH (fun S h=>(aA.begin h).put 10 (.int .i64 (wrap64 (x.own+1))) (cs':=aM t ov lv {x with own:=wrap64 (x.own+1)}) rfl)))
 have HL:=zz (((hW _).l (B:=Var rb aQ 41)).on g1)
 unfold Rs.v at*
 simp only [aQ] at*
 clear h g0 g1 hW
 go_enter func32,ntmps32
 go_upto_region 1 with fail
 generalize w.alloc _=w1 at*
 go_wp2_with fail
 with_reducible refine HL.out.mono ?_
 rintro e w2 ⟨y,⟨rfl,hp⟩,hg⟩
 have q0:=hg.r.vi 0 0
 have q1:=hg.r.vi 1 0
 have q2:=hg.r.vi 2 0
 have q3:=hg.r.vb 3 false
 have q4:=hg.r.vC 4 (.complex .f64 0 0)
 have p0:=hg.r.vf 0
 have p1:=hg.r.vf 1
 have p2:=hg.r.vf 2
 have p3:=hg.r.vf 3
 have p4:=hg.r.vf 4
 have g8:=hg.then (aH (fun S h=>(aA.begin h).p5 (.int .i64 (rs y).nx) (.int .i64 (rs y).own) (.int .i64 (rs y).er) (.bool (rs y).r) (.complex .f64 (rs y).z1 (rs y).z2)))
 have k0:=g8.r.vi 0 ((rs y).nx)
 have k1:=g8.r.vi 1 ((rs y).own)
 have k2:=g8.r.vi 2 ((rs y).er)
 have k3:=g8.r.vb 3 ((rs y).r)
 have k4:=g8.r.vC 4 (.complex .f64 (rs y).z1 (rs y).z2)
 have HF:=zz g8.l
 have HP:=zz hp
 clear HL hg g8 c3 c10 f10 hp
 go_wp2_with fail
 exact bodyPost_ret (v:=.tuple #[.agg #[.int .i64 (rs y).nx,.int .i64 (rs y).own,.int .i64 (rs y).er,.bool (rs y).r,.complex .f64 (rs y).z1 (rs y).z2],.bool (rs y).d]) (by simp [results,results32,go_sem,k0,k1,k2,k3,k4]) rfl ⟨y,⟨rfl,HP.out⟩,HF.out⟩
theorem act_step_out (hph:x.ph=0) (ht:t<c.threads) (hc:c.ok) (ho:q.own t=-1) (h:(Sep (aE A c q) (Thr b t ov lv x X)).at_ S w):
 Calls prog 32 #[.pointer (some ⟨b,0,none⟩),.pointer (some ⟨A.b,0,none⟩)] w fun e w'=>e=.returned idle∧aA (Sep (aE A c {q with own:=Sw.set q.own t q.st}) (Thr b t ov lv {x with ph:=1,pc:=0,st:=q.st,sn:=q.sn} X)) S w w':=by
 have g0:=((aA.begin h).moreSt (St.fresh aQ 41))
 generalize hrb:w.heap.size=rb at g0
 have c3:=g0.l.r.ci 3 x.ph
 rw [hph] at c3
 have g1:=g0.drew_
 have k12:=g1.l.l.cp 12 A.bh
 have d0:=g1.l.r.ci 0 (t:Int)
 have HL:=zz ((core_own (hq_join ht hc.threads.2 ho _)).l.l.on g1)
 unfold idle
 simp only [aQ] at*
 clear h g0 g1 hc ho hph
 go_enter func32,ntmps32
 go_upto_region 1 with fail
 generalize w.alloc _=w1 at*
 go_wp2_with fail
 refine wp_region_held_drew (S:=fun w'=>w'.cell? ⟨A.b,12,none⟩=some (.pointer (some ⟨A.bh,0,none⟩))∧w'.cell? ⟨b,0,none⟩=some (.int .i64 (t:Int))) (by kernel_rfl) ⟨k12,d0⟩ (fun hHeld=>?_)
 refine tk 0 ?_
 refine tk 1 ?_
 refine tk 2 ?_
 refine tk 3 ?_
 refine tk 4 ?_
 refine tk 5 ?_
 refine tk 6 ?_
 refine tk 7 ?_
 refine rdy 8 fun K hK=>?_
 go_simp
 refine qz HL.out fun w3 hg=>?_
 have hg:aA (Sep (Sep (aE A c {q with own:=Sw.set q.own t q.st}) (Thr b t ov lv x X)) (Var rb #[.int .i64 0,.int .i64 0,.int .i64 0,.bool false,.complex .f64 0 0] 41)) S w w3:=hg
 have k12':=hg.l.l.cp 12 A.bh
 have d0':=hg.l.r.ci 0 (t:Int)
 go_wp2_with fail
 refine hK.out _ _ ⟨k12',d0'⟩ (fun hHeld=>?_)
 clear hK K k12' d0'
 try simp only [Act.put,List.setIfInBounds_toArray,List.set_cons_zero,List.set_cons_succ]
 refine tk 9 ?_
 refine tk 10 ?_
 refine tk 11 ?_
 refine tk 12 ?_
 refine tk 13 ?_
 refine tk 14 ?_
 refine tk 15 ?_
 refine wpAnyH_done (by kernel_rfl) ?_ _
 have c4:=hg.l.r.ci 4 x.st
 have c5:=hg.l.r.cb 5 x.sn
 have c3':=hg.l.r.ci 3 x.ph
 have c7:=hg.l.r.ci 7 x.pc
 have f4:=hg.l.r.fr 4
 have f5:=hg.l.r.fr 5
 have f3:=hg.l.r.fr 3
 have f7:=hg.l.r.fr 7
 have g4:aA (Sep (Sep (aE A c {q with own:=Sw.set q.own t q.st}) (Thr b t ov lv {x with ph:=1,pc:=0,st:=q.st,sn:=q.sn} X)) (Var rb #[.int .i64 0,.int .i64 0,.int .i64 0,.bool false,.complex .f64 0 0] 41)) S w _:=
  hg.then (aG (aH (aG (fun S h=>((((aA.begin h).vput 4 (.int .i64 q.st) rfl).vput 5 (.bool q.sn) rfl).vput 3 (.int .i64 1) rfl).vput 7 (.int .i64 0) (cs':=aM t ov lv {x with ph:=1,pc:=0,st:=q.st,sn:=q.sn}) rfl))))
 have HG:=zz g4
 clear HL hg g4 k12 d0 c3
 go_upto_region 16 with fail
 generalize World.setCell _ _ _=w5 at*
 clear c4 c5 c3' c7 f4 f5 f3 f7
 have hg:=HG.out
 have q0:=hg.r.vi 0 0
 have q1:=hg.r.vi 1 0
 have q2:=hg.r.vi 2 0
 have q3:=hg.r.vb 3 false
 have q4:=hg.r.vC 4 (.complex .f64 0 0)
 have p0:=hg.r.vf 0
 have p1:=hg.r.vf 1
 have p2:=hg.r.vf 2
 have p3:=hg.r.vf 3
 have p4:=hg.r.vf 4
 have g8:=hg.then (aH (fun S h=>(aA.begin h).p5 (.int .i64 0) (.int .i64 0) (.int .i64 0) (.bool false) (.complex .f64 0 0)))
 have k0:=g8.r.vi 0 0
 have k1:=g8.r.vi 1 0
 have k2:=g8.r.vi 2 0
 have k3:=g8.r.vb 3 false
 have k4:=g8.r.vC 4 (.complex .f64 0 0)
 have HF:=zz g8.l
 clear hg g8 HG
 go_wp2_with fail
 exact bodyPost_ret (v:=.tuple #[.agg #[.int .i64 0,.int .i64 0,.int .i64 0,.bool false,.complex .f64 0 0],.bool false]) (by simp [results,results32,go_sem,k0,k1,k2,k3,k4]) rfl ⟨rfl,HF.out⟩
end
section
def Tc.next (x:Tc):Tc:={x with ph:=1,pc:=0,nx:=x.nx+1}
theorem act_fails (her:¬er=0) (hph:¬x.ph=4) (hnx:x.nx≤1000) (h:(Thr b t ov lv x X).at_ S w):
 Calls prog 159 #[.pointer (some ⟨b,0,none⟩),.int .i64 er] w fun e w'=>e=.returned (Rs.v ⟨x.nx,x.own,er,false,0,0,true⟩)∧aA (Thr b t ov lv x.next X) S w w':=by
 have g0:=(aA.begin h).moreSt (St.fresh aQ 41)
 generalize hrb:w.heap.size=rb at g0
 have HL:=zz (g0.call (bR fun S h=>act_done_err her hph hnx h))
 unfold Rs.v resV at*
 simp only [aQ] at*
 clear h g0
 go_enter func159,ntmps159
 go_upto_region 1 with fail
 generalize w.alloc _=w1 at*
 go_wp2_with fail
 refine qz HL.out fun w2 hg=>?_
 clear HL
 have q0_:=hg.r.vi 0 0
 have p0_:=hg.r.vf 0
 have q1_:=hg.r.vi 1 0
 have p1_:=hg.r.vf 1
 have q2_:=hg.r.vi 2 0
 have p2_:=hg.r.vf 2
 have q3_:=hg.r.vb 3 false
 have p3_:=hg.r.vf 3
 have q4_:=hg.r.vC 4 (.complex .f64 0 0)
 have p4_:=hg.r.vf 4
 have g8_:=hg.then (aH (fun S h=>(aA.begin h).p5 (.int .i64 (x.nx)) (.int .i64 (x.own)) (.int .i64 (er)) (.bool (false)) (.complex .f64 0 0)))
 have k0_:=g8_.r.vi 0 (x.nx)
 have k1_:=g8_.r.vi 1 (x.own)
 have k2_:=g8_.r.vi 2 (er)
 have k3_:=g8_.r.vb 3 (false)
 have k4_:=g8_.r.vC 4 (.complex .f64 0 0)
 have HF:=zz g8_.l
 clear hg g8_
 go_wp2_with fail
 (try rw [aI])
 exact bodyPost_ret (v:=.tuple #[.agg #[.int .i64 (x.nx),.int .i64 (x.own),.int .i64 (er),.bool (false),.complex .f64 0 0],.bool true]) (by simp [results,results159,go_sem,k0_,k1_,k2_,k3_,k4_]) rfl ⟨rfl,HF.out⟩
theorem act_head (hj:j<n) (hs:(l j).k≤63∧(l j).i≤63) (h:(aT b t ov lg n x l X).at_ S w):
 Calls prog 224 #[.pointer (some ⟨b,0,none⟩),.int .i64 (j:Int)] w fun e w'=>e=.returned (.int .i64 (ixI (l j).k (l j).i))∧w=w':=by
 have g0:=aA.begin h
 have c2:=g0.cC 2 (.slice (some ⟨lg,0,none⟩) n n)
 obtain ⟨d0,d1⟩:=dA g0 hj
 have HI:=zz fun w=>cW (l j).k (l j).i w hs.1 hs.2
 unfold cx at HI
 generalize fl (l j).k=z1 at*
 generalize fl (l j).i=z2 at*
 clear g0 h
 go_enter func224,ntmps224
 go_wp2_with fail
 refine qq (HI.out _) ?_
 go_wp2_with fail
 go_ret
 exact ⟨rfl,rfl⟩
def bth (s:Int):Bool:=s==1||s==2
def shd (s:Int):Bool:=s==1||s==2||s==3
theorem act_both (h:(Thr b t ov lv x X).at_ S w):Calls prog 279 #[.pointer (some ⟨b,0,none⟩)] w fun e w'=>e=.returned (.bool (bth x.st))∧w=w':=by
 have c4:=(aA.begin h).ci 4 x.st
 clear h
 unfold bth
 generalize x.st=st at*
 by_cases h1:st=1
 · subst h1
   go_enter func279,ntmps279
   go_wp2_with fail
   go_ret
   exact ⟨rfl,rfl⟩
 · have h2:(st==1)=false:=by simpa using h1
   rw [h2]
   have h3:decide (st=1)=false:=by simpa using h1
   go_enter func279,ntmps279
   go_wp2_with fail
   go_ret
   exact ⟨by simp,rfl⟩
theorem act_shades (h:(Thr b t ov lv x X).at_ S w):Calls prog 282 #[.pointer (some ⟨b,0,none⟩)] w fun e w'=>e=.returned (.bool (shd x.st))∧w=w':=by
 have c4:=(aA.begin h).ci 4 x.st
 clear h
 unfold shd
 generalize x.st=st at*
 by_cases h1:st=1
 · subst h1
   go_enter func282,ntmps282
   go_wp2_with fail
   go_ret
   exact ⟨rfl,rfl⟩
 · have h2:(st==1)=false:=by simpa using h1
   have h3:decide (st=1)=false:=by simpa using h1
   by_cases k1:st=2
   · subst k1
     go_enter func282,ntmps282
     go_wp2_with fail
     go_ret
     exact ⟨rfl,rfl⟩
   · have k2:(st==2)=false:=by simpa using k1
     have k3:decide (st=2)=false:=by simpa using k1
     rw [h2,k2]
     go_enter func282,ntmps282
     go_wp2_with fail
     go_ret
     exact ⟨by simp,rfl⟩
def bhd (k i:Nat) (st:Int):Int:=if ixB k i&&bth st then 5 else 6
theorem act_behind (hk:k≤63) (hi:i≤63) (hw1:x.w1=fl k) (hw2:x.w2=fl i) (h:(Thr b t ov lv x X).at_ S w):Calls prog 237 #[.pointer (some ⟨b,0,none⟩)] w fun e w'=>e=.returned (.int .i64 (bhd k i x.st))∧w=w':=by
 have c16:=(aA.begin h).cC 16 (.complex .f64 x.w1 x.w2)
 rw [hw1,hw2] at c16
 have HI:=zz fun w=>cW k i w hk hi
 have HB:=zz (act_both h)
 unfold cx at HI
 unfold bhd
 generalize fl k=z1 at*
 generalize fl i=z2 at*
 generalize ixI k i=iv at*
 clear h
 cases hx:ixB k i<;>cases hb:bth x.st<;>(
  rw [hx] at HI
  rw [hb] at HB
  clear hx hb
  go_enter func237,ntmps237
  go_wp2_with fail
  refine qq (HI.out _) ?_
  go_wp2_with fail
  try (with_reducible refine HB.out.mono ?_;rintro e w3 ⟨rfl,rfl⟩;go_wp2_with fail)
  go_ret
  exact ⟨rfl,rfl⟩)
def jL (l:Nat→Lc) (j:Nat) (v:Lc):Nat→Lc:=fun k=>if k=j then v else l k
theorem locM_set (l:Nat→Lc) (j:Nat) (v:Lc):dH (dH (cG l) (j*2) (.bool v.ref)) (j*2+1) (cx v.k v.i)=cG (jL l j v):=by
 funext m
 unfold dH
 by_cases e:m=j*2+1
 · subst e;rw [if_pos rfl,locM1];simp [jL]
 · rw [if_neg e]
   by_cases e2:m=j*2
   · subst e2;rw [if_pos rfl,locM0];simp [jL]
   · rw [if_neg e2]
     unfold cG jL
     have:¬m/2=j:=by omega
     simp only [this,if_false]
theorem lM {v:Lc} (hj:j<n) (hn:n≤8) (hph:x.ph=2) (hnx:x.nx≤1000) (h:(aT b t ov lg n x l X).at_ S w):
 Calls prog 221 #[.pointer (some ⟨b,0,none⟩),.int .i64 (j:Int),.agg #[.bool v.ref,cx v.k v.i]] w fun e w'=>e=.returned (Rs.v ⟨x.nx,x.own,0,v.ref,fl v.k,fl v.i,true⟩)∧aA (aT b t ov lg n x.next (jL l j v) X) S w w':=by
 have g0:=((aA.begin h).moreSt (St.fresh #[.bool v.ref,cx v.k v.i] 39)).moreSt (St.fresh aQ 41)
 rw [World.size_alloc] at g0
 obtain ⟨vb,hvb⟩:∃ k,w.heap.size=k:=⟨_,rfl⟩
 obtain ⟨rb,hrb⟩:∃ k,vb+1=k:=⟨_,rfl⟩
 rw [hvb,hrb] at g0
 have g1:=g0.drew_
 have c2:=g1.l.l.cC 2 (.slice (some ⟨lg,0,none⟩) n n)
 have v0:=g1.l.r.vb 0 v.ref
 have v1:=g1.l.r.vC 1 (cx v.k v.i)
 obtain ⟨d0,d1⟩:=dA g1.l.l hj
 have f0:=bD g1.l.l.r.l.is (j*2)
 have f1:=bD g1.l.l.r.l.is (j*2+1)
 have g2:=g1.then (aG (aG (aH (aG (fun S h=>(dE h (j*2) (.bool v.ref)).then fun S h=>dE h (j*2+1) (cx v.k v.i))))))
 rw [locM_set] at g2
 have g2:aA (Sep (Sep (aT b t ov lg n x (jL l j v) X) (Var vb #[.bool v.ref,cx v.k v.i] 39)) (Var rb aQ 41)) S w _:=g2
 have u0:=g2.l.r.vb 0 v.ref
 have u1:=g2.l.r.vC 1 (cx v.k v.i)
 have HL:=zz (g2.call (bR (bR fun S h=>act_done_ok (r:=v.ref) (z1:=fl v.k) (z2:=fl v.i) hph hnx h)))
 unfold Rs.v resV at*
 unfold cx at*
 generalize fl v.k=z1 at*
 generalize fl v.i=z2 at*
 generalize fl (l j).k=y1 at*
 generalize fl (l j).i=y2 at*
 simp only [aQ] at*
 have hjn:(j:Int)<(n:Int):=by omega
 clear h g0 g1 g2
 go_enter func221,ntmps221
 go_upto_region 1 with fail
 generalize (w.alloc _).alloc _=w1 at*
 go_still_tail 7,(by kernel_rfl)
 change wpList _ _ _ _ _ w1.drew
 generalize w1.drew=w2 at*
 go_upto_region 2 with fail
 generalize World.setCell _ _ _=w3 at*
 clear c2 v0 v1 d0 d1 f0 f1
 go_wp2_with fail
 refine qz HL.out fun w4 hg=>?_
 clear HL u0 u1
 have q0_:=hg.r.vi 0 0
 have p0_:=hg.r.vf 0
 have q1_:=hg.r.vi 1 0
 have p1_:=hg.r.vf 1
 have q2_:=hg.r.vi 2 0
 have p2_:=hg.r.vf 2
 have q3_:=hg.r.vb 3 false
 have p3_:=hg.r.vf 3
 have q4_:=hg.r.vC 4 (.complex .f64 0 0)
 have p4_:=hg.r.vf 4
 have g8_:=hg.then (aH (fun S h=>(aA.begin h).p5 (.int .i64 (x.nx)) (.int .i64 (x.own)) (.int .i64 (0)) (.bool (v.ref)) (.complex .f64 z1 z2)))
 have k0_:=g8_.r.vi 0 (x.nx)
 have k1_:=g8_.r.vi 1 (x.own)
 have k2_:=g8_.r.vi 2 (0)
 have k3_:=g8_.r.vb 3 (v.ref)
 have k4_:=g8_.r.vC 4 (.complex .f64 z1 z2)
 have HF:=zz g8_.l
 clear hg g8_
 go_wp2_with fail
 (try rw [aI])
 exact bodyPost_ret (v:=.tuple #[.agg #[.int .i64 (x.nx),.int .i64 (x.own),.int .i64 (0),.bool (v.ref),.complex .f64 z1 z2],.bool true]) (by simp [results,results221,go_sem,k0_,k1_,k2_,k3_,k4_]) rfl ⟨rfl,HF.out.l⟩
end
structure OpR where
 kd:Nat
 a:Nat
 b:Nat
 c:Nat
 n:Nat
 z1:Nat
 z2:Nat
def opc (o:OpR):Array Value:=#[.int .i64 (o.kd:Int),.int .i64 (o.a:Int),.int .i64 (o.b:Int),.int .i64 (o.c:Int),.int .i64 (o.n:Int),.complex .f64 o.z1 o.z2]
def Opn.r (o:Opn):OpR:=⟨o.kd,o.a,o.b,o.c,o.n,fl o.zk,fl o.zi⟩
section
theorem core_read (hv:q.m ad=⟨vk,vi⟩) (hc:c.ok) (had:ad<c.words) (w:World):aJ prog 129 #[.pointer (some ⟨A.bm,0,none⟩),.int .i64 (ad:Int)] w (aE A c q) (.tuple #[cx vk vi,.int .i64 0]) (aE A c q):=by
 have h:=mq_read (b:=A.bm) (m:=q.m) had hc w
 rw [hv] at h
 exact core_memR h
theorem kG (u:Sw.Wd) (hc:c.ok) (had:ad<c.words) (w:World):aJ prog 233 #[.pointer (some ⟨A.bm,0,none⟩),.int .i64 (ad:Int),.complex .f64 (fl u.k) (fl u.i)] w (aE A c q) (.int .i64 0) (aE A c {q with m:=Sw.set q.m ad u}):=core_mem (mq_write u had hc w)
theorem act_reads {o:OpR} (hc:c.ok) (hx:x.addr=(ad:Int)) (had:ad<c.words) (hv:q.m ad=⟨vk,vi⟩) (hk:vk≤63) (hi:vi≤63) (hr:x.ref=true→vi=1)
 (hj:o.a<n) (hn:n≤8) (hph:x.ph=2) (hnx:x.nx≤1000) (h:(Sep (aE A c q) (aT b t ov lg n x l X)).at_ S w):
 Calls prog 151 #[.pointer (some ⟨b,0,none⟩),.pointer (some ⟨A.b,0,none⟩),.agg (opc o)] w fun e w'=>e=.returned (Rs.v ⟨x.nx,x.own,0,x.ref,fl vk,fl vi,true⟩)∧aA (Sep (aE A c q) (aT b t ov lg n x.next (jL l o.a ⟨x.ref,vk,vi⟩) X)) S w w':=by
 obtain ⟨r,hrr⟩:∃ r,x.ref=r:=⟨_,rfl⟩
 obtain ⟨x,rfl⟩:∃ y:Tc,x={y with addr:=(ad:Int),ref:=r}:=⟨x,by rw [←hx,←hrr]⟩
 clear hrr
 have g0:=((aA.begin h).moreSt (St.fresh (opc o) 27)).moreSt (St.fresh aQ 41)
 rw [World.size_alloc] at g0
 obtain ⟨vb,hvb⟩:∃ k,w.heap.size=k:=⟨_,rfl⟩
 obtain ⟨rb,hrb⟩:∃ k,vb+1=k:=⟨_,rfl⟩
 rw [hvb,hrb] at g0
 have g1:=g0.drew_
 have HL:=zz ((core_read hv hc had _).l.l.l.on g1)
 have HI:=zz fun w=>word_is vk vi w hk hi
 have HR:=zz hr
 have HL2:=zz fun w5 (hg5:aA (Sep (Sep (Sep (aE A c q) (aT b t ov lg n {x with addr:=(ad:Int),ref:=r} l X)) (Var vb #[.int .i64 (o.kd:Int),.int .i64 (o.a:Int),.int .i64 (o.b:Int),.int .i64 (o.c:Int),.int .i64 (o.n:Int),.complex .f64 o.z1 o.z2] 27)) (Var rb #[.int .i64 0,.int .i64 0,.int .i64 0,.bool false,.complex .f64 0 0] 41)) S w w5)=>hg5.call (bR (bR (cY fun S h=>lM (x:={x with addr:=(ad:Int),ref:=r}) (v:=⟨r,vk,vi⟩) hj hn hph hnx h)))
 unfold opc at*
 unfold Rs.v cx at*
 generalize fl vk=y1 at*
 generalize fl vi=y2 at*
 simp only [aQ] at*
 clear h g0 hv hc hr hx
 go_enter func151,ntmps151
 go_upto_region 1 with fail
 generalize (w.alloc _).alloc _=w1 at*
 refine wp_region_held_drew (S:=fun w'=>w'.cell? ⟨A.b,9,none⟩=some (.pointer (some ⟨A.bm,0,none⟩))∧w'.cell? ⟨b,13,none⟩=some (.int .i64 (ad:Int))) (by kernel_rfl) ⟨g1.l.l.l.cp 9 A.bm,g1.l.l.r.ci 13 (ad:Int)⟩ (fun hHeld=>?_)
 refine tk 0 ?_
 refine tk 1 ?_
 refine tk 2 ?_
 refine tk 3 ?_
 refine tk 4 ?_
 refine tk 5 ?_
 refine tk 6 ?_
 refine tk 7 ?_
 refine tk 8 ?_
 refine rdy 9 fun K hK=>?_
 go_simp
 refine qz HL.out fun w3 hg=>?_
 have hg:aA (Sep (Sep (Sep (aE A c q) (aT b t ov lg n {x with addr:=(ad:Int),ref:=r} l X)) (Var vb #[.int .i64 (o.kd:Int),.int .i64 (o.a:Int),.int .i64 (o.b:Int),.int .i64 (o.c:Int),.int .i64 (o.n:Int),.complex .f64 o.z1 o.z2] 27)) (Var rb #[.int .i64 0,.int .i64 0,.int .i64 0,.bool false,.complex .f64 0 0] 41)) S w w3:=hg
 clear HL hHeld
 go_wp2_with fail
 refine hon hK ⟨hg.l.l.l.cp 9 A.bm,hg.l.l.r.ci 13 (ad:Int)⟩ fun hHeld=>?_
 clear hK K
 refine tk 10 ?_
 refine tk 11 ?_
 refine tk 12 ?_
 refine tk 13 ?_
 refine tk 14 ?_
 refine wpAnyH_done (by kernel_rfl) ?_ _
 clear hHeld g1
 cases r with
 | true=>
  have c14:=hg.l.l.r.cb 14 true
  rw [show (vi==1)=true by rw [HR.out rfl];rfl] at HI
  go_wp2_with fail
  refine qq (HI.out _) ?_
  clear HI HR
  have hg1:=hg.drew_
  go_wp2_with fail
  clear c14
  have HG:=zz hg
  refine wp_region_held_drew (S:=fun w'=>w'.cell? ⟨vb,1,none⟩=some (.int .i64 (o.a:Int))∧w'.cell? ⟨b,14,none⟩=some (.bool true)) (by kernel_rfl) ⟨hg1.l.r.vi 1 (o.a:Int),hg1.l.l.r.cb 14 true⟩ (fun hHeld=>?_)
  refine tk 0 ?_
  refine tk 1 ?_
  refine tk 2 ?_
  refine tk 3 ?_
  refine tk 4 ?_
  refine tk 5 ?_
  refine tk 6 ?_
  refine tk 7 ?_
  refine tk 8 ?_
  refine tk 9 ?_
  refine rdy 10 fun K hK=>?_
  go_simp
  refine qz (HL2.out _ hg1) fun w5 hgx=>?_
  have hg:aA (Sep (Sep (Sep (aE A c q) (aT b t ov lg n (Tc.next {x with addr:=(ad:Int),ref:=true}) (jL l o.a ⟨true,vk,vi⟩) X)) (Var vb #[.int .i64 (o.kd:Int),.int .i64 (o.a:Int),.int .i64 (o.b:Int),.int .i64 (o.c:Int),.int .i64 (o.n:Int),.complex .f64 o.z1 o.z2] 27)) (Var rb #[.int .i64 0,.int .i64 0,.int .i64 0,.bool false,.complex .f64 0 0] 41)) S w w5:=hgx
  clear hgx HL2 hHeld HG hg1
  go_wp2_with fail
  refine hon hK ⟨hg.l.r.vi 1 (o.a:Int),hg.l.l.r.cb 14 true⟩ fun hHeld=>?_
  clear hK K
  refine tk 11 ?_
  refine tk 12 ?_
  have q0_:=hg.r.vi 0 0
  have q1_:=hg.r.vi 1 0
  have q2_:=hg.r.vi 2 0
  have q3_:=hg.r.vb 3 false
  have q4_:=hg.r.vC 4 (.complex .f64 0 0)
  have p0_:=hg.r.vf 0
  have p1_:=hg.r.vf 1
  have p2_:=hg.r.vf 2
  have p3_:=hg.r.vf 3
  have p4_:=hg.r.vf 4
  have g8_:=hg.then (aH (fun S h=>(aA.begin h).p5 (.int .i64 x.nx) (.int .i64 x.own) (.int .i64 0) (.bool true) (.complex .f64 y1 y2)))
  refine rdy 13 fun K hK=>?_
  go_simp
  refine hK.out _ _ ⟨g8_.l.r.vi 1 (o.a:Int),g8_.l.l.r.cb 14 true⟩ (fun hHeld=>?_)
  clear hK K
  have k0_:=g8_.r.vi 0 x.nx
  have k1_:=g8_.r.vi 1 x.own
  have k2_:=g8_.r.vi 2 0
  have k3_:=g8_.r.vb 3 true
  have k4_:=g8_.r.vC 4 (.complex .f64 y1 y2)
  have HF:=zz g8_.l.l
  have s1_:=g8_.l.r.vi 1 (o.a:Int)
  have s2_:=g8_.l.l.r.cb 14 true
  clear g8_
  generalize World.setCell _ _ _=w6 at*
  try simp only [Act.put,List.setIfInBounds_toArray,List.set_cons_zero,List.set_cons_succ]
  refine rdy 14 fun K hK=>?_
  go_simp
  refine hon hK ⟨s1_,s2_⟩ fun hHeld=>?_
  clear hK K
  refine wpAnyH_done (by kernel_rfl) ?_ _
  clear hg q0_ q1_ q2_ q3_ q4_ p0_ p1_ p2_ p3_ p4_
  go_wp2_with fail
  exact bodyPost_ret (v:=.tuple #[.agg #[.int .i64 x.nx,.int .i64 x.own,.int .i64 0,.bool true,.complex .f64 y1 y2],.bool true]) (by simp [results,results151,go_sem,k0_,k1_,k2_,k3_,k4_]) rfl ⟨rfl,HF.out⟩
 | false=>
  have c14:=hg.l.l.r.cb 14 false
  clear HI HR
  have hg1:=hg.drew_
  go_wp2_with fail
  clear c14
  have HG:=zz hg
  refine wp_region_held_drew (S:=fun w'=>w'.cell? ⟨vb,1,none⟩=some (.int .i64 (o.a:Int))∧w'.cell? ⟨b,14,none⟩=some (.bool false)) (by kernel_rfl) ⟨hg1.l.r.vi 1 (o.a:Int),hg1.l.l.r.cb 14 false⟩ (fun hHeld=>?_)
  refine tk 0 ?_
  refine tk 1 ?_
  refine tk 2 ?_
  refine tk 3 ?_
  refine tk 4 ?_
  refine tk 5 ?_
  refine tk 6 ?_
  refine tk 7 ?_
  refine tk 8 ?_
  refine tk 9 ?_
  refine rdy 10 fun K hK=>?_
  go_simp
  refine qz (HL2.out _ hg1) fun w5 hgx=>?_
  have hg:aA (Sep (Sep (Sep (aE A c q) (aT b t ov lg n (Tc.next {x with addr:=(ad:Int),ref:=false}) (jL l o.a ⟨false,vk,vi⟩) X)) (Var vb #[.int .i64 (o.kd:Int),.int .i64 (o.a:Int),.int .i64 (o.b:Int),.int .i64 (o.c:Int),.int .i64 (o.n:Int),.complex .f64 o.z1 o.z2] 27)) (Var rb #[.int .i64 0,.int .i64 0,.int .i64 0,.bool false,.complex .f64 0 0] 41)) S w w5:=hgx
  clear hgx HL2 hHeld HG hg1
  go_wp2_with fail
  refine hon hK ⟨hg.l.r.vi 1 (o.a:Int),hg.l.l.r.cb 14 false⟩ fun hHeld=>?_
  clear hK K
  refine tk 11 ?_
  refine tk 12 ?_
  have q0_:=hg.r.vi 0 0
  have q1_:=hg.r.vi 1 0
  have q2_:=hg.r.vi 2 0
  have q3_:=hg.r.vb 3 false
  have q4_:=hg.r.vC 4 (.complex .f64 0 0)
  have p0_:=hg.r.vf 0
  have p1_:=hg.r.vf 1
  have p2_:=hg.r.vf 2
  have p3_:=hg.r.vf 3
  have p4_:=hg.r.vf 4
  have g8_:=hg.then (aH (fun S h=>(aA.begin h).p5 (.int .i64 x.nx) (.int .i64 x.own) (.int .i64 0) (.bool false) (.complex .f64 y1 y2)))
  refine rdy 13 fun K hK=>?_
  go_simp
  refine hK.out _ _ ⟨g8_.l.r.vi 1 (o.a:Int),g8_.l.l.r.cb 14 false⟩ (fun hHeld=>?_)
  clear hK K
  have k0_:=g8_.r.vi 0 x.nx
  have k1_:=g8_.r.vi 1 x.own
  have k2_:=g8_.r.vi 2 0
  have k3_:=g8_.r.vb 3 false
  have k4_:=g8_.r.vC 4 (.complex .f64 y1 y2)
  have HF:=zz g8_.l.l
  have s1_:=g8_.l.r.vi 1 (o.a:Int)
  have s2_:=g8_.l.l.r.cb 14 false
  clear g8_
  generalize World.setCell _ _ _=w6 at*
  try simp only [Act.put,List.setIfInBounds_toArray,List.set_cons_zero,List.set_cons_succ]
  refine rdy 14 fun K hK=>?_
  go_simp
  refine hon hK ⟨s1_,s2_⟩ fun hHeld=>?_
  clear hK K
  refine wpAnyH_done (by kernel_rfl) ?_ _
  clear hg q0_ q1_ q2_ q3_ q4_ p0_ p1_ p2_ p3_ p4_
  go_wp2_with fail
  exact bodyPost_ret (v:=.tuple #[.agg #[.int .i64 x.nx,.int .i64 x.own,.int .i64 0,.bool false,.complex .f64 y1 y2],.bool true]) (by simp [results,results151,go_sem,k0_,k1_,k2_,k3_,k4_]) rfl ⟨rfl,HF.out⟩
end
section
theorem iX {o:OpR} {r:Bool} (hr:x.ref=r) (hj:o.b<n) (h:(aT b t ov lg n x l X).at_ S w):
 Calls prog 225 #[.pointer (some ⟨b,0,none⟩),.agg (opc o)] w fun e w'=>e=.returned (.tuple #[])∧aA (aT b t ov lg n {x with at_:=if r&&shd x.st then 3 else 6,w1:=fl (l o.b).k,w2:=fl (l o.b).i} l X) S w w':=by
 have g0:=(aA.begin h).moreSt (St.fresh (opc o) 27)
 obtain ⟨vb,hvb⟩:∃ k,w.heap.size=k:=⟨_,rfl⟩
 rw [hvb] at g0
 have g1:=g0.drew_
 have c2:=g1.l.cC 2 (.slice (some ⟨lg,0,none⟩) n n)
 obtain ⟨d0,d1⟩:=dA g1.l hj
 have o2:=g1.r.vi 2 (o.b:Int)
 have c16:=g1.l.cC 16 (.complex .f64 x.w1 x.w2)
 have c11:=g1.l.ci 11 x.at_
 have f16:=g1.l.fr 16
 have f11:=g1.l.fr 11
 have g2:aA (Sep (aT b t ov lg n {x with w1:=fl (l o.b).k,w2:=fl (l o.b).i} l X) (Var vb (opc o) 27)) S w _:=g1.then (aG (fun S h=>(aA.begin h).put 16 (.complex .f64 (fl (l o.b).k) (fl (l o.b).i)) (cs':=aM t ov (.slice (some ⟨lg,0,none⟩) n n) {x with w1:=fl (l o.b).k,w2:=fl (l o.b).i}) rfl))
 have g3:aA (Sep (aT b t ov lg n {x with at_:=6,w1:=fl (l o.b).k,w2:=fl (l o.b).i} l X) (Var vb (opc o) 27)) S w _:=g2.then (aG (fun S h=>(aA.begin h).put 11 (.int .i64 6) (cs':=aM t ov (.slice (some ⟨lg,0,none⟩) n n) {x with at_:=6,w1:=fl (l o.b).k,w2:=fl (l o.b).i}) rfl))
 have c11':=g2.l.ci 11 x.at_
 have f11':=g2.l.fr 11
 have S2_:=And.intro (g2.l.cC 2 (.slice (some ⟨lg,0,none⟩) n n)) (And.intro (dA g2.l hj).2 (g2.r.vi 2 (o.b:Int)))
 have S3_:=And.intro (g3.l.cC 2 (.slice (some ⟨lg,0,none⟩) n n)) (And.intro (dA g3.l hj).2 (g3.r.vi 2 (o.b:Int)))
 have HG:=zz g3
 have HR:=zz hr
 have hjn:(o.b:Int)<(n:Int):=by omega
 unfold opc at*
 generalize fl (l o.b).k=y1 at*
 generalize fl (l o.b).i=y2 at*
 clear h g0 g1 g2 g3 hr
 go_enter func225,ntmps225
 go_upto_region 1 with fail
 generalize w.alloc _=w1 at*
 refine wp_region_held_drew (S:=(fun w'=>w'.cell? ⟨b,2,none⟩=some (.slice (some ⟨lg,0,none⟩) n n)∧w'.cell? ⟨lg,o.b*2+1,none⟩=some (.complex .f64 y1 y2)∧w'.cell? ⟨vb,2,none⟩=some (.int .i64 (o.b:Int)))) (by kernel_rfl) ⟨c2,d1,o2⟩ (fun hHeld=>?_)
 generalize w1.drew=wd at*
 refine tk 0 ?_
 refine tk 1 ?_
 refine tk 2 ?_
 refine tk 3 ?_
 refine tk 4 ?_
 refine tk 5 ?_
 refine tk 6 ?_
 refine tk 7 ?_
 refine tk 8 ?_
 refine tk 9 ?_
 refine tk 10 ?_
 refine tk 11 ?_
 refine tk 12 ?_
 refine tk 13 ?_
 refine rdy 14 fun K hK=>?_
 go_simp
 refine hon hK S2_ fun hHeld=>?_
 clear hK K
 refine tk 15 ?_
 refine tk 16 ?_
 refine tk 17 ?_
 refine rdy 18 fun K hK=>?_
 go_simp
 refine hon hK S3_ fun hHeld=>?_
 clear hK K
 refine wpAnyH_done (by kernel_rfl) ?_ _
 generalize World.setCell _ _ _=w3 at*
 clear S2_ S3_ hHeld
 clear c2 d0 d1 o2 c16 c11 f16 f11 c11' f11'
 have c14:=HG.out.l.cb 14 x.ref
 rw [HR.out] at c14
 cases r with
 | false=>
  have HF:=zz HG.out.l
  clear HG HR
  go_wp2_with fail
  all_goals first|(go_end0;exact ⟨rfl,HF.out⟩)|skip
 | true=>
  have HS:=zz (act_shades HG.out.l.is)
  cases hs:shd x.st with
  | false=>
   have HS2:=HS.out
   simp only at HS2
   rw [hs] at HS2
   have HS3:=zz HS2
   have HF:=zz HG.out.l
   clear HG HR HS HS2
   go_wp2_with fail
   refine qq HS3.out ?_
   go_wp2_with fail
   all_goals (go_end0;exact ⟨rfl,HF.out⟩)
  | true=>
   have HS2:=HS.out
   simp only at HS2
   rw [hs] at HS2
   have HS3:=zz HS2
   have c11:=HG.out.l.ci 11 6
   have f11:=HG.out.l.fr 11
   have g4:aA (Sep (aT b t ov lg n {x with at_:=3,w1:=y1,w2:=y2} l X) _) S w _:=HG.out.then (aG (fun S h=>(aA.begin h).put 11 (.int .i64 3) (cs':=aM t ov (.slice (some ⟨lg,0,none⟩) n n) {x with at_:=3,w1:=y1,w2:=y2}) rfl))
   have HF:=zz g4.l
   clear HG HR HS HS2 g4
   go_wp2_with fail
   refine qq HS3.out ?_
   go_wp2_with fail
   all_goals (go_end0;exact ⟨rfl,HF.out⟩)
end
end Go.Proofs.YtgcmiahhkalfmaaGreat
