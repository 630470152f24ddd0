import Derived.Test.YtgcmiahhkalfmaaGreatM42
set_option maxRecDepth 100000
set_option maxHeartbeats 8000000
set_option linter.unusedVariables false
set_option linter.unusedSimpArgs false
namespace Go.Proofs.YtgcmiahhkalfmaaGreat
attribute [local go_sem] aF aI aO aV
open Go.Proofs.Tryz
open Go.RowKit
variable {A:CA} {c:Cf} {f:FuncId} {K er:Int} {v:Lc} {Fr b k lg n t:Nat} {l:Nat→Lc} {S U:Nat→Prop} {O2:Nat→aC} {o:OpR} {q:Sw.Q} {x:Tc} {O3 X:aC} {ty:TypeId} {lv ov:Value} {w w':World}
section
variable {α:Type} {O':α→aC} {rs:α→Rs}
def opK (K:Int) (o:OpR):Array Value:=#[.int .i64 K,.int .i64 (o.a:Int),.int .i64 (o.b:Int),.int .i64 (o.c:Int),.int .i64 (o.n:Int),.complex .f64 o.z1 o.z2]
theorem opc_K (hK:(o.kd:Int)=K):opc o=opK K o:=by unfold opc opK;rw [hK]
theorem eB (h:aA (Var k (opK K o) ty) S w w'):w'.cell? ⟨k,0,none⟩=some (.int .i64 K)∧w'.cell? ⟨k,1,none⟩=some (.int .i64 (o.a:Int))∧w'.cell? ⟨k,2,none⟩=some (.int .i64 (o.b:Int))∧w'.cell? ⟨k,3,none⟩=some (.int .i64 (o.c:Int))∧w'.cell? ⟨k,4,none⟩=some (.int .i64 (o.n:Int))∧w'.cell? ⟨k,5,none⟩=some (.complex .f64 o.z1 o.z2):=
 ⟨h.vc 0 rfl,h.vc 1 rfl,h.vc 2 rfl,h.vc 3 rfl,h.vc 4 rfl,h.vc 5 rfl⟩
abbrev SF (O:aC) (vb rb:Nat) (K:Int) (o:OpR):aC:=Sep (Sep O (Var vb (opK K o) 27)) (Var rb aQ 41)
def CkOk (A:CA) (c:Cf) (o:OpR):Prop:=∀ S w,(aZ c A.g A.cap).at_ S w→Calls prog 218 #[cfV c A.g A.cap,.agg (opc o)] w fun e w'=>e=.returned (.int .i64 0)∧Below w.heap.size w w'
def OpOk (T:aC) (b:Nat) (o:OpR) (er:Int):Prop:=∀ S w,T.at_ S w→Calls prog 219 #[.pointer (some ⟨b,0,none⟩),.agg (opc o)] w fun e w'=>e=.returned (.int .i64 er)∧aA T S w w'
def PlOk (T:aC) (b:Nat) (o:OpR) (rf:Bool) (z1 z2:Nat) (r:Bool):Prop:=∀ S w,T.at_ S w→Calls prog 220 #[.pointer (some ⟨b,0,none⟩),.agg (opc o)] w fun e w'=>e=.returned (.tuple #[.agg #[.bool rf,.complex .f64 z1 z2],.bool r])∧aA T S w w'
theorem act_startsF (hK:(o.kd:Int)=K) (her:¬er=0) (hCK:CkOk A c o) (hOP:OpOk (aT b t ov lg n x l X) b o er) (hph:¬x.ph=4) (hnx:x.nx≤1000) (h:(Sep (aE A c q) (aT b t ov lg n x l X)).at_ S w):
 Calls prog 149 #[.pointer (some ⟨b,0,none⟩),.pointer (some ⟨A.b,0,none⟩),.agg (opc o)] w fun e w'=>e=.returned (Rs.v ⟨x.nx,x.own,er,false,0,0,true⟩)∧aA (Sep (aE A c q) (aT b t ov lg n x.next l X)) S w w':=by
 have hoc:=opc_K hK
 have g0:=((aA.begin h).moreSt (St.fresh (opK K o) 27)).moreSt (St.fresh aQ 41)
 rw [World.size_alloc] at g0
 obtain ⟨vb,hvb⟩:∃ k,w.heap.size=k:=⟨_,rfl⟩
 obtain ⟨rb,hrb⟩:∃ k,vb+1=k:=⟨_,rfl⟩
 rw [hvb,hrb] at g0
 have g1:=g0.drew_
 obtain ⟨c0,c1,c2,c3,c4,c5,c6,c7,c8⟩:=eG g1.l.l.l
 obtain ⟨p0,p1,p2,p3,p4,p5⟩:=eB g1.l.r
 have HL:=zz (g1.plain (hCK _ _ (bO g1.l.l.l.is).choose_spec))
 have HO:=zz fun w1 (gg:aA (SF (Sep (aE A c q) (aT b t ov lg n x l X)) vb rb K o) S w w1)=>gg.call (bR (bR (cY fun S h=>hOP S _ h)))
 have HF:=zz fun w1 (gg:aA (SF (Sep (aE A c q) (aT b t ov lg n x l X)) vb rb K o) S w w1)=>gg.call (bR (bR (cY fun S h=>act_fails her hph hnx h)))
 unfold Rs.v at*
 rw [hoc] at HL HO ⊢
 unfold SF opK aQ cfV at*
 clear h g0 g1 hoc hK hCK hOP
 go_enter func149,ntmps149
 go_upto_region 1 with fail
 generalize (w.alloc _).alloc _=w1 at*
 go_still_tail 5,(by kernel_rfl)
 change wpList _ _ _ _ _ w1.drew
 generalize w1.drew=w2 at*
 go_wp2_with fail
 refine qz HL.out fun w3 hg=>?_
 have HC:=zz (HO.out _ hg)
 clear HL HO c0 c1 c2 c3 c4 c5 c6 c7 c8 p0 p1 p2 p3 p4 p5
 obtain ⟨p0,p1,p2,p3,p4,p5⟩:=eB hg.l.r
 clear hg
 go_wp2_with fail
 refine qz HC.out fun w4 hg=>?_
 clear HC p0 p1 p2 p3 p4 p5
 have HFC:=zz (HF.out _ hg)
 clear HF hg
 go_wp2_with fail
 refine qz HFC.out fun w5 hg=>?_
 clear HFC
 have q0_:=hg.r.vi 0 0
 have p0_:=hg.r.vf 0
 have q1_:=hg.r.vi 1 0
 have p1_:=hg.r.vf 1
 have q2_:=hg.r.vi 2 0
 have p2_:=hg.r.vf 2
 have q3_:=hg.r.vb 3 false
 have p3_:=hg.r.vf 3
 have q4_:=hg.r.vC 4 (.complex .f64 0 0)
 have p4_:=hg.r.vf 4
 have g8_:=hg.then (aH (fun S h=>(aA.begin h).p5 (.int .i64 (x.nx)) (.int .i64 (x.own)) (.int .i64 (er)) (.bool (false)) (.complex .f64 0 0)))
 have k0_:=g8_.r.vi 0 (x.nx)
 have k1_:=g8_.r.vi 1 (x.own)
 have k2_:=g8_.r.vi 2 (er)
 have k3_:=g8_.r.vb 3 (false)
 have k4_:=g8_.r.vC 4 (.complex .f64 0 0)
 have HF:=zz g8_.l
 clear hg g8_
 go_wp2_with fail
 (try rw [aI])
 exact bodyPost_ret (v:=.tuple #[.agg #[.int .i64 (x.nx),.int .i64 (x.own),.int .i64 (er),.bool (false),.complex .f64 0 0],.bool true]) (by simp [results,results149,go_sem,k0_,k1_,k2_,k3_,k4_]) rfl ⟨rfl,HF.out.l⟩
theorem act_startsP (hK:(o.kd:Int)=K) (hCK:CkOk A c o) (hOP:OpOk (aT b t ov lg n x l X) b o 0) (hPL:PlOk (aT b t ov lg n x l X) b o v.ref (fl v.k) (fl v.i) true) (ha:o.a<n) (hn:n≤8) (hph:x.ph=2) (hnx:x.nx≤1000) (h:(Sep (aE A c q) (aT b t ov lg n x l X)).at_ S w):
 Calls prog 149 #[.pointer (some ⟨b,0,none⟩),.pointer (some ⟨A.b,0,none⟩),.agg (opc o)] w fun e w'=>e=.returned (Rs.v ⟨x.nx,x.own,0,v.ref,fl v.k,fl v.i,true⟩)∧aA (Sep (aE A c q) (aT b t ov lg n x.next (jL l o.a v) X)) S w w':=by
 have hoc:=opc_K hK
 have g0:=((aA.begin h).moreSt (St.fresh (opK K o) 27)).moreSt (St.fresh aQ 41)
 rw [World.size_alloc] at g0
 obtain ⟨vb,hvb⟩:∃ k,w.heap.size=k:=⟨_,rfl⟩
 obtain ⟨rb,hrb⟩:∃ k,vb+1=k:=⟨_,rfl⟩
 rw [hvb,hrb] at g0
 have g1:=g0.drew_
 obtain ⟨c0,c1,c2,c3,c4,c5,c6,c7,c8⟩:=eG g1.l.l.l
 obtain ⟨p0,p1,p2,p3,p4,p5⟩:=eB g1.l.r
 have HL:=zz (g1.plain (hCK _ _ (bO g1.l.l.l.is).choose_spec))
 have HO:=zz fun w1 (gg:aA (SF (Sep (aE A c q) (aT b t ov lg n x l X)) vb rb K o) S w w1)=>gg.call (bR (bR (cY fun S h=>hOP S _ h)))
 have HP:=zz fun w1 (gg:aA (SF (Sep (aE A c q) (aT b t ov lg n x l X)) vb rb K o) S w w1)=>gg.call (bR (bR (cY fun S h=>hPL S _ h)))
 have HY:=zz fun w1 pb (gg:aA (Sep (SF (Sep (aE A c q) (aT b t ov lg n x l X)) vb rb K o) (Var pb #[.bool v.ref,.complex .f64 (fl v.k) (fl v.i)] 39)) S w w1)=>gg.call (bR (bR (bR (cY fun S h=>lM (v:=v) ha hn hph hnx h))))
 unfold cx at HY
 generalize fl v.k=y1 at*
 generalize fl v.i=y2 at*
 unfold Rs.v at*
 rw [hoc] at HL HO HP ⊢
 unfold SF opK aQ cfV at*
 clear h g0 g1 hoc hK hCK hOP hPL
 go_enter func149,ntmps149
 go_upto_region 1 with fail
 generalize (w.alloc _).alloc _=w1 at*
 go_still_tail 5,(by kernel_rfl)
 change wpList _ _ _ _ _ w1.drew
 generalize w1.drew=w2 at*
 go_wp2_with fail
 refine qz HL.out fun w3 hg=>?_
 have HC:=zz (HO.out _ hg)
 clear HL HO c0 c1 c2 c3 c4 c5 c6 c7 c8 p0 p1 p2 p3 p4 p5
 obtain ⟨p0,p1,p2,p3,p4,p5⟩:=eB hg.l.r
 clear hg
 go_wp2_with fail
 refine qz HC.out fun w4 hg=>?_
 clear HC p0 p1 p2 p3 p4 p5
 have HPC:=zz (HP.out _ hg)
 obtain ⟨p0,p1,p2,p3,p4,p5⟩:=eB hg.l.r
 clear HP hg
 go_wp2_with fail
 refine qz HPC.out fun w5 hg=>?_
 have g6:=hg.moreSt (St.fresh #[.bool v.ref,.complex .f64 y1 y2] 39)
 obtain ⟨pb,hpb⟩:∃ k,w5.heap.size=k:=⟨_,rfl⟩
 rw [hpb] at g6
 have HYC:=zz (HY.out _ _ g6)
 clear HPC HY p0 p1 p2 p3 p4 p5 hg
 have p1:=g6.l.l.r.vi 1 (o.a:Int)
 have v0:=g6.r.vb 0 v.ref
 have v1:=g6.r.vC 1 (.complex .f64 y1 y2)
 clear g6
 go_upto_region 8 with fail
 generalize w5.alloc _=w6 at*
 go_wp2_with fail
 refine qz HYC.out fun w7 hgx=>?_
 have hg:=hgx.l
 clear HYC hgx p1 v0 v1
 have q0_:=hg.r.vi 0 0
 have p0_:=hg.r.vf 0
 have q1_:=hg.r.vi 1 0
 have p1_:=hg.r.vf 1
 have q2_:=hg.r.vi 2 0
 have p2_:=hg.r.vf 2
 have q3_:=hg.r.vb 3 false
 have p3_:=hg.r.vf 3
 have q4_:=hg.r.vC 4 (.complex .f64 0 0)
 have p4_:=hg.r.vf 4
 have g8_:=hg.then (aH (fun S h=>(aA.begin h).p5 (.int .i64 (x.nx)) (.int .i64 (x.own)) (.int .i64 (0)) (.bool (v.ref)) (.complex .f64 y1 y2)))
 have k0_:=g8_.r.vi 0 (x.nx)
 have k1_:=g8_.r.vi 1 (x.own)
 have k2_:=g8_.r.vi 2 (0)
 have k3_:=g8_.r.vb 3 (v.ref)
 have k4_:=g8_.r.vC 4 (.complex .f64 y1 y2)
 have HF:=zz g8_.l
 clear hg g8_
 go_wp2_with fail
 (try rw [aI])
 exact bodyPost_ret (v:=.tuple #[.agg #[.int .i64 (x.nx),.int .i64 (x.own),.int .i64 (0),.bool (v.ref),.complex .f64 y1 y2],.bool true]) (by simp [results,results149,go_sem,k0_,k1_,k2_,k3_,k4_]) rfl ⟨rfl,HF.out.l⟩
theorem act_startsC (hK:(o.kd:Int)=K) (hf:(K=1∧f=222)∨(K=11∧f=226)) (hCK:CkOk A c o) (hOP:OpOk (aT b t ov lg n x l X) b o 0) (hPL:PlOk (aT b t ov lg n x l X) b o false 0 0 false)
 (hW:∀ w,aN prog f #[.pointer (some ⟨b,0,none⟩),.pointer (some ⟨A.b,0,none⟩),.agg (opc o)] w (Sep (aE A c q) (aT b t ov lg n x l X)) (fun y e=>e=.returned (rs y).v) O') (h:(Sep (aE A c q) (aT b t ov lg n x l X)).at_ S w):
 Calls prog 149 #[.pointer (some ⟨b,0,none⟩),.pointer (some ⟨A.b,0,none⟩),.agg (opc o)] w fun e w'=>∃ y,e=.returned (rs y).v∧aA (O' y) S w w':=by
 have hoc:=opc_K hK
 have g0:=((aA.begin h).moreSt (St.fresh (opK K o) 27)).moreSt (St.fresh aQ 41)
 rw [World.size_alloc] at g0
 obtain ⟨vb,hvb⟩:∃ k,w.heap.size=k:=⟨_,rfl⟩
 obtain ⟨rb,hrb⟩:∃ k,vb+1=k:=⟨_,rfl⟩
 rw [hvb,hrb] at g0
 have g1:=g0.drew_
 obtain ⟨c0,c1,c2,c3,c4,c5,c6,c7,c8⟩:=eG g1.l.l.l
 obtain ⟨p0,p1,p2,p3,p4,p5⟩:=eB g1.l.r
 have HL:=zz (g1.plain (hCK _ _ (bO g1.l.l.l.is).choose_spec))
 have HO:=zz fun w1 (gg:aA (SF (Sep (aE A c q) (aT b t ov lg n x l X)) vb rb K o) S w w1)=>gg.call (bR (bR (cY fun S h=>hOP S _ h)))
 have HP:=zz fun w1 (gg:aA (SF (Sep (aE A c q) (aT b t ov lg n x l X)) vb rb K o) S w w1)=>gg.call (bR (bR (cY fun S h=>hPL S _ h)))
 have HW:=zz fun w1 pb (gg:aA (Sep (SF (Sep (aE A c q) (aT b t ov lg n x l X)) vb rb K o) (Var pb #[.bool false,.complex .f64 0 0] 39)) S w w1)=>aN.on (hW w1).l.l.l gg
 unfold Rs.v at*
 rw [hoc] at HL HO HP HW ⊢
 unfold SF opK aQ cfV at*
 clear h g0 g1 hoc hK hCK hOP hPL hW
 go_enter func149,ntmps149
 go_upto_region 1 with fail
 generalize (w.alloc _).alloc _=w1 at*
 go_still_tail 5,(by kernel_rfl)
 change wpList _ _ _ _ _ w1.drew
 generalize w1.drew=w2 at*
 go_wp2_with fail
 refine qz HL.out fun w3 hg=>?_
 have HC:=zz (HO.out _ hg)
 clear HL HO c0 c1 c2 c3 c4 c5 c6 c7 c8 p0 p1 p2 p3 p4 p5
 obtain ⟨p0,p1,p2,p3,p4,p5⟩:=eB hg.l.r
 clear hg
 go_wp2_with fail
 refine qz HC.out fun w4 hg=>?_
 clear HC p0 p1 p2 p3 p4 p5
 have HPC:=zz (HP.out _ hg)
 obtain ⟨p0,p1,p2,p3,p4,p5⟩:=eB hg.l.r
 clear HP hg
 go_wp2_with fail
 refine qz HPC.out fun w5 hg=>?_
 have g6:=hg.moreSt (St.fresh #[.bool false,.complex .f64 0 0] 39)
 obtain ⟨pb,hpb⟩:∃ k,w5.heap.size=k:=⟨_,rfl⟩
 rw [hpb] at g6
 clear HPC p0 p1 p2 p3 p4 p5 hg
 have v0:=g6.r.vb 0 false
 have v1:=g6.r.vC 1 (.complex .f64 0 0)
 obtain ⟨p0,p1,p2,p3,p4,p5⟩:=eB g6.l.l.r
 have HRC:=zz (HW.out _ _ g6)
 clear HW g6
 go_upto_region 9 with fail
 generalize w5.alloc _=w6 at*
 rcases hf with ⟨rfl,rfl⟩|⟨rfl,rfl⟩<;>(
  go_wp2_with fail
  with_reducible refine HRC.out.mono ?_
  rintro e w7 ⟨y,rfl,hgx⟩
  have hg:=hgx.l
  clear HRC hgx p0 p1 p2 p3 p4 p5 v0 v1
  have q0_:=hg.r.vi 0 0
  have p0_:=hg.r.vf 0
  have q1_:=hg.r.vi 1 0
  have p1_:=hg.r.vf 1
  have q2_:=hg.r.vi 2 0
  have p2_:=hg.r.vf 2
  have q3_:=hg.r.vb 3 false
  have p3_:=hg.r.vf 3
  have q4_:=hg.r.vC 4 (.complex .f64 0 0)
  have p4_:=hg.r.vf 4
  have g8_:=hg.then (aH (fun S h=>(aA.begin h).p5 (.int .i64 ((rs y).nx)) (.int .i64 ((rs y).own)) (.int .i64 ((rs y).er)) (.bool ((rs y).r)) (.complex .f64 (rs y).z1 (rs y).z2)))
  have k0_:=g8_.r.vi 0 ((rs y).nx)
  have k1_:=g8_.r.vi 1 ((rs y).own)
  have k2_:=g8_.r.vi 2 ((rs y).er)
  have k3_:=g8_.r.vb 3 ((rs y).r)
  have k4_:=g8_.r.vC 4 (.complex .f64 (rs y).z1 (rs y).z2)
  have HF:=zz g8_.l
  clear hg g8_
  go_wp2_with fail
  (try rw [aI])
  exact bodyPost_ret (v:=.tuple #[.agg #[.int .i64 ((rs y).nx),.int .i64 ((rs y).own),.int .i64 ((rs y).er),.bool ((rs y).r),.complex .f64 (rs y).z1 (rs y).z2],.bool (rs y).d]) (by simp [results,results149,go_sem,k0_,k1_,k2_,k3_,k4_]) rfl ⟨y,rfl,HF.out.l⟩)
end
theorem aB.rot3 {A B C D E:aC} (h:(Sep (Sep (Sep (Sep A B) C) D) E).at_ U w):(Sep (Sep (Sep (Sep A E) B) C) D).at_ U w:=aB.monoL (fun _ h=>aB.monoL (fun _ h=>aB.rot h) (aB.rot h)) (aB.rot h)
section
variable {α:Type} {O':α→aC} {rs:α→Rs}
theorem act_startsS {rv:Rs} (hK:(o.kd:Int)=K) (hf:K=3∨K=4) (hCK:CkOk A c o) (hOP:OpOk (aT b t ov lg n x l X) b o 0) (hPL:PlOk (aT b t ov lg n x l X) b o false 0 0 false)
 (hR:∀ w,aN prog 223 #[.pointer (some ⟨A.b,0,none⟩),.agg (opc o),.func (.func 224) #[.pointer (some ⟨b,0,none⟩)] #[]] w (Sep (aE A c q) (aT b t ov lg n x l X)) (fun (y:Nat×Nat×Nat) e=>e=.returned (.pointer (some ⟨y.1,0,none⟩))) (fun y=>Sep (Sep (aE A c q) (aT b t ov lg n x l X)) (dK y.1 c y.2.1 y.2.2 ⟨Fr,o.n,0,-1,false,0⟩)))
 (hD:∀ fb g' cap' w,aJ prog 150 #[.pointer (some ⟨b,0,none⟩),.pointer (some ⟨A.b,0,none⟩),.agg (opc o)] w (Sep (Sep (aE A c q) (aT b t ov lg n {x with f:=.pointer (some ⟨fb,0,none⟩)} l X)) (dK fb c g' cap' ⟨Fr,o.n,0,-1,false,0⟩)) rv.v (O2 fb)) (h:(Sep (aE A c q) (aT b t ov lg n x l X)).at_ S w):
 Calls prog 149 #[.pointer (some ⟨b,0,none⟩),.pointer (some ⟨A.b,0,none⟩),.agg (opc o)] w fun e w'=>∃ fb,e=.returned rv.v∧aA (O2 fb) S w w':=by
 have hoc:=opc_K hK
 have g0:=((aA.begin h).moreSt (St.fresh (opK K o) 27)).moreSt (St.fresh aQ 41)
 rw [World.size_alloc] at g0
 obtain ⟨vb,hvb⟩:∃ k,w.heap.size=k:=⟨_,rfl⟩
 obtain ⟨rb,hrb⟩:∃ k,vb+1=k:=⟨_,rfl⟩
 rw [hvb,hrb] at g0
 have g1:=g0.drew_
 obtain ⟨c0,c1,c2,c3,c4,c5,c6,c7,c8⟩:=eG g1.l.l.l
 obtain ⟨p0,p1,p2,p3,p4,p5⟩:=eB g1.l.r
 have HL:=zz (g1.plain (hCK _ _ (bO g1.l.l.l.is).choose_spec))
 have HO:=zz fun w1 (gg:aA (SF (Sep (aE A c q) (aT b t ov lg n x l X)) vb rb K o) S w w1)=>gg.call (bR (bR (cY fun S h=>hOP S _ h)))
 have HP:=zz fun w1 (gg:aA (SF (Sep (aE A c q) (aT b t ov lg n x l X)) vb rb K o) S w w1)=>gg.call (bR (bR (cY fun S h=>hPL S _ h)))
 have HR:=zz fun w1 pb (gg:aA (Sep (SF (Sep (aE A c q) (aT b t ov lg n x l X)) vb rb K o) (Var pb #[.bool false,.complex .f64 0 0] 39)) S w w1)=>aN.on (aN.lX (aN.lX (aN.lX (hR w1)))) gg
 have HD:=zz fun w1 pb fb g' cap' (gg:aA (Sep (SF (Sep (Sep (aE A c q) (aT b t ov lg n {x with f:=.pointer (some ⟨fb,0,none⟩)} l X)) (dK fb c g' cap' ⟨Fr,o.n,0,-1,false,0⟩)) vb rb K o) (Var pb #[.bool false,.complex .f64 0 0] 39)) S w w1)=>(hD fb g' cap' w1).l.l.l.on gg
 unfold Rs.v at*
 rw [hoc] at HL HO HP HR HD ⊢
 unfold SF opK aQ cfV at*
 clear h g0 g1 hoc hK hCK hOP hPL hR hD
 go_enter func149,ntmps149
 go_upto_region 1 with fail
 generalize (w.alloc _).alloc _=w1 at*
 go_still_tail 5,(by kernel_rfl)
 change wpList _ _ _ _ _ w1.drew
 generalize w1.drew=w2 at*
 go_wp2_with fail
 refine qz HL.out fun w3 hg=>?_
 have HC:=zz (HO.out _ hg)
 clear HL HO c0 c1 c2 c3 c4 c5 c6 c7 c8 p0 p1 p2 p3 p4 p5
 obtain ⟨p0,p1,p2,p3,p4,p5⟩:=eB hg.l.r
 clear hg
 go_wp2_with fail
 refine qz HC.out fun w4 hg=>?_
 clear HC p0 p1 p2 p3 p4 p5
 have HPC:=zz (HP.out _ hg)
 obtain ⟨p0,p1,p2,p3,p4,p5⟩:=eB hg.l.r
 clear HP hg
 go_wp2_with fail
 refine qz HPC.out fun w5 hg=>?_
 have g6:=hg.moreSt (St.fresh #[.bool false,.complex .f64 0 0] 39)
 obtain ⟨pb,hpb⟩:∃ k,w5.heap.size=k:=⟨_,rfl⟩
 rw [hpb] at g6
 clear HPC p0 p1 p2 p3 p4 p5 hg
 have v0:=g6.r.vb 0 false
 have v1:=g6.r.vC 1 (.complex .f64 0 0)
 obtain ⟨p0,p1,p2,p3,p4,p5⟩:=eB g6.l.l.r
 have HRC:=zz (HR.out _ _ g6)
 clear HR
 go_upto_region 9 with fail
 generalize w5.alloc _=w6 at*
 rcases hf with rfl|rfl<;>(
  go_wp2_with fail
  with_reducible refine HRC.out.mono ?_
  rintro e w7 ⟨⟨fb,g',cap'⟩,rfl,hg⟩
  clear HRC g6 p0 p1 p2 p3 p4 p5 v0 v1
  have c12:=hg.l.l.l.l.r.cC 12 x.f
  have f12:=hg.l.l.l.l.r.fr 12
  have g8:=hg.then (aG (aG (aG (aG (fun S h=>aH (B':=aT b t ov lg n {x with f:=.pointer (some ⟨fb,0,none⟩)} l X) (fun S h=>(aA.begin h).put 12 (.pointer (some ⟨fb,0,none⟩)) (cs':=aM t ov (.slice (some ⟨lg,0,none⟩) n n) {x with f:=.pointer (some ⟨fb,0,none⟩)}) rfl) S h)))))
  have g9:=g8.conv fun S w h=>aB.rot3 h
  have HDC:=zz (HD.out _ _ _ _ _ g9)
  clear HD hg g8
  obtain ⟨p0,p1,p2,p3,p4,p5⟩:=eB g9.l.l.r
  clear g9
  go_wp2_with fail
  refine qz HDC.out fun w9 hgx=>?_
  have hg:=hgx.l
  clear HDC hgx c12 f12 p0 p1 p2 p3 p4 p5
  have q0_:=hg.r.vi 0 0
  have p0_:=hg.r.vf 0
  have q1_:=hg.r.vi 1 0
  have p1_:=hg.r.vf 1
  have q2_:=hg.r.vi 2 0
  have p2_:=hg.r.vf 2
  have q3_:=hg.r.vb 3 false
  have p3_:=hg.r.vf 3
  have q4_:=hg.r.vC 4 (.complex .f64 0 0)
  have p4_:=hg.r.vf 4
  have g8_:=hg.then (aH (fun S h=>(aA.begin h).p5 (.int .i64 (rv.nx)) (.int .i64 (rv.own)) (.int .i64 (rv.er)) (.bool (rv.r)) (.complex .f64 rv.z1 rv.z2)))
  have k0_:=g8_.r.vi 0 (rv.nx)
  have k1_:=g8_.r.vi 1 (rv.own)
  have k2_:=g8_.r.vi 2 (rv.er)
  have k3_:=g8_.r.vb 3 (rv.r)
  have k4_:=g8_.r.vC 4 (.complex .f64 rv.z1 rv.z2)
  have HF:=zz g8_.l
  clear hg g8_
  go_wp2_with fail
  (try rw [aI])
  exact bodyPost_ret (v:=.tuple #[.agg #[.int .i64 (rv.nx),.int .i64 (rv.own),.int .i64 (rv.er),.bool (rv.r),.complex .f64 rv.z1 rv.z2],.bool rv.d]) (by simp [results,results149,go_sem,k0_,k1_,k2_,k3_,k4_]) rfl ⟨fb,rfl,HF.out.l⟩)
end
section
variable {α:Type} {O':α→aC} {rs:α→Rs}
theorem iW {rv:Rs} {O2:aC} (hK:(o.kd:Int)=K) (hc:c.ok) (hN:o.n<c.globals) (hCK:CkOk A c o) (hOP:OpOk (aT b t ov lg n x l X) b o 0) (hPL:PlOk (aT b t ov lg n x l X) b o false 0 0 false)
 (hf:(K=7∧∀ w,aJ prog 151 #[.pointer (some ⟨b,0,none⟩),.pointer (some ⟨A.b,0,none⟩),.agg (opc o)] w (Sep (aE A c q) (aT b t ov lg n {x with addr:=((c.gw o.n:Nat):Int),ref:=true} l X)) rv.v O3)∨
   (K=8∧(∀ w,aJ prog 225 #[.pointer (some ⟨b,0,none⟩),.agg (opc o)] w (Sep (aE A c q) (aT b t ov lg n {x with addr:=((c.gw o.n:Nat):Int),ref:=true} l X)) (.tuple #[]) O2)∧
     (∀ w,aJ prog 156 #[.pointer (some ⟨b,0,none⟩),.pointer (some ⟨A.b,0,none⟩)] w O2 rv.v O3))) (h:(Sep (aE A c q) (aT b t ov lg n x l X)).at_ S w):
 Calls prog 149 #[.pointer (some ⟨b,0,none⟩),.pointer (some ⟨A.b,0,none⟩),.agg (opc o)] w fun e w'=>e=.returned rv.v∧aA O3 S w w':=by
 have eg:(o.n:Int)+(c.frags:Int)*8+c.spine+c.spine=((c.gw o.n:Nat):Int):=by unfold Cf.gw;push_cast;omega
 generalize c.gw o.n=gw at*
 have hoc:=opc_K hK
 have g0:=((aA.begin h).moreSt (St.fresh (opK K o) 27)).moreSt (St.fresh aQ 41)
 rw [World.size_alloc] at g0
 obtain ⟨vb,hvb⟩:∃ k,w.heap.size=k:=⟨_,rfl⟩
 obtain ⟨rb,hrb⟩:∃ k,vb+1=k:=⟨_,rfl⟩
 rw [hvb,hrb] at g0
 have g1:=g0.drew_
 obtain ⟨c0,c1,c2,c3,c4,c5,c6,c7,c8⟩:=eG g1.l.l.l
 obtain ⟨p0,p1,p2,p3,p4,p5⟩:=eB g1.l.r
 have HL:=zz (g1.plain (hCK _ _ (bO g1.l.l.l.is).choose_spec))
 have HO:=zz fun w1 (gg:aA (SF (Sep (aE A c q) (aT b t ov lg n x l X)) vb rb K o) S w w1)=>gg.call (bR (bR (cY fun S h=>hOP S _ h)))
 have HP:=zz fun w1 (gg:aA (SF (Sep (aE A c q) (aT b t ov lg n x l X)) vb rb K o) S w w1)=>gg.call (bR (bR (cY fun S h=>hPL S _ h)))
 have HGL:=zz fun w1 pb (gg:aA (Sep (SF (Sep (aE A c q) (aT b t ov lg n x l X)) vb rb K o) (Var pb #[.bool false,.complex .f64 0 0] 39)) S w w1)=>gg.plain (fW o.n hc (bO gg.l.l.l.l.is).choose_spec hN)
 rw [eg] at HGL
 have HRR:=zz fun w1 pb (hk7:K=7) (gg:aA (Sep (SF (Sep (aE A c q) (aT b t ov lg n {x with addr:=(gw:Int),ref:=true} l X)) vb rb K o) (Var pb #[.bool false,.complex .f64 0 0] 39)) S w w1)=>(hf.elim (fun h=>h.2 w1) (fun h=>absurd (hk7.symm.trans h.1) (by decide))).l.l.l.on gg
 have HCC:=zz fun w1 pb (hk8:K=8) (gg:aA (Sep (SF (Sep (aE A c q) (aT b t ov lg n {x with addr:=(gw:Int),ref:=true} l X)) vb rb K o) (Var pb #[.bool false,.complex .f64 0 0] 39)) S w w1)=>(hf.elim (fun h=>absurd (h.1.symm.trans hk8) (by decide)) (fun h=>h.2.1 w1)).l.l.l.on gg
 have HSS:=zz fun w1 pb (hk8:K=8) (gg:aA (Sep (SF O2 vb rb K o) (Var pb #[.bool false,.complex .f64 0 0] 39)) S w w1)=>(hf.elim (fun h=>absurd (h.1.symm.trans hk8) (by decide)) (fun h=>h.2.2 w1)).l.l.l.on gg
 have hk78:K=7∨K=8:=hf.imp (fun h=>h.1) (fun h=>h.1)
 unfold Rs.v at*
 rw [hoc] at HL HO HP HRR HCC ⊢
 unfold SF opK aQ cfV at*
 clear h g0 g1 hoc hK hCK hOP hPL hf eg hc
 go_enter func149,ntmps149
 go_upto_region 1 with fail
 generalize (w.alloc _).alloc _=w1 at*
 go_still_tail 5,(by kernel_rfl)
 change wpList _ _ _ _ _ w1.drew
 generalize w1.drew=w2 at*
 go_wp2_with fail
 refine qz HL.out fun w3 hg=>?_
 have HC:=zz (HO.out _ hg)
 clear HL HO c0 c1 c2 c3 c4 c5 c6 c7 c8 p0 p1 p2 p3 p4 p5
 obtain ⟨p0,p1,p2,p3,p4,p5⟩:=eB hg.l.r
 clear hg
 go_wp2_with fail
 refine qz HC.out fun w4 hg=>?_
 clear HC p0 p1 p2 p3 p4 p5
 have HPC:=zz (HP.out _ hg)
 obtain ⟨p0,p1,p2,p3,p4,p5⟩:=eB hg.l.r
 clear HP hg
 go_wp2_with fail
 refine qz HPC.out fun w5 hg=>?_
 have g6:=hg.moreSt (St.fresh #[.bool false,.complex .f64 0 0] 39)
 obtain ⟨pb,hpb⟩:∃ k,w5.heap.size=k:=⟨_,rfl⟩
 rw [hpb] at g6
 clear HPC p0 p1 p2 p3 p4 p5 hg
 have v0:=g6.r.vb 0 false
 have v1:=g6.r.vC 1 (.complex .f64 0 0)
 obtain ⟨p0,p1,p2,p3,p4,p5⟩:=eB g6.l.l.r
 go_upto_region 9 with fail
 generalize w5.alloc _=w6 at*
 clear v0 v1
 rcases hk78 with rfl|rfl<;>(
  go_upto_region 21 with fail
  clear p0 p1 p2 p3 p4 p5
  have g7:=g6.drew_
  clear g6
  have HGC:=zz (HGL.out _ _ g7)
  clear HGL
  refine wp_region_held_drew (S:=fun w'=>w'.cell? ⟨A.b,0,none⟩=some (.int .i64 c.frags)∧w'.cell? ⟨A.b,1,none⟩=some (.int .i64 c.spine)∧w'.cell? ⟨A.b,2,none⟩=some (.int .i64 c.globals)∧w'.cell? ⟨A.b,3,none⟩=some (.int .i64 c.threads)∧w'.cell? ⟨A.b,4,none⟩=some (.int .i64 c.locals)∧w'.cell? ⟨A.b,5,none⟩=some (.int .i64 0)∧w'.cell? ⟨A.b,6,none⟩=some (.int .i64 c.stack)∧w'.cell? ⟨A.b,7,none⟩=some (.int .i64 c.low)∧w'.cell? ⟨A.b,8,none⟩=some (.slice (some ⟨A.g,0,none⟩) c.shapes.length A.cap)∧w'.cell? ⟨vb,4,none⟩=some (.int .i64 (o.n:Int))) (by kernel_rfl) ⟨g7.l.l.l.l.ci 0 c.frags,g7.l.l.l.l.ci 1 c.spine,g7.l.l.l.l.ci 2 c.globals,g7.l.l.l.l.ci 3 c.threads,g7.l.l.l.l.ci 4 c.locals,g7.l.l.l.l.ci 5 0,g7.l.l.l.l.ci 6 c.stack,g7.l.l.l.l.ci 7 c.low,g7.l.l.l.l.cC 8 (.slice (some ⟨A.g,0,none⟩) c.shapes.length A.cap),g7.l.l.r.vi 4 (o.n:Int)⟩ (fun hHeld=>?_)
  generalize w6.drew=w7 at*
  refine tk 0 ?_
  refine tk 1 ?_
  refine tk 2 ?_
  refine tk 3 ?_
  refine tk 4 ?_
  refine tk 5 ?_
  refine tk 6 ?_
  refine rdy 7 fun K hK=>?_
  go_simp
  refine qz HGC.out fun w8 hg=>?_
  clear HGC hHeld g7
  go_wp2_with fail
  refine hon hK ⟨hg.l.l.l.l.ci 0 c.frags,hg.l.l.l.l.ci 1 c.spine,hg.l.l.l.l.ci 2 c.globals,hg.l.l.l.l.ci 3 c.threads,hg.l.l.l.l.ci 4 c.locals,hg.l.l.l.l.ci 5 0,hg.l.l.l.l.ci 6 c.stack,hg.l.l.l.l.ci 7 c.low,hg.l.l.l.l.cC 8 (.slice (some ⟨A.g,0,none⟩) c.shapes.length A.cap),hg.l.l.r.vi 4 (o.n:Int)⟩ fun hHeld=>?_
  clear hK K
  refine tk 8 ?_
  refine tk 9 ?_
  refine tk 10 ?_
  refine tk 11 ?_
  refine tk 12 ?_
  refine tk 13 ?_
  have c13:=hg.l.l.l.r.ci 13 x.addr
  have f13:=hg.l.l.l.r.fr 13
  have g9:=hg.then (aG (aG (aG (fun S h=>aH (B':=aT b t ov lg n {x with addr:=(gw:Int)} l X) (fun S h=>(aA.begin h).put 13 (.int .i64 (gw:Int)) (cs':=aM t ov (.slice (some ⟨lg,0,none⟩) n n) {x with addr:=(gw:Int)}) rfl) S h))))
  clear hHeld hg
  have hg:=g9
  clear g9
  refine rdy 14 fun K hK=>?_
  go_simp
  go_wp2_with fail
  refine hon hK ⟨hg.l.l.l.l.ci 0 c.frags,hg.l.l.l.l.ci 1 c.spine,hg.l.l.l.l.ci 2 c.globals,hg.l.l.l.l.ci 3 c.threads,hg.l.l.l.l.ci 4 c.locals,hg.l.l.l.l.ci 5 0,hg.l.l.l.l.ci 6 c.stack,hg.l.l.l.l.ci 7 c.low,hg.l.l.l.l.cC 8 (.slice (some ⟨A.g,0,none⟩) c.shapes.length A.cap),hg.l.l.r.vi 4 (o.n:Int)⟩ fun hHeld=>?_
  clear hK K
  refine wpAnyH_done (by kernel_rfl) ?_ _
  clear hHeld c13 f13
  generalize World.setCell _ _ _=w9 at*
  have c14:=hg.l.l.l.r.cb 14 x.ref
  have f14:=hg.l.l.l.r.fr 14
  have g10:=hg.then (aG (aG (aG (fun S h=>aH (B':=aT b t ov lg n {x with addr:=(gw:Int),ref:=true} l X) (fun S h=>(aA.begin h).put 14 (.bool true) (cs':=aM t ov (.slice (some ⟨lg,0,none⟩) n n) {x with addr:=(gw:Int),ref:=true}) rfl) S h))))
  clear hg
  go_upto_region 23 with fail
  generalize w9.setCell _ _=w10 at*
  clear c14 f14
  obtain ⟨p0,p1,p2,p3,p4,p5⟩:=eB g10.l.l.r)
 · have HRC:=zz (HRR.out _ _ trivial g10)
   clear HRR HCC HSS g10
   go_wp2_with fail
   refine qz HRC.out fun w11 hgx=>?_
   have hg:=hgx.l
   clear HRC hgx p0 p1 p2 p3 p4 p5
   have q0_:=hg.r.vi 0 0
   have p0_:=hg.r.vf 0
   have q1_:=hg.r.vi 1 0
   have p1_:=hg.r.vf 1
   have q2_:=hg.r.vi 2 0
   have p2_:=hg.r.vf 2
   have q3_:=hg.r.vb 3 false
   have p3_:=hg.r.vf 3
   have q4_:=hg.r.vC 4 (.complex .f64 0 0)
   have p4_:=hg.r.vf 4
   have g8_:=hg.then (aH (fun S h=>(aA.begin h).p5 (.int .i64 (rv.nx)) (.int .i64 (rv.own)) (.int .i64 (rv.er)) (.bool (rv.r)) (.complex .f64 rv.z1 rv.z2)))
   have k0_:=g8_.r.vi 0 (rv.nx)
   have k1_:=g8_.r.vi 1 (rv.own)
   have k2_:=g8_.r.vi 2 (rv.er)
   have k3_:=g8_.r.vb 3 (rv.r)
   have k4_:=g8_.r.vC 4 (.complex .f64 rv.z1 rv.z2)
   have HF:=zz g8_.l
   clear hg g8_
   go_wp2_with fail
   (try rw [aI])
   exact bodyPost_ret (v:=.tuple #[.agg #[.int .i64 (rv.nx),.int .i64 (rv.own),.int .i64 (rv.er),.bool (rv.r),.complex .f64 rv.z1 rv.z2],.bool rv.d]) (by simp [results,results149,go_sem,k0_,k1_,k2_,k3_,k4_]) rfl ⟨rfl,HF.out.l⟩
 · have HRC:=zz (HCC.out _ _ trivial g10)
   clear HRR HCC g10
   go_wp2_with fail
   refine qz HRC.out fun w11 hg=>?_
   have HR2:=zz (HSS.out _ _ trivial hg)
   clear HRC hg HSS p0 p1 p2 p3 p4 p5
   go_wp2_with fail
   refine qz HR2.out fun w12 hgx=>?_
   have hg:=hgx.l
   clear HR2 hgx
   have q0_:=hg.r.vi 0 0
   have p0_:=hg.r.vf 0
   have q1_:=hg.r.vi 1 0
   have p1_:=hg.r.vf 1
   have q2_:=hg.r.vi 2 0
   have p2_:=hg.r.vf 2
   have q3_:=hg.r.vb 3 false
   have p3_:=hg.r.vf 3
   have q4_:=hg.r.vC 4 (.complex .f64 0 0)
   have p4_:=hg.r.vf 4
   have g8_:=hg.then (aH (fun S h=>(aA.begin h).p5 (.int .i64 (rv.nx)) (.int .i64 (rv.own)) (.int .i64 (rv.er)) (.bool (rv.r)) (.complex .f64 rv.z1 rv.z2)))
   have k0_:=g8_.r.vi 0 (rv.nx)
   have k1_:=g8_.r.vi 1 (rv.own)
   have k2_:=g8_.r.vi 2 (rv.er)
   have k3_:=g8_.r.vb 3 (rv.r)
   have k4_:=g8_.r.vC 4 (.complex .f64 rv.z1 rv.z2)
   have HF:=zz g8_.l
   clear hg g8_
   go_wp2_with fail
   (try rw [aI])
   exact bodyPost_ret (v:=.tuple #[.agg #[.int .i64 (rv.nx),.int .i64 (rv.own),.int .i64 (rv.er),.bool (rv.r),.complex .f64 rv.z1 rv.z2],.bool rv.d]) (by simp [results,results149,go_sem,k0_,k1_,k2_,k3_,k4_]) rfl ⟨rfl,HF.out.l⟩
end
end Go.Proofs.YtgcmiahhkalfmaaGreat
