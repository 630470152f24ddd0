import Derived.Test.YtgcmiahhkalfmaaGreatM24
set_option maxRecDepth 100000
set_option maxHeartbeats 8000000
set_option linter.unusedVariables false
set_option linter.unusedSimpArgs false
namespace Go.Proofs.YtgcmiahhkalfmaaGreat
section
attribute [local go_sem] aF aI aO aV
open Go.Proofs.Tryz
open Go.RowKit
variable {ag:Array Value} {A:CA} {f:FuncId} {K:Int} {b t:Nat} {S:Nat→Prop} {o:OpR} {O:aC} {w w':World}
structure WCells (b og oo no oc nx:Nat) (at_:Int) (o:OpR) (w:World):Prop where
 c1:w.cell? ⟨b,1,none⟩=some (.slice (some ⟨og,oo,none⟩) no oc)
 c6:w.cell? ⟨b,6,none⟩=some (.int .i64 (nx:Int))
 c11:w.cell? ⟨b,11,none⟩=some (.int .i64 at_)
 p0:w.cell? ⟨og,oo+nx*6,none⟩=some (.int .i64 (o.kd:Int))
 p1:w.cell? ⟨og,oo+nx*6+1,none⟩=some (.int .i64 (o.a:Int))
 p2:w.cell? ⟨og,oo+nx*6+2,none⟩=some (.int .i64 (o.b:Int))
 p3:w.cell? ⟨og,oo+nx*6+3,none⟩=some (.int .i64 (o.c:Int))
 p4:w.cell? ⟨og,oo+nx*6+4,none⟩=some (.int .i64 (o.n:Int))
 p5:w.cell? ⟨og,oo+nx*6+5,none⟩=some (.complex .f64 o.z1 o.z2)
def zeroOp:Array Value:=#[.int .i64 0,.int .i64 0,.int .i64 0,.int .i64 0,.int .i64 0,.complex .f64 0 0]
section
variable {α:Type} {O':α→aC} {p:α→Prop} {og oo no oc nx:Nat} {rs:α→Rs}
def WCase (b:Nat) (A:CA) (o:OpR) (K:Int) (f:FuncId) (ag:Array Value):Prop:=
 (K=0∧f=149∧ag=#[.pointer (some ⟨b,0,none⟩),.pointer (some ⟨A.b,0,none⟩),.agg (opc o)])∨(K=2∧f=151∧ag=#[.pointer (some ⟨b,0,none⟩),.pointer (some ⟨A.b,0,none⟩),.agg (opc o)])∨(K=3∧f=156∧ag=#[.pointer (some ⟨b,0,none⟩),.pointer (some ⟨A.b,0,none⟩)])∨(K=4∧f=156∧ag=#[.pointer (some ⟨b,0,none⟩),.pointer (some ⟨A.b,0,none⟩)])∨(K=5∧f=156∧ag=#[.pointer (some ⟨b,0,none⟩),.pointer (some ⟨A.b,0,none⟩)])∨(K=6∧f=156∧ag=#[.pointer (some ⟨b,0,none⟩),.pointer (some ⟨A.b,0,none⟩)])∨(K=7∧f=152∧ag=#[.pointer (some ⟨b,0,none⟩),.pointer (some ⟨A.b,0,none⟩)])∨(K=8∧f=153∧ag=#[.pointer (some ⟨b,0,none⟩),.pointer (some ⟨A.b,0,none⟩),.agg (opc o)])
theorem act_within (hcs:WCase b A o K f ag) (hO:∀ S w,O.at_ S w→WCells b og oo no oc nx K o w) (hnx:nx<no)
 (hW:∀ w,aN prog f ag w O (fun y e=>e=.returned (rs y).v∧p y) O'):
 ∀ w,aN prog 77 #[.pointer (some ⟨b,0,none⟩),.pointer (some ⟨A.b,0,none⟩)] w O (fun y e=>e=.returned (rs y).v∧p y) O':=by
 intro w S h
 have g0:=(aA.begin h).moreSt (St.fresh #[.int .i64 0,.int .i64 0,.int .i64 0,.bool false,.complex .f64 0 0] 41)
 generalize hrb:w.heap.size=rb at g0
 have g1:=g0.drew_
 have HO:=zz hO
 have HW:=zz fun w (X:aC)=>(hW w).l (B:=X)
 have S1_:=And.intro (HO.out _ _ g1.l.is).c1 (And.intro (HO.out _ _ g1.l.is).c6 (And.intro (HO.out _ _ g1.l.is).p0 (And.intro (HO.out _ _ g1.l.is).p1 (And.intro (HO.out _ _ g1.l.is).p2 (And.intro (HO.out _ _ g1.l.is).p3 (And.intro (HO.out _ _ g1.l.is).p4 (HO.out _ _ g1.l.is).p5))))))
 have hlt:(nx:Int)<(no:Int):=by omega
 unfold WCase at hcs
 unfold Rs.v opc at*
 clear h g0 hO hW
 go_enter func77,ntmps77
 go_upto_region 1 with fail
 generalize w.alloc _=w1 at*
 refine wp_region_held_drew (S:=fun w'=>w'.cell? ⟨b,1,none⟩=some (.slice (some ⟨og,oo,none⟩) no oc)∧w'.cell? ⟨b,6,none⟩=some (.int .i64 (nx:Int))∧w'.cell? ⟨og,oo+nx*6,none⟩=some (.int .i64 (o.kd:Int))∧w'.cell? ⟨og,oo+nx*6+1,none⟩=some (.int .i64 (o.a:Int))∧w'.cell? ⟨og,oo+nx*6+2,none⟩=some (.int .i64 (o.b:Int))∧w'.cell? ⟨og,oo+nx*6+3,none⟩=some (.int .i64 (o.c:Int))∧w'.cell? ⟨og,oo+nx*6+4,none⟩=some (.int .i64 (o.n:Int))∧w'.cell? ⟨og,oo+nx*6+5,none⟩=some (.complex .f64 o.z1 o.z2)) (by kernel_rfl) S1_ (fun hHeld=>?_)
 generalize w1.drew=wd at*
 refine tk 0 ?_
 refine tk 1 ?_
 refine tk 2 ?_
 refine tk 3 ?_
 refine tk 4 ?_
 refine tk 5 ?_
 refine tk 6 ?_
 refine tk 7 ?_
 refine tk 8 ?_
 refine tk 9 ?_
 refine rdy 10 fun K hK=>?_
 go_simp
 have g2:=g1.moreSt (St.fresh #[.int .i64 0,.int .i64 0,.int .i64 0,.int .i64 0,.int .i64 0,.complex .f64 0 0] 27)
 refine hK.out _ _ (And.intro (HO.out _ _ g2.l.l.is).c1 (And.intro (HO.out _ _ g2.l.l.is).c6 (And.intro (HO.out _ _ g2.l.l.is).p0 (And.intro (HO.out _ _ g2.l.l.is).p1 (And.intro (HO.out _ _ g2.l.l.is).p2 (And.intro (HO.out _ _ g2.l.l.is).p3 (And.intro (HO.out _ _ g2.l.l.is).p4 (HO.out _ _ g2.l.l.is).p5))))))) (fun hHeld=>?_)
 clear hK K S1_ g1
 generalize wd.heap.size=ab at*
 generalize wd.alloc _=we at*
 try simp only [Act.put,List.setIfInBounds_toArray,List.set_cons_zero,List.set_cons_succ]
 have q0:=g2.r.vi 0 0
 have f0:=g2.r.vf 0
 have q1:=g2.r.vi 1 0
 have f1:=g2.r.vf 1
 have q2:=g2.r.vi 2 0
 have f2:=g2.r.vf 2
 have q3:=g2.r.vi 3 0
 have f3:=g2.r.vf 3
 have q4:=g2.r.vi 4 0
 have f4:=g2.r.vf 4
 have q5:=g2.r.vC 5 (.complex .f64 0 0)
 have f5:=g2.r.vf 5
 have g3:=g2.then (aH (fun S h=>((((((aA.begin h).vput 0 (.int .i64 (o.kd:Int)) rfl).vput 1 (.int .i64 (o.a:Int)) rfl).vput 2 (.int .i64 (o.b:Int)) rfl).vput 3 (.int .i64 (o.c:Int)) rfl).vput 4 (.int .i64 (o.n:Int)) rfl).vput 5 (.complex .f64 o.z1 o.z2) rfl))
 refine rdy 11 fun K hK=>?_
 go_simp
 refine hK.out _ _ (And.intro (HO.out _ _ g3.l.l.is).c1 (And.intro (HO.out _ _ g3.l.l.is).c6 (And.intro (HO.out _ _ g3.l.l.is).p0 (And.intro (HO.out _ _ g3.l.l.is).p1 (And.intro (HO.out _ _ g3.l.l.is).p2 (And.intro (HO.out _ _ g3.l.l.is).p3 (And.intro (HO.out _ _ g3.l.l.is).p4 (HO.out _ _ g3.l.l.is).p5))))))) (fun hHeld=>?_)
 clear hK K hHeld g2 q0 q1 q2 q3 q4 q5 f0 f1 f2 f3 f4 f5
 try simp only [Act.put,List.setIfInBounds_toArray,List.set_cons_zero,List.set_cons_succ]
 refine wpAnyH_done (by kernel_rfl) ?_ _
 generalize World.setCell (World.setCell (World.setCell (World.setCell (World.setCell (World.setCell _ _ _) _ _) _ _) _ _) _ _) _ _=wf at*
 have c11:=(HO.out _ _ g3.l.l.is).c11
 have g4:aA (Sep (Sep O (Var rb #[.int .i64 0,.int .i64 0,.int .i64 0,.bool false,.complex .f64 0 0] 41)) (Var ab #[.int .i64 (o.kd:Int),.int .i64 (o.a:Int),.int .i64 (o.b:Int),.int .i64 (o.c:Int),.int .i64 (o.n:Int),.complex .f64 o.z1 o.z2] 27)) S w wf:=g3
 have p0:=g4.r.vi 0 (o.kd:Int)
 have p1:=g4.r.vi 1 (o.a:Int)
 have p2:=g4.r.vi 2 (o.b:Int)
 have p3:=g4.r.vi 3 (o.c:Int)
 have p4:=g4.r.vi 4 (o.n:Int)
 have p5:=g4.r.vC 5 (.complex .f64 o.z1 o.z2)
 have HC:=zz (aN.on (aN.l (HW.out wf (Var rb #[.int .i64 0,.int .i64 0,.int .i64 0,.bool false,.complex .f64 0 0] 41)) (B:=Var ab #[.int .i64 (o.kd:Int),.int .i64 (o.a:Int),.int .i64 (o.b:Int),.int .i64 (o.c:Int),.int .i64 (o.n:Int),.complex .f64 o.z1 o.z2] 27)) g4)
 clear g3 g4 HO HW hlt hnx
 rcases hcs with ⟨rfl,rfl,rfl⟩|⟨rfl,rfl,rfl⟩|⟨rfl,rfl,rfl⟩|⟨rfl,rfl,rfl⟩|⟨rfl,rfl,rfl⟩|⟨rfl,rfl,rfl⟩|⟨rfl,rfl,rfl⟩|⟨rfl,rfl,rfl⟩<;>(
  go_wp2_with fail
  with_reducible refine HC.out.mono ?_
  rintro e w3 ⟨y,⟨rfl,hp⟩,hgx⟩
  have hg:=hgx.l
  have HP:=zz hp
  clear HC hgx hp c11 p0 p1 p2 p3 p4 p5
  have q0_:=hg.r.vi 0 0
  have p0_:=hg.r.vf 0
  have q1_:=hg.r.vi 1 0
  have p1_:=hg.r.vf 1
  have q2_:=hg.r.vi 2 0
  have p2_:=hg.r.vf 2
  have q3_:=hg.r.vb 3 false
  have p3_:=hg.r.vf 3
  have q4_:=hg.r.vC 4 (.complex .f64 0 0)
  have p4_:=hg.r.vf 4
  have g8_:=hg.then (aH (fun S h=>(aA.begin h).p5 (.int .i64 ((rs y).nx)) (.int .i64 ((rs y).own)) (.int .i64 ((rs y).er)) (.bool ((rs y).r)) (.complex .f64 (rs y).z1 (rs y).z2)))
  have k0_:=g8_.r.vi 0 ((rs y).nx)
  have k1_:=g8_.r.vi 1 ((rs y).own)
  have k2_:=g8_.r.vi 2 ((rs y).er)
  have k3_:=g8_.r.vb 3 ((rs y).r)
  have k4_:=g8_.r.vC 4 (.complex .f64 (rs y).z1 (rs y).z2)
  have HF:=zz g8_.l
  clear hg g8_
  go_wp2_with fail
  (try rw [aI])
  exact bodyPost_ret (v:=.tuple #[.agg #[.int .i64 ((rs y).nx),.int .i64 ((rs y).own),.int .i64 ((rs y).er),.bool ((rs y).r),.complex .f64 (rs y).z1 (rs y).z2],.bool (rs y).d]) (by simp [results,results77,go_sem,k0_,k1_,k2_,k3_,k4_]) rfl ⟨y,⟨rfl,HP.out⟩,HF.out⟩)
end
end
section
open Go.Proofs.Tryz
open Go.RowKit
variable {ag:Array Value} {K:CA} {c:Cf} {e:Ending} {f:FuncId} {ow:Int} {b lg:Nat} {l l':Nat→Lc} {o:Nat→Opn} {S:Nat→Prop} {q q':Sw.Q} {rs:Sw.Rs} {p p':Sw.T} {x x':Tc} {X:aC} {w w':World}
def wd (F:Nat) (y:Nat→Nat):Nat→Nat→List Value
 | _,0=>[]
 | k,n+1=>.int .i64 ((F*8+k:Nat):Int)::.complex .f64 (fl 0) (y k)::wd F y (k+1) n
theorem wd_all (F:Nat) (y:Nat→Nat):wc F y 8=wd F y 0 8:=by
 simp [wd,wc]
def opL (o:Nat→Opn):Nat→List Value
 | 0=>[]
 | n+1=>opL o n++(opc (o n).r).toList
theorem opL_len (o:Nat→Opn) (n:Nat):(opL o n).length=n*6:=by
 induction n with
 | zero=>rfl
 | succ n ih=>simp [opL,ih,opc];omega
theorem opL_get (o:Nat→Opn) (n i j:Nat) (hi:i<n) (hj:j<6):(opL o n)[i*6+j]? = (opc (o i).r)[j]? := by
 induction n with
 | zero=>omega
 | succ n ih=>
  rw [opL,List.getElem?_append]
  rw [opL_len]
  by_cases h:i<n
  · rw [if_pos (by omega),ih h]
  · obtain rfl:i=n:=by omega
    rw [if_neg (by omega),show i*6+j-i*6=j by omega]
    simp
def Ops (v:Value) (no:Nat) (o:Nat→Opn):aC:=Seq 6 v no (opL o no)
structure TA where
 b:Nat
 og:Nat
 oo:Nat
 oc:Nat
 lg:Nat
def TA.ov (a:TA) (no:Nat):Value:=.slice (some ⟨a.og,a.oo,none⟩) no a.oc
def ThP (c:Cf) (a:TA) (t no:Nat) (o:Nat→Opn) (x:Tc) (l:Nat→Lc) (E:aC):aC:=aT a.b t (a.ov no) a.lg c.locals x l (Sep (Ops (a.ov no) no o) E)
structure eH (p:Sw.T) (x:Tc):Prop where
 ph:x.ph=p.ph
 st:x.st=p.st
 sn:x.sn=p.sn
 nx:x.nx=p.nx
 pc:x.pc=p.pc
 seen:p.ph=1∨p.ph=3→p.pc=1∨p.pc=2→x.seen=p.seen
 at_:p.ph=2→x.at_=p.at_
 ad:p.ph=2→2≤p.at_→p.at_≤6→x.addr=(p.ad:Nat)∧x.ref=p.rf
 w:p.ph=2→3≤p.at_→p.at_≤6→x.w1=fl p.w.k∧x.w2=fl p.w.i
 old:p.ph=2→p.at_=4→x.o1=fl p.old.k∧x.o2=fl p.old.i
def ThK (c:Cf) (p:Sw.T) (x:Tc):aC:=
 if p.ph=2 then (if p.at_=7 then Sep (Got x.got p.got) (Seq 2 x.wr (8-p.wk) (wd p.got (yl c.refs) p.wk (8-p.wk))) else if p.at_=8 then Got x.got p.got else Emp)
 else if (p.ph=1∨p.ph=3)∧p.pc=1 then Gry x.grey p.grey else Emp
def ThO (c:Cf) (a:TA) (t no:Nat) (o:Nat→Opn) (p:Sw.T):aC:=Ex fun x:Tc=>Pu (eH p x) (ThP c a t no o x p.l (ThK c p x))
def rsV (r:Sw.Rs) (ow:Int):Value:=Rs.v ⟨r.nx,ow,r.er,r.r,fl r.z.k,fl r.z.i,r.d⟩
def bG (A:CA) (c:Cf) (a:TA) (t no:Nat) (o:Nat→Opn) (q:Sw.Q) (p:Sw.T) (q':Sw.Q) (p':Sw.T) (rs:Sw.Rs):Prop:=
 ∀ w,aN prog 32 #[.pointer (some ⟨a.b,0,none⟩),.pointer (some ⟨A.b,0,none⟩)] w (Sep (aE A c q) (ThO c a t no o p)) (fun (ow:Int) e=>e=.returned (rsV rs ow)) (fun _=>Sep (aE A c q') (ThO c a t no o p'))
section
variable {A B C D E:aC} {a:TA} {t n no:Nat} {ov:Value}
theorem emp_add (h:A.at_ S w):(Sep A Emp).at_ S w:=⟨S,fun _=>False,h,fun _ h=>h,fun _ _ h=>h,fun _ h=>h,fun _ h=>h.elim,fun _ h=>.inl h⟩
theorem th_out (h:(Sep C (ThP c a t no o x l E)).at_ S w):(Sep (Sep C (aT a.b t (a.ov no) a.lg c.locals x l (Ops (a.ov no) no o))) E).at_ S w:=
 aB.assoc' (aB.monoR (fun _ h=>aB.assoc' (aB.monoR (fun _ h=>aB.assoc' h) h)) h)
theorem th_in (h:(Sep (Sep C (aT a.b t (a.ov no) a.lg c.locals x l (Ops (a.ov no) no o))) E).at_ S w):(Sep C (ThP c a t no o x l E)).at_ S w:=
 aB.monoR (fun _ h=>aB.monoR (fun _ h=>aB.assoc h) (aB.assoc h)) (aB.assoc h)
theorem th_emp (h:(Sep C (aT a.b t (a.ov no) a.lg c.locals x l (Ops (a.ov no) no o))).at_ S w):(Sep C (ThP c a t no o x l Emp)).at_ S w:=th_in (emp_add h)
theorem tho_open (h:(Sep C (ThO c a t no o p)).at_ S w):∃ x,eH p x∧(Sep C (ThP c a t no o x p.l (ThK c p x))).at_ S w:=by
 obtain ⟨S1,S2,h1,⟨x,hx,h2⟩,hr⟩:=h
 exact ⟨x,hx,S1,S2,h1,h2,hr⟩
theorem tr_pack (ok:eH p' x') (hE:ThK c p' x'=E) (hl:p'.l=l') (hg:aA (Sep (aE K c q') (ThP c a t no o x' l' E)) S w w') (he:e=.returned (rsV rs ow)):
 ∃ y:Int,e=.returned (rsV rs y)∧aA (Sep (aE K c q') (ThO c a t no o p')) S w w':=by
 subst hE hl
 exact ⟨ow,he,hg.conv fun S w h=>aB.monoR (fun _ h=>⟨x',ok,h⟩) h⟩
theorem tr_of (h:∀ x,eH p x→∀ S w,(Sep (aE K c q) (ThP c a t no o x p.l (ThK c p x))).at_ S w→
 Calls prog 32 #[.pointer (some ⟨a.b,0,none⟩),.pointer (some ⟨K.b,0,none⟩)] w fun e w'=>∃ (ow:Int) (x':Tc) (E:aC),e=.returned (rsV rs ow)∧eH p' x'∧ThK c p' x'=E∧aA (Sep (aE K c q') (ThP c a t no o x' p'.l E)) S w w'):
 bG K c a t no o q p q' p' rs:=by
 intro w S hs
 obtain ⟨x,ok,hx⟩:=tho_open hs
 exact (h x ok S w hx).mono fun e w' ⟨ow,x',E,he,ok',hE,hg⟩=>tr_pack ok' hE rfl hg he
theorem th_ph (h:(Sep C (ThP c a t no o x l E)).at_ S w):w.cell? ⟨a.b,3,none⟩=some (.int .i64 x.ph):=(aA.begin h).r.c 3 rfl
theorem th_pc (h:(Sep C (ThP c a t no o x l E)).at_ S w):w.cell? ⟨a.b,7,none⟩=some (.int .i64 x.pc):=(aA.begin h).r.c 7 rfl
theorem th_wcells (hnx:x.nx<no) (h:(ThP c a t no o x l E).at_ S w):WCells a.b a.og a.oo no a.oc x.nx x.at_ (o x.nx).r w:=by
 have g:=aA.begin h
 have gs:=g.r.r.l
 have hp:∀ j,j<6→∀ v,(opc (o x.nx).r)[j]? = some v→w.cell? ⟨a.og,a.oo+x.nx*6+j,none⟩=some v:=fun j hj v hv=>by
  rw [Nat.add_assoc]
  exact gs.seq (by rw [opL_get o no x.nx j hnx hj];exact hv)
 exact ⟨g.cC 1 (a.ov no),g.ci 6 (x.nx:Int),g.ci 11 x.at_,hp 0 (by omega) _ rfl,hp 1 (by omega) _ rfl,hp 2 (by omega) _ rfl,hp 3 (by omega) _ rfl,hp 4 (by omega) _ rfl,hp 5 (by omega) _ rfl⟩
theorem eI (hph:p.ph=1) (hrs:rs=Sw.rs0) (h:∀ x,eH p x→∀ S w,(Sep (aE K c q) (ThP c a t no o x p.l (ThK c p x))).at_ S w→
 Calls prog 76 #[.pointer (some ⟨a.b,0,none⟩),.pointer (some ⟨K.b,0,none⟩)] w fun e w'=>∃ y:Tc×aC,(e=.returned (.tuple #[])∧eH p' y.1∧ThK c p' y.1=y.2)∧aA (Sep (aE K c q') (ThP c a t no o y.1 p'.l y.2)) S w w'):
 bG K c a t no o q p q' p' rs:=by
 subst hrs
 refine tr_of fun x ok S w hx=>?_
 refine (act_step_border (O:=Sep (aE K c q) (ThP c a t no o x p.l (ThK c p x))) (fun S w h=>by rw [th_ph h,ok.ph,hph]) (fun w S hs=>h x ok S w hs) w S hx).mono ?_
 rintro e w' ⟨y,⟨he,ok',hE⟩,hg⟩
 exact ⟨0,y.1,y.2,by rw [he];unfold idle rsV Rs.v Sw.rs0 Sw.w0;simp only [fl0];rfl,ok',hE,hg⟩
theorem bQ (hph:p.ph=2) (hnx:p.nx<no) (hcs:WCase a.b K (o p.nx).r p.at_ f ag)
 (h:∀ x,eH p x→∀ S w,(Sep (aE K c q) (ThP c a t no o x p.l (ThK c p x))).at_ S w→
   Calls prog f ag w fun e w'=>∃ (y:Tc×aC),(∃ z,e=.returned (rsV rs z))∧(eH p' y.1∧ThK c p' y.1=y.2)∧aA (Sep (aE K c q') (ThP c a t no o y.1 p'.l y.2)) S w w'):
 bG K c a t no o q p q' p' rs:=by
 refine tr_of fun x ok S w hx=>?_
 have hx2:∀ y:Tc,y={x with own:=wrap64 (x.own+1)}→eH p y∧ThK c p y=ThK c p x:=fun y hy=>by
  subst hy;exact ⟨⟨ok.ph,ok.st,ok.sn,ok.nx,ok.pc,ok.seen,ok.at_,ok.ad,ok.w,ok.old⟩,rfl⟩
 obtain ⟨ok2,hK⟩:=hx2 _ rfl
 have H:=act_step_within (α:=Int×Tc×aC) (q:=q) (A:=K) (c:=c) (b:=a.b) (t:=t) (ov:=a.ov no) (lv:=.slice (some ⟨a.lg,0,none⟩) c.locals c.locals) (x:=x) (X:=Sep (bV a.lg (c.locals*2) 39 (cG p.l)) (Sep (Ops (a.ov no) no o) (ThK c p x)))
  (rs:=fun y=>⟨rs.nx,y.1,rs.er,rs.r,fl rs.z.k,fl rs.z.i,rs.d⟩) (p:=fun y=>eH p' y.2.1∧ThK c p' y.2.1=y.2.2) (O':=fun y=>Sep (aE K c q') (ThP c a t no o y.2.1 p'.l y.2.2)) (by rw [ok.ph,hph]) ?_ w S hx
 · refine H.mono ?_
   rintro e w' ⟨⟨z,x',E⟩,⟨he,ok',hE⟩,hg⟩
   exact ⟨z,x',E,he,ok',hE,hg⟩
 · refine act_within (og:=a.og) (oo:=a.oo) (oc:=a.oc) (no:=no) (nx:=p.nx) hcs (fun S w h=>?_) hnx fun w S hs=>?_
   · have h2:(Sep (aE K c q) (ThP c a t no o {x with own:=wrap64 (x.own+1)} p.l (ThK c p x))).at_ S w:=h
     obtain ⟨S1,S2,h1,h3,hr⟩:=h2
     have:=th_wcells (by rw [ok2.nx];exact hnx) h3
     rw [ok2.nx,ok2.at_ hph] at this
     exact this
   · have h2:(Sep (aE K c q) (ThP c a t no o {x with own:=wrap64 (x.own+1)} p.l (ThK c p {x with own:=wrap64 (x.own+1)}))).at_ S w:=hs
     refine (h _ ok2 S w h2).mono ?_
     rintro e w' ⟨y,⟨z,he⟩,hy,hg⟩
     exact ⟨(z,y.1,y.2),⟨he,hy⟩,hg⟩
theorem gR (hph:p.ph=3) (h:∀ x,eH p x→∀ S w,(Sep (aE K c q) (ThP c a t no o x p.l (ThK c p x))).at_ S w→
 Calls prog 78 #[.pointer (some ⟨a.b,0,none⟩),.pointer (some ⟨K.b,0,none⟩)] w fun e w'=>∃ (y:Tc×aC),(∃ z,e=.returned (rsV rs z))∧(eH p' y.1∧ThK c p' y.1=y.2)∧aA (Sep (aE K c q') (ThP c a t no o y.1 p'.l y.2)) S w w'):
 bG K c a t no o q p q' p' rs:=by
 refine tr_of fun x ok S w hx=>?_
 have ok2:eH p {x with own:=wrap64 (x.own+1)}:=⟨ok.ph,ok.st,ok.sn,ok.nx,ok.pc,ok.seen,ok.at_,ok.ad,ok.w,ok.old⟩
 have H:=act_step_waiting (α:=Int×Tc×aC) (q:=q) (A:=K) (c:=c) (b:=a.b) (t:=t) (ov:=a.ov no) (lv:=.slice (some ⟨a.lg,0,none⟩) c.locals c.locals) (x:=x) (X:=Sep (bV a.lg (c.locals*2) 39 (cG p.l)) (Sep (Ops (a.ov no) no o) (ThK c p x)))
  (rs:=fun y=>⟨rs.nx,y.1,rs.er,rs.r,fl rs.z.k,fl rs.z.i,rs.d⟩) (p:=fun y=>eH p' y.2.1∧ThK c p' y.2.1=y.2.2) (O':=fun y=>Sep (aE K c q') (ThP c a t no o y.2.1 p'.l y.2.2)) (by rw [ok.ph,hph]) ?_ w S hx
 · refine H.mono ?_
   rintro e w' ⟨⟨z,x',E⟩,⟨he,ok',hE⟩,hg⟩
   exact ⟨z,x',E,he,ok',hE,hg⟩
 · intro w S hs
   have h2:(Sep (aE K c q) (ThP c a t no o {x with own:=wrap64 (x.own+1)} p.l (ThK c p {x with own:=wrap64 (x.own+1)}))).at_ S w:=hs
   refine (h _ ok2 S w h2).mono ?_
   rintro e w' ⟨y,⟨z,he⟩,hy,hg⟩
   exact ⟨(z,y.1,y.2),⟨he,hy⟩,hg⟩
end
end
section
attribute [local go_sem] aF
open Go.Proofs.Tryz
open Go.RowKit
variable {args:Array Value} {c:Cf} {fi:FuncId} {S:Nat→Prop} {P:Program} {x:SpX} {q:Sw.Q} {r:Sw.Rq} {w w':World}
section
variable {b bs bt:Nat} {z:Sl}
theorem tw_of0 (hl:q.ln=some r) (h1:r.st≠1) (w:World):aJ prog 238 #[.pointer (some ⟨x.w,0,none⟩),.int .i64 0] w (cV bs b bt c q x) (.tuple #[rqV r (.slice none 0 0),.bool true]) (cV bs b bt c q x):=by
 obtain ⟨m,t,pl,lo,fr,ln,st,sn,own⟩:=q
 simp only at hl
 subst hl
 exact tw_ln (q:=⟨m,t,pl,lo,fr,some r,st,sn,own⟩) (lq_Of h1 w)
theorem tw_of1 (hl:q.ln=some r) (h1:r.st=1) (w:World):aN prog 238 #[.pointer (some ⟨x.w,0,none⟩),.int .i64 0] w (cV bs b bt c q x) (fun (z:Sl) e=>e=.returned (.tuple #[rqV r (.slice z.1 z.2.1 z.2.2),.bool true])) (fun z=>Sep (cV bs b bt c q x) (Got (slV z) r.got)):=by
 obtain ⟨m,t,pl,lo,fr,ln,st,sn,own⟩:=q
 simp only at hl
 subst hl
 exact (lq_Of1 h1 w).lX.rX.rX.rX.rX.rX
theorem tw_drop (hl:q.ln=some r) (w:World):aJ prog 240 #[.pointer (some ⟨x.w,0,none⟩),.int .i64 0] w (cV bs b bt c q x) (.bool true) (cV bs b bt c {q with ln:=none} x):=by
 obtain ⟨m,t,pl,lo,fr,ln,st,sn,own⟩:=q
 simp only at hl
 subst hl
 exact tw_ln (q:=⟨m,t,pl,lo,fr,some r,st,sn,own⟩) (lq_drop w)
theorem sp_look0 (hl:q.ln=some r) (h0:r.st=0) (w:World):aJ prog 157 #[.pointer (some ⟨b,0,none⟩),.int .i64 0] w (Two bs b bt c q) (.agg #[.int .i64 0,.slice none 0 0,.int .i64 (-1)]) (Two bs b bt c q):=by
 intro S h
 obtain ⟨x,h⟩:=dY h
 have g0:=(aA.begin h).moreSt (St.fresh #[.int .i64 0,.slice none 0 0,.int .i64 0] 233)
 obtain ⟨rb,hrb⟩:∃ rb,w.heap.size=rb:=⟨_,rfl⟩
 rw [hrb] at g0
 have c3:=g0.l.r.ci 3 x.ct
 have f3:=g0.l.r.fr 3
 obtain ⟨x1,g1⟩:∃ x1,aA (TwR rb bs b bt c q x1 0 s0 0) S w ((w.alloc (.cells #[.int .i64 0,.slice none 0 0,.int .i64 0] 233)).setCell ⟨b,3,none⟩ (.int .i64 (wrap64 (x.ct+1)))):=
  ⟨{x with ct:=wrap64 (x.ct+1)},g0.then (aG (fun S h=>dX (aA.begin h)))⟩
 have c15:=g1.l.r.cp 15 x1.w
 have HO:=zz ((tw_of0 hl (by omega) _).l.on g1)
 have HA:=zz (And.intro hl h0)
 obtain ⟨st,hst⟩:∃ st,(r.st:Int)=st:=⟨_,rfl⟩
 have hs1:st=0:=by omega
 unfold rqV at HO
 rw [hst,hs1] at HO
 clear g0 g1 h hl h0 hst hs1
 go_enter func157,ntmps157
 go_upto_region 2 with fail
 generalize World.setCell _ _ _=w1 at*
 clear c3 f3
 go_wp2_with fail
 refine qz HO.out fun w3 hg=>?_
 have D:=Blk.new w3 #[.int .i64 0,.int .i64 1,.int .i64 0,.int .i64 0,.int .i64 (r.cy:Int),.int .i64 (-1),.slice none 0 0] 272
 have d3:=D.cell 3
 have HN:=zz ((sp_none 0 _).on (hg.alloc_ (.cells #[.int .i64 0,.int .i64 1,.int .i64 0,.int .i64 0,.int .i64 (r.cy:Int),.int .i64 (-1),.slice none 0 0] 272)))
 simp at d3
 clear hg HO c15 D
 go_wp2_with fail
 refine qz HN.out fun w4 hg=>?_
 have q0:=hg.r.vi 0 0
 have q1:=hg.r.vC 1 (.slice none 0 0)
 have q2_:=hg.r.vi 2 0
 have p0:=hg.r.vf 0
 have p1:=hg.r.vf 1
 have p2:=hg.r.vf 2
 have hA:=hg.then (aH (fun S h=>(((aA.begin h).vput 0 (.int .i64 0) rfl).vput 1 (.slice none 0 0) rfl).vput 2 (.int .i64 (-1)) rfl))
 have r0:=hA.r.vi 0 0
 have r1:=hA.r.vC 1 (.slice none 0 0)
 have r2:=hA.r.vi 2 (-1)
 have HX:=zz hA.l
 clear hg hA HN
 go_wp2_with fail
 exact bodyPost_ret (v:=.agg #[.int .i64 0,.slice none 0 0,.int .i64 (-1)]) (by simp [results,results157,go_sem,r0,r1,r2]) rfl ⟨rfl,HX.out.conv fun S w h=>aB.monoR (fun S h=>⟨x1,h⟩) h⟩
theorem sp_look2 (hl:q.ln=some r) (h0:r.st=2) (w:World):aJ prog 157 #[.pointer (some ⟨b,0,none⟩),.int .i64 0] w (Two bs b bt c q) (.agg #[.int .i64 2,.slice none 0 0,.int .i64 (-1)]) (Two bs b bt c {q with ln:=none}):=by
 intro S h
 obtain ⟨x,h⟩:=dY h
 have g0:=(aA.begin h).moreSt (St.fresh #[.int .i64 0,.slice none 0 0,.int .i64 0] 233)
 obtain ⟨rb,hrb⟩:∃ rb,w.heap.size=rb:=⟨_,rfl⟩
 rw [hrb] at g0
 have c3:=g0.l.r.ci 3 x.ct
 have f3:=g0.l.r.fr 3
 obtain ⟨x1,g1⟩:∃ x1,aA (TwR rb bs b bt c q x1 0 s0 0) S w ((w.alloc (.cells #[.int .i64 0,.slice none 0 0,.int .i64 0] 233)).setCell ⟨b,3,none⟩ (.int .i64 (wrap64 (x.ct+1)))):=
  ⟨{x with ct:=wrap64 (x.ct+1)},g0.then (aG (fun S h=>dX (aA.begin h)))⟩
 have c15:=g1.l.r.cp 15 x1.w
 have HO:=zz ((tw_of0 hl (by omega) _).l.on g1)
 have HA:=zz (And.intro hl h0)
 obtain ⟨st,hst⟩:∃ st,(r.st:Int)=st:=⟨_,rfl⟩
 have hs1:st=2:=by omega
 unfold rqV at HO
 rw [hst,hs1] at HO
 clear g0 g1 h hl h0 hst hs1
 go_enter func157,ntmps157
 go_upto_region 2 with fail
 generalize World.setCell _ _ _=w1 at*
 clear c3 f3
 go_wp2_with fail
 refine qz HO.out fun w3 hg=>?_
 have hg:=hg.moreSt (St.fresh #[.int .i64 0,.int .i64 1,.int .i64 0,.int .i64 2,.int .i64 (r.cy:Int),.int .i64 (-1),.slice none 0 0] 272)
 obtain ⟨kb,hkb⟩:∃ kb,w3.heap.size=kb:=⟨_,rfl⟩
 rw [hkb] at hg
 have d3:=hg.r.vi 3 2
 have c15:=hg.l.l.r.cp 15 x1.w
 have HD:=zz ((tw_drop HA.out.1 _).l.l.on hg)
 clear hg HO
 go_wp2_with fail
 refine qz HD.out fun w4 hg=>?_
 have d3:=hg.r.vi 3 2
 have HN:=zz ((sp_none 2 _).on hg.l)
 clear hg HD c15
 go_wp2_with fail
 refine qz HN.out fun w5 hg=>?_
 have q0:=hg.r.vi 0 0
 have q1:=hg.r.vC 1 (.slice none 0 0)
 have q2_:=hg.r.vi 2 0
 have p0:=hg.r.vf 0
 have p1:=hg.r.vf 1
 have p2:=hg.r.vf 2
 have hA:=hg.then (aH (fun S h=>(((aA.begin h).vput 0 (.int .i64 2) rfl).vput 1 (.slice none 0 0) rfl).vput 2 (.int .i64 (-1)) rfl))
 have r0:=hA.r.vi 0 2
 have r1:=hA.r.vC 1 (.slice none 0 0)
 have r2:=hA.r.vi 2 (-1)
 have HX:=zz hA.l
 clear hg hA HN
 go_wp2_with fail
 exact bodyPost_ret (v:=.agg #[.int .i64 2,.slice none 0 0,.int .i64 (-1)]) (by simp [results,results157,go_sem,r0,r1,r2]) rfl ⟨rfl,HX.out.conv fun S w h=>aB.monoR (fun S h=>⟨x1,h⟩) h⟩
theorem sp_look1 (hl:q.ln=some r) (h0:r.st=1) (w:World):aN prog 157 #[.pointer (some ⟨b,0,none⟩),.int .i64 0] w (Two bs b bt c q) (fun (z:Sl) e=>e=.returned (.agg #[.int .i64 1,.slice z.1 z.2.1 z.2.2,.int .i64 (-1)])) (fun z=>Sep (Two bs b bt c {q with ln:=none}) (Got (slV z) r.got)):=by
 intro S h
 obtain ⟨x,h⟩:=dY h
 have g0:=(aA.begin h).moreSt (St.fresh #[.int .i64 0,.slice none 0 0,.int .i64 0] 233)
 obtain ⟨rb,hrb⟩:∃ rb,w.heap.size=rb:=⟨_,rfl⟩
 rw [hrb] at g0
 have c3:=g0.l.r.ci 3 x.ct
 have f3:=g0.l.r.fr 3
 obtain ⟨x1,g1⟩:∃ x1,aA (TwR rb bs b bt c q x1 0 s0 0) S w ((w.alloc (.cells #[.int .i64 0,.slice none 0 0,.int .i64 0] 233)).setCell ⟨b,3,none⟩ (.int .i64 (wrap64 (x.ct+1)))):=
  ⟨{x with ct:=wrap64 (x.ct+1)},g0.then (aG (fun S h=>dX (aA.begin h)))⟩
 have c15:=g1.l.r.cp 15 x1.w
 have HO:=zz ((tw_of1 hl h0 _).lX.on g1)
 have HA:=zz (And.intro hl h0)
 obtain ⟨st,hst⟩:∃ st,(r.st:Int)=st:=⟨_,rfl⟩
 have hs1:st=1:=by omega
 unfold rqV at HO
 rw [hst,hs1] at HO
 clear g0 g1 h hl h0 hst hs1
 go_enter func157,ntmps157
 go_upto_region 2 with fail
 generalize World.setCell _ _ _=w1 at*
 clear c3 f3
 go_wp2_with fail
 with_reducible refine HO.out.mono ?_
 rintro e w3 ⟨⟨za,zn,zc⟩,rfl,hg⟩
 dsimp only
 have hg:=hg.moreSt (St.fresh #[.int .i64 0,.int .i64 1,.int .i64 0,.int .i64 1,.int .i64 (r.cy:Int),.int .i64 (-1),.slice za zn zc] 272)
 obtain ⟨kb,hkb⟩:∃ kb,w3.heap.size=kb:=⟨_,rfl⟩
 rw [hkb] at hg
 have d3:=hg.r.vi 3 1
 have c15:=hg.l.l.l.r.cp 15 x1.w
 have HD:=zz ((tw_drop HA.out.1 _).l.l.l.on hg)
 clear hg HO
 go_wp2_with fail
 refine qz HD.out fun w4 hg=>?_
 have d3:=hg.r.vi 3 1
 have d5:=hg.r.vi 5 (-1)
 have d6:=hg.r.vC 6 (.slice za zn zc)
 have hg:=hg.l.conv fun _ _ h=>aB.rot h
 have HN:=zz True.intro
 clear HD c15
 have q0:=hg.r.vi 0 0
 have q1:=hg.r.vC 1 (.slice none 0 0)
 have q2_:=hg.r.vi 2 0
 have p0:=hg.r.vf 0
 have p1:=hg.r.vf 1
 have p2:=hg.r.vf 2
 have hA:=hg.then (aH (fun S h=>(((aA.begin h).vput 0 (.int .i64 1) rfl).vput 1 (.slice za zn zc) rfl).vput 2 (.int .i64 (-1)) rfl))
 have r0:=hA.r.vi 0 1
 have r1:=hA.r.vC 1 (.slice za zn zc)
 have r2:=hA.r.vi 2 (-1)
 have HX:=zz hA.l
 clear hg hA HN
 go_wp2_with fail
 exact bodyPost_ret (v:=.agg #[.int .i64 1,.slice za zn zc,.int .i64 (-1)]) (by simp [results,results157,go_sem,r0,r1,r2]) rfl ⟨(za,zn,zc),rfl,HX.out.conv fun S w h=>aB.monoL (fun S h=>aB.monoR (fun S h=>⟨x1,h⟩) h) h⟩
end
end
section
attribute [local go_sem] aF aI aO aV
open Go.Proofs.Tryz
open Go.RowKit
variable {c:Cf} {S:Nat→Prop} {X:aC} {w w':World}
structure Hl where
 from_:Int
 sense:Bool
 pc:Int
 steps:Int
def lG (c:Cf) (g cap:Nat) (t:Hl):Array Value:=#[.int .i64 c.frags,.int .i64 c.spine,.int .i64 c.globals,.int .i64 c.threads,.int .i64 c.locals,.int .i64 0,.int .i64 c.stack,.int .i64 c.low,.slice (some ⟨g,0,none⟩) c.shapes.length cap,
 .int .i64 t.from_,.int .i64 0,.bool t.sense,.int .i64 t.pc,.int .i64 0,.int .i64 0,.int .i64 0,.int .i64 0,.int .i64 0,.complex .f64 0 0,.int .i64 0,.int .i64 0,.int .i64 t.steps]
def fO (b:Nat) (c:Cf) (g cap:Nat) (t:Hl):aC:=Sep (Var b (lG c g cap t) 270) (aZ c g cap)
section
variable {b g cap:Nat} {t:Hl} {Y:aC}
theorem hl9 (h:aA (fO b c g cap t) S w w'):
 w'.cell? ⟨b,0,none⟩=some (.int .i64 c.frags)∧w'.cell? ⟨b,1,none⟩=some (.int .i64 c.spine)∧w'.cell? ⟨b,2,none⟩=some (.int .i64 c.globals)∧w'.cell? ⟨b,3,none⟩=some (.int .i64 c.threads)∧
 w'.cell? ⟨b,4,none⟩=some (.int .i64 c.locals)∧w'.cell? ⟨b,5,none⟩=some (.int .i64 0)∧w'.cell? ⟨b,6,none⟩=some (.int .i64 c.stack)∧w'.cell? ⟨b,7,none⟩=some (.int .i64 c.low)∧w'.cell? ⟨b,8,none⟩=some (.slice (some ⟨g,0,none⟩) c.shapes.length cap):=
 ⟨h.c 0 rfl,h.c 1 rfl,h.c 2 rfl,h.c 3 rfl,h.c 4 rfl,h.c 5 rfl,h.c 6 rfl,h.c 7 rfl,h.c 8 rfl⟩
theorem haul_new (from_:Int) (sense:Bool) (hc:c.ok) (h:(aZ c g cap).at_ S w):
 Calls prog 137 #[cfV c g cap,.int .i64 from_,.int .i64 0,.bool sense] w fun e w'=>∃ b g' cap',e=.returned (.pointer (some ⟨b,0,none⟩))∧St w (fO b c g' cap' ⟨from_,sense,0,0⟩) w':=by
 have hb0:Below w.heap.size w (w.alloc (.cells (aD c (.slice (some ⟨g,0,none⟩) c.shapes.length cap)) 34)):=(Below.refl w.heap.size w).alloc (Nat.le_refl _) _
 have C0:Blk (w.alloc (.cells (aD c (.slice (some ⟨g,0,none⟩) c.shapes.length cap)) 34)) w.heap.size (aD c (.slice (some ⟨g,0,none⟩) c.shapes.length cap)) 34:=Blk.new w _ _
 have HB0:=zz hb0
 have HC0:=zz C0
 have HK:=zz (fun w' hb=>fG hc (keep (w':=w') h hb))
 unfold cfV at*
 simp only [aD] at*
 clear h hc hb0
 go_enter func137,ntmps137
 go_upto_region 1 with fail
 generalize w.alloc _=W1 at*
 obtain ⟨c0,c1,c2,c3,c4,c5,c6,c7,c8⟩:=cf9 C0
 clear C0
 go_wp2_with fail
 with_reducible refine (HK.out _ HB0.out).mono ?_
 rintro e w9 ⟨g',cap',rfl,hs⟩
 have hs:=hs.onward HB0.out
 have hs2:=zz ((hs.var (lG c g' cap' ⟨from_,sense,0,0⟩) 270).swap)
 clear c0 c1 c2 c3 c4 c5 c6 c7 c8 HK HB0 HC0 hs
 unfold cfV
 simp only [lG] at hs2
 go_wp2_with fail
 go_ret
 exact ⟨_,g',cap',rfl,hs2.out⟩
theorem haul_looks (hpc:t.pc=0) (h:(fO b c g cap t).at_ S w) (p q:Value):
 Calls prog 254 #[.pointer (some ⟨b,0,none⟩),p,q] w fun e w'=>e=.returned (.bool true)∧aA (fO b c g cap {t with pc:=11}) S w w':=by
 have g0:=aA.begin h
 have c10:=g0.ci 10 0
 have c12:=g0.ci 12 t.pc
 rw [hpc] at c12
 have f12:=g0.fr 12
 have HG:=zz (g0.put 12 (.int .i64 11) (cs':=lG c g cap {t with pc:=11}) rfl)
 clear g0 h hpc
 go_enter func254,ntmps254
 go_wp2_with fail
 refine bA 1 fun F hF=>?_
 go_wp2_with fail
 (try rw [aI])
 go_ret
 exact ⟨rfl,HG.out⟩
theorem haul_does (hc:c.ok) (hf:t.from_=0∨t.from_=1) (hpc:t.pc=0) (h:(fO b c g cap t).at_ S w) (p q r:Value):
 Calls prog 203 #[.pointer (some ⟨b,0,none⟩),p,q,r] w fun e w'=>e=.returned (.bool true)∧aA (fO b c g cap {t with pc:=11}) S w w':=by
 have g0:=zz (aA.begin h).drew_
 have hne:Nonempty (In (fO b c g cap t) S w):=⟨⟨_,g0.out⟩⟩
 have C9:=zz fun i:In (fO b c g cap t) S w=>hl9 i.h
 have c9:=fun i:In (fO b c g cap t) S w=>i.h.ci 9 t.from_
 have c10:=fun i:In (fO b c g cap t) S w=>i.h.ci 10 0
 have HK:=zz fun w1 (hg:aA (fO b c g cap t) S w w1)=>hg.plain (bY hc hg.r.is)
 have c0:=fun i=>(C9.out i).1
 have c1:=fun i=>(C9.out i).2.1
 have c2:=fun i=>(C9.out i).2.2.1
 have c3:=fun i=>(C9.out i).2.2.2.1
 have c4:=fun i=>(C9.out i).2.2.2.2.1
 have c5:=fun i=>(C9.out i).2.2.2.2.2.1
 have c6:=fun i=>(C9.out i).2.2.2.2.2.2.1
 have c7:=fun i=>(C9.out i).2.2.2.2.2.2.2.1
 have c8:=fun i=>(C9.out i).2.2.2.2.2.2.2.2
 have hs1:decide ((c.spine:Int)<0)=false:=by simp
 have HPC:=zz hpc
 clear h hc hpc C9
 unfold cfV at*
 rcases hf with hf|hf
 all_goals
  rw [hf] at c9
  clear hf
  go_enter func203,ntmps203
  go_wp2_with fail
  refine bL (by kernel_rfl) (by kernel_rfl) g0.out ?_
  repeat (go_big_quiet_step (exact In.call HK.out))
  refine wpQuiet_nil ?_
  intro w7 G7
  have G8:=zz (G7.call fun S h=>haul_looks HPC.out h p q)
  have p12:=G7.ci 12 t.pc
  rw [HPC.out] at p12
  clear G7 HK g0 c0 c1 c2 c3 c4 c5 c6 c7 c8 c9 c10
  go_wp2_with fail
  refine qz G8.out fun w8 hg=>?_
  have HG:=zz hg
  clear G8 hg
  go_wp2_with fail
  go_ret
  exact ⟨rfl,HG.out⟩
theorem haul_errno (h:(fO b c g cap t).at_ S w):Calls prog 139 #[.pointer (some ⟨b,0,none⟩)] w fun e w'=>e=.returned (.int .i64 0)∧w=w':=by
 have c0:=(aA.begin h).ci 19 0
 clear h
 go_enter func139,ntmps139
 go_wp2_with fail
 go_ret
 exact ⟨rfl,rfl⟩
theorem haul_moved (h:(fO b c g cap t).at_ S w):Calls prog 140 #[.pointer (some ⟨b,0,none⟩)] w fun e w'=>e=.returned (.int .i64 0)∧w=w':=by
 have c0:=(aA.begin h).ci 20 0
 clear h
 go_enter func140,ntmps140
 go_wp2_with fail
 go_ret
 exact ⟨rfl,rfl⟩
theorem haul_step (hc:c.ok) (hf:t.from_=0∨t.from_=1) (hpc:t.pc=0) (h:(fO b c g cap t).at_ S w) (p q r:Value):
 Calls prog 138 #[.pointer (some ⟨b,0,none⟩),p,q,r] w fun e w'=>e=.returned (.bool true)∧aA (fO b c g cap {t with pc:=11,steps:=wrap64 (t.steps+1)}) S w w':=by
 have g0:=aA.begin h
 have c12:=g0.ci 12 t.pc
 rw [hpc] at c12
 have c21:=g0.ci 21 t.steps
 have f21:=g0.fr 21
 have g1:=g0.put 21 (.int .i64 (wrap64 (t.steps+1))) (cs':=lG c g cap {t with steps:=wrap64 (t.steps+1)}) rfl
 have HD:=zz (g1.call fun S h=>haul_does (t:={t with steps:=wrap64 (t.steps+1)}) hc hf hpc h p q r)
 clear g0 g1 h hc hf hpc
 go_enter func138,ntmps138
 go_wp2_with fail
 refine qz HD.out fun w8 hg=>?_
 have HG:=zz hg
 have d12:=hg.ci 12 11
 clear HD hg c12 c21 f21
 go_wp2_with fail
 go_ret
 exact ⟨rfl,HG.out⟩
end
end
end Go.Proofs.YtgcmiahhkalfmaaGreat
