import Derived.Test.YtgcmiahhkalfmaaGreatM19
set_option maxRecDepth 100000
set_option maxHeartbeats 8000000
set_option linter.unusedVariables false
set_option linter.unusedSimpArgs false
namespace Go.Proofs.YtgcmiahhkalfmaaGreat
section
variable {t:Nat} {ids:Nat→Int} {nos:Nat→Nat} {os:Nat→Nat→Opn} {D D':Nat→Prop}
namespace Sw
structure Gr where
 len:Nat
 f:Nat→Nat→Wd
 g:Nat→Wd
 l:Nat→Nat→Lc
 th:Nat→Bool
def lc0:Lc:=⟨false,0,0⟩
def lcOf (r:Bool) (w:Wd):Lc:=⟨r,w.k,w.i⟩
def Gr.lay (g:Gr) (t a:Nat) (v:Lc):Gr×Int×Lc:=({g with l:=set g.l t (set (g.l t) a v)},0,v)
def Gr.does (g:Gr) (t:Nat) (o:Opn) (full:Bool):Gr×Int×Lc:=
 if opEr o (g.l t)≠0 then (g,opEr o (g.l t),lc0)
 else if o.kd=1 then
  if full then (g,6,lc0) else ({g with len:=g.len+1,f:=set g.f g.len fun k=>if k=2 then w0 else wN}:Gr).lay t o.a ⟨true,g.len+1,1⟩
 else if o.kd=3 then g.lay t o.a (lcOf (decide (o.n<2)) (g.f ((g.l t o.b).k-1) o.n))
 else if o.kd=4 then
  if (g.l t o.b).ref≠decide (o.n<2) then (g,4,lc0)
  else ({g with f:=set g.f ((g.l t o.a).k-1) (set (g.f ((g.l t o.a).k-1)) o.n (g.l t o.b).w)},0,lc0)
 else if o.kd=7 then g.lay t o.a (lcOf true (g.g o.n))
 else if o.kd=8 then ({g with g:=set g.g o.n (g.l t o.b).w},0,lc0)
 else if o.kd=12 then g.lay t o.a ⟨false,o.zk,o.zi⟩
 else g.lay t o.a ⟨true,0,1⟩
def Gr.join (g:Gr) (t:Nat):Gr:={g with l:=set g.l t fun _=>lc0,th:=set g.th t true}
def Gr.quit (g:Gr) (t:Nat):Gr:={g with th:=set g.th t false}
def Mn (ids:Nat→Int) (w v:Wd):Prop:=(w=wN∧v=wN)∨∃ i d:Nat,w=wR i∧ids i=d∧v=wR d
def MnL (ids:Nat→Int) (a b:Lc):Prop:=a.ref=b.ref∧(a.ref=true→Mn ids a.w b.w)∧(a.ref=false→a.w=b.w)
structure Rel (ids:Nat→Int) (g:Gr) (q:Q) (y:Y) (p:Nat→T):Prop where
 id:∀ i,Al q y i→∃ d:Nat,ids i=d∧d<g.len
 inj:∀ i j,Al q y i→Al q y j→ids i=ids j→i=j
 fl:∀ i,Al q y i→∀ d:Nat,ids i=d→Mn ids (q.m (i*8+2)) (g.f d 0)∧Mn ids (q.m (i*8+3)) (g.f d 1)∧q.m (i*8+4)=g.f d 2
 gl:∀ k,k<2→Mn ids (q.m (312+k)) (g.g k)
 lo:∀ t,t<2→(p t).here→∀ j,j<4→MnL ids ((p t).l j) (g.l t j)
 th:∀ t,t<2→((p t).here↔g.th t=true)
section
variable {q q':Q} {y y':Y} {ps:Nat→T} {g:Gr} {rs:Rs} {p':T}
theorem Rel.mono (h:Rel ids g q y ps) (al:∀ i,Al q' y' i→Al q y i) (m:q'.m=q.m):Rel ids g q' y' ps:=
 ⟨fun i a=>h.id i (al i a),fun i j a b=>h.inj i j (al i a) (al j b),fun i a=>by rw [m];exact h.fl i (al i a),by rw [m];exact h.gl,h.lo,h.th⟩
theorem cs_la (c:Cy q y) (J:Inv nos os D q' y' ps) (h:CS cS q y q' y'):(∀ i,Al q' y' i→Al q y i)∧q'.m=q.m:=by
 have gh:∀ {i j},((q.grey cS j y.sn).t i).hd=(q.t i).hd:=fun {i j}=>by
  unfold Q.grey;split
  · unfold set;simp only;split
    · next e=>subst e;rfl
    · rfl
  · rfl
 have gm:∀ {j},(q.grey cS j y.sn).m=q.m:=fun {j}=>by unfold Q.grey;split<;>rfl
 have st:=c.st
 have one:(y'.sn=y.sn∨y.st<6)→(y.st<6∨9<y.st∨6≤y'.st∧y'.st≤10)→(∀ i,i<24→(q'.t i).hd=true→(q'.t i)=q.t i∨y.st<6∧(q.t i).hd=true)→∀ i,Al q' y' i→Al q y i:=fun hn hy ht i h=>by
  rcases ht i h.1 h.2.1 with e|⟨e,e'⟩
  · refine ⟨h.1,by rw [←e];exact h.2.1,fun h6 h9=>?_⟩
    have en:=hn.resolve_right (by omega)
    rw [←e,←en]
    by_cases h10:y'.st=10
    · exact J.c.b0 (by omega) i h.1 (J.b.used h.1 h.2.1)
    · exact h.2.2 (by omega) (by omega)
  · exact ⟨h.1,e',fun _ _=>by omega⟩
 have sm:∀ {a:Q},a.t=q.t→∀ i,i<24→(a.t i).hd=true→a.t i=q.t i∨y.st<6∧(q.t i).hd=true:=fun e i _ _=>.inl (by rw [e])
 cases h with
 | rootG h1 h2=>exact ⟨one (.inl rfl) (.inl (by omega)) fun i _ h=>.inr ⟨by omega,by rw [←gh];exact h⟩,gm⟩
 | trGrey h1 h2 h3=>
  refine ⟨one ?_ (.inl (by omega)) fun i _ h=>.inr ⟨by omega,by rw [←gh];exact h⟩,gm⟩
  exact .inr (by omega)
 | sweep h1 h2 h3=>
  refine ⟨one (.inl (by split<;>rfl)) (.inr (.inr (by split<;>simp [Y.to]<;>omega))) fun i _ h=>.inl ?_,rfl⟩
  by_cases e:i=y.i
  · subst e;simp [set] at h
  · exact set_ne e
 | spare h1 h2=>exact ⟨one (.inl (by split<;>rfl)) (.inr (.inr (by split<;>simp [Y.to]<;>omega))) (sm rfl),rfl⟩
 | @serve r i h1 h2 h3 h4 h5=>
  refine ⟨one (.inl rfl) (.inr (.inl (by omega))) fun j _ h=>.inl ?_,rfl⟩
  by_cases e:j=i
  · subst e;simp [Q.take,set] at h
  · exact set_ne e
 | roots h1 h2=>exact ⟨one (.inr (by omega)) (.inl (by omega)) (sm rfl),rfl⟩
 | turns h1 h2=>exact ⟨one (.inl (by simp only;split<;>rfl)) (.inr (.inr (by simp only;split<;>simp [Y.to]<;>omega))) (sm rfl),rfl⟩
 | idle h1=>exact ⟨fun _ h=>h,rfl⟩
 | wants h1=>exact ⟨one (.inl rfl) (.inl (by omega)) (sm rfl),rfl⟩
 | begin_ h1=>exact ⟨one (.inl rfl) (.inl (by omega)) (sm rfl),rfl⟩
 | start h1=>exact ⟨one (.inr (by omega)) (.inl (by omega)) (sm rfl),rfl⟩
 | hands h1=>exact ⟨one (.inl rfl) (.inl (by omega)) (sm rfl),rfl⟩
 | post h1=>exact ⟨one (.inl rfl) (.inl (by omega)) (sm rfl),rfl⟩
 | root h1=>exact ⟨one (.inl rfl) (.inl (by omega)) (sm rfl),rfl⟩
 | root0 h1=>exact ⟨one (.inl rfl) (.inl (by omega)) (sm rfl),rfl⟩
 | next h1=>exact ⟨one (.inl rfl) (.inl (by omega)) (sm rfl),rfl⟩
 | next0 h1=>exact ⟨one (.inl rfl) (.inl (by omega)) (sm rfl),rfl⟩
 | lost h1=>exact ⟨one (.inl rfl) (.inl (by omega)) (sm rfl),rfl⟩
 | found h1=>exact ⟨one (.inl rfl) (.inl (by omega)) (sm rfl),rfl⟩
 | rescan h1=>exact ⟨one (.inl rfl) (.inl (by omega)) (sm rfl),rfl⟩
 | skip h1=>exact ⟨one (.inr (by omega)) (.inl (by omega)) (sm rfl),rfl⟩
 | trHead h1=>exact ⟨one (.inr (by omega)) (.inl (by omega)) (sm rfl),rfl⟩
 | trRef h1=>exact ⟨one (.inl rfl) (.inl (by omega)) (sm rfl),rfl⟩
 | trNone h1=>exact ⟨one (.inr (by omega)) (.inl (by omega)) (sm rfl),rfl⟩
 | turn h1=>exact ⟨one (.inl rfl) (.inr (.inr (by show 6≤y.st∧y.st≤10;omega))) (sm rfl),rfl⟩
 | move h1=>exact ⟨one (.inl rfl) (.inr (.inr (by show 6≤y.st∧y.st≤10;omega))) (sm rfl),rfl⟩
 | haul h1=>exact ⟨one (.inl rfl) (.inr (.inr (by show 6≤y.st∧y.st≤10;omega))) (sm rfl),rfl⟩
 | still h1=>exact ⟨one (.inl rfl) (.inr (.inr (by simp [Y.to]))) (sm rfl),rfl⟩
 | settle h1=>exact ⟨one (.inl rfl) (.inr (.inr (by show 6≤y.st∧y.st≤10;omega))) (sm rfl),rfl⟩
 | settled h1=>exact ⟨one (.inl rfl) (.inr (.inr (by simp [Y.to]))) (sm rfl),rfl⟩
 | end_ h1=>exact ⟨one (.inl rfl) (.inr (.inl (by omega))) (sm rfl),rfl⟩
 | fail h1=>exact ⟨one (.inl rfl) (.inr (.inl (by omega))) (sm rfl),rfl⟩
 | done h1=>exact ⟨one (.inl rfl) (.inr (.inl (by omega))) (sm rfl),rfl⟩
theorem cs_rel (I:Inv nos os D q y ps) (J:Inv nos os D' q' y' ps) (h:CS cS q y q' y') (R:Rel ids g q y ps):Rel ids g q' y' ps:=by
 obtain ⟨a,b⟩:=cs_la I.c J h
 exact R.mono a b
end
end Sw
end
section
attribute [local go_sem] aF aI aO aV
open Go.Proofs.Tryz
open Go.RowKit
variable {r sn:Bool} {c:Cf} {er st:Int} {l:List Bool} {ws:List Int} {b bm bs bt cap g head k0 md ni t z1 z2:Nat} {S:Nat→Prop} {m:Nat→Value} {x0:Option Addr} {q:Sw.Q} {A X Z:aC} {lv ov sv:Value} {w w':World}
structure Tc where
 ph:Int
 st:Int
 sn:Bool
 nx:Nat
 pc:Int
 seen:Int
 grey:Value
 own:Int
 at_:Int
 f:Value
 addr:Int
 ref:Bool
 o1:Nat
 o2:Nat
 w1:Nat
 w2:Nat
 got:Value
 wr:Value
def aM (t:Nat) (ov lv:Value) (x:Tc):Array Value:=#[.int .i64 (t:Int),ov,lv,.int .i64 x.ph,.int .i64 x.st,.bool x.sn,.int .i64 (x.nx:Int),.int .i64 x.pc,.int .i64 x.seen,x.grey,
 .int .i64 x.own,.int .i64 x.at_,x.f,.int .i64 x.addr,.bool x.ref,.complex .f64 x.o1 x.o2,.complex .f64 x.w1 x.w2,x.got,x.wr]
def Thr (b t:Nat) (ov lv:Value) (x:Tc) (X:aC):aC:=Sep (Var b (aM t ov lv x) 158) X
def resV (nx:Nat) (own e:Int) (r:Bool) (z1 z2:Nat):Value:=.agg #[.int .i64 (nx:Int),.int .i64 own,.int .i64 e,.bool r,.complex .f64 z1 z2]
def aQ:Array Value:=#[.int .i64 0,.int .i64 0,.int .i64 0,.bool false,.complex .f64 0 0]
section
variable {x:Tc}
theorem act_done_ok (hph:x.ph=2) (hnx:x.nx≤1000) (h:(Thr b t ov lv x X).at_ S w):
 Calls prog 155 #[.pointer (some ⟨b,0,none⟩),.agg #[.bool r,.complex .f64 z1 z2],.int .i64 0] w fun e w'=>e=.returned (.tuple #[resV x.nx x.own 0 r z1 z2,.bool true])∧aA (Thr b t ov lv {x with ph:=1,pc:=0,nx:=x.nx+1} X) S w w':=by
 have g0:=((aA.begin h).moreSt (St.fresh #[.bool r,.complex .f64 z1 z2] 39)).moreSt (St.fresh aQ 41)
 rw [World.size_alloc] at g0
 obtain ⟨vb,hvb⟩:∃ k,w.heap.size=k:=⟨_,rfl⟩
 obtain ⟨rb,hrb⟩:∃ k,vb+1=k:=⟨_,rfl⟩
 rw [hvb,hrb] at g0
 have HG:=zz g0
 simp only [aQ] at*
 clear h g0
 go_enter func155,ntmps155
 go_upto_region 1 with fail
 generalize (w.alloc _).alloc _=w1 at*
 have g1:=HG.out.drew_
 have c6:=g1.l.l.ci 6 (x.nx:Int)
 have c10:=g1.l.l.ci 10 x.own
 refine wp_region_held_drew (S:=fun w'=>w'.cell? ⟨b,6,none⟩=some (.int .i64 (x.nx:Int))∧w'.cell? ⟨b,10,none⟩=some (.int .i64 x.own)) (by kernel_rfl) ⟨c6,c10⟩ (fun hHeld=>?_)
 refine tk 0 ?_
 refine tk 1 ?_
 refine tk 2 ?_
 refine tk 3 ?_
 refine tk 4 ?_
 refine tk 5 ?_
 refine tk 6 ?_
 refine tk 7 ?_
 refine tk 8 ?_
 refine tk 9 ?_
 refine tk 10 ?_
 refine rdy 11 fun K hK=>?_
 go_simp
 have g2:=g1.moreSt (St.fresh aQ 41)
 have d6:=g2.l.l.l.ci 6 (x.nx:Int)
 have d10:=g2.l.l.l.ci 10 x.own
 simp only [aQ] at*
 refine hK.out _ _ ⟨d6,d10⟩ (fun hHeld=>?_)
 clear hK K hHeld
 try simp only [Act.put,List.setIfInBounds_toArray,List.set_cons_zero,List.set_cons_succ]
 refine rdy 12 fun K hK=>?_
 go_simp
 have g3:=zz (HG.out.drew_.moreSt (St.fresh #[.int .i64 (x.nx:Int),.int .i64 x.own,.int .i64 0,.bool false,.complex .f64 0 0] 41))
 rw [show w1.drew.heap.size=w1.heap.size from rfl] at g3
 have q6:=g3.out.l.l.l.ci 6 (x.nx:Int)
 have q10:=g3.out.l.l.l.ci 10 x.own
 refine hK.out _ _ ⟨q6,q10⟩ (fun hHeld=>?_)
 clear hK K hHeld q6 q10 d6 d10 g2 g1 HG c6 c10
 try simp only [Act.put,List.setIfInBounds_toArray,List.set_cons_zero,List.set_cons_succ]
 refine wpAnyH_done (by kernel_rfl) ?_ _
 generalize hr8:w1.heap.size=r8 at*
 clear hr8
 generalize hw2:w1.drew.alloc _=w2 at g3
 have hw3:(w1.alloc (.cells #[.int .i64 (x.nx:Int),.int .i64 x.own,.int .i64 0,.bool false,.complex .f64 0 0] 41)).drew=w2:=hw2
 rw [hw3]
 clear hw2 hw3
 have v0:=g3.out.l.l.r.vb 0 r
 have v1:=g3.out.l.l.r.vC 1 (.complex .f64 z1 z2)
 have r3:=g3.out.r.vb 3 false
 have r4:=g3.out.r.vC 4 (.complex .f64 0 0)
 have p3:=g3.out.r.vf 3
 have p4:=g3.out.r.vf 4
 have g4:=zz (g3.out.then (aH (fun S h=>((aA.begin h).vput 3 (.bool r) rfl).vput 4 (.complex .f64 z1 z2) rfl)))
 clear g3
 go_upto_region 4 with fail
 generalize World.setCell _ _ _=w3 at*
 clear v0 v1 r3 r4 p3 p4
 have c6:=g4.out.l.l.l.ci 6 (x.nx:Int)
 have f6:=g4.out.l.l.l.fr 6
 have g5:aA (Sep (Sep (Sep (Thr b t ov lv {x with nx:=x.nx+1} X) _) _) _) S w _:=g4.out.then (aG (aG (aG (fun S h=>(aA.begin h).put 6 (.int .i64 ((x.nx:Int)+1)) (cs':=aM t ov lv {x with nx:=x.nx+1}) rfl))))
 have c3:=g5.l.l.l.ci 3 x.ph
 rw [hph] at c3
 have f3:=g5.l.l.l.fr 3
 have g6:aA (Sep (Sep (Sep (Thr b t ov lv {x with nx:=x.nx+1,ph:=1} X) _) _) _) S w _:=g5.then (aG (aG (aG (fun S h=>(aA.begin h).put 3 (.int .i64 1) (cs':=aM t ov lv {x with nx:=x.nx+1,ph:=1}) rfl))))
 have c7:=g6.l.l.l.ci 7 x.pc
 have f7:=g6.l.l.l.fr 7
 have g7:aA (Sep (Sep (Sep (Thr b t ov lv {x with nx:=x.nx+1,ph:=1,pc:=0} X) _) _) _) S w _:=g6.then (aG (aG (aG (fun S h=>(aA.begin h).put 7 (.int .i64 0) (cs':=aM t ov lv {x with nx:=x.nx+1,ph:=1,pc:=0}) rfl))))
 have G7:=zz g7
 clear g4 g5 g6 g7
 have hnx1:(x.nx:Int)≤1000:=by omega
 go_upto_region 7 with fail
 generalize World.setCell _ _ _=w4 at*
 clear c6 f6 c3 f3 c7 f7
 have s0:=G7.out.r.vi 0 (x.nx:Int)
 have s1:=G7.out.r.vi 1 x.own
 have s2:=G7.out.r.vi 2 0
 have s3:=G7.out.r.vb 3 r
 have s4:=G7.out.r.vC 4 (.complex .f64 z1 z2)
 have q0:=G7.out.l.r.vi 0 0
 have q1:=G7.out.l.r.vi 1 0
 have q2:=G7.out.l.r.vi 2 0
 have q3:=G7.out.l.r.vb 3 false
 have q4:=G7.out.l.r.vC 4 (.complex .f64 0 0)
 have p0:=G7.out.l.r.vf 0
 have p1:=G7.out.l.r.vf 1
 have p2:=G7.out.l.r.vf 2
 have p3:=G7.out.l.r.vf 3
 have p4:=G7.out.l.r.vf 4
 have g8:=G7.out.then (aG (aH (fun S h=>(aA.begin h).p5 (.int .i64 (x.nx:Int)) (.int .i64 x.own) (.int .i64 0) (.bool r) (.complex .f64 z1 z2))))
 have k0:=g8.l.r.vi 0 (x.nx:Int)
 have k1:=g8.l.r.vi 1 x.own
 have k2:=g8.l.r.vi 2 0
 have k3:=g8.l.r.vb 3 r
 have k4:=g8.l.r.vC 4 (.complex .f64 z1 z2)
 have HF:=zz g8.l.l.l
 clear G7 g8
 go_wp2_with fail
 exact bodyPost_ret (v:=.tuple #[resV x.nx x.own 0 r z1 z2,.bool true]) (by simp [resV,results,results155,go_sem,k0,k1,k2,k3,k4]) rfl ⟨rfl,HF.out⟩
theorem act_done_err (her:¬er=0) (hph:¬x.ph=4) (hnx:x.nx≤1000) (h:(Thr b t ov lv x X).at_ S w):
 Calls prog 155 #[.pointer (some ⟨b,0,none⟩),.agg #[.bool false,.complex .f64 0 0],.int .i64 er] w fun e w'=>e=.returned (.tuple #[resV x.nx x.own er false 0 0,.bool true])∧aA (Thr b t ov lv {x with ph:=1,pc:=0,nx:=x.nx+1} X) S w w':=by
 have g0:=((aA.begin h).moreSt (St.fresh #[.bool false,.complex .f64 0 0] 39)).moreSt (St.fresh aQ 41)
 rw [World.size_alloc] at g0
 obtain ⟨vb,hvb⟩:∃ k,w.heap.size=k:=⟨_,rfl⟩
 obtain ⟨rb,hrb⟩:∃ k,vb+1=k:=⟨_,rfl⟩
 rw [hvb,hrb] at g0
 have HG:=zz g0
 simp only [aQ] at*
 clear h g0
 go_enter func155,ntmps155
 go_upto_region 1 with fail
 generalize (w.alloc _).alloc _=w1 at*
 have g1:=HG.out.drew_
 have c6:=g1.l.l.ci 6 (x.nx:Int)
 have c10:=g1.l.l.ci 10 x.own
 refine wp_region_held_drew (S:=fun w'=>w'.cell? ⟨b,6,none⟩=some (.int .i64 (x.nx:Int))∧w'.cell? ⟨b,10,none⟩=some (.int .i64 x.own)) (by kernel_rfl) ⟨c6,c10⟩ (fun hHeld=>?_)
 refine tk 0 ?_
 refine tk 1 ?_
 refine tk 2 ?_
 refine tk 3 ?_
 refine tk 4 ?_
 refine tk 5 ?_
 refine tk 6 ?_
 refine tk 7 ?_
 refine tk 8 ?_
 refine tk 9 ?_
 refine tk 10 ?_
 refine rdy 11 fun K hK=>?_
 go_simp
 have g2:=g1.moreSt (St.fresh aQ 41)
 have d6:=g2.l.l.l.ci 6 (x.nx:Int)
 have d10:=g2.l.l.l.ci 10 x.own
 simp only [aQ] at*
 refine hK.out _ _ ⟨d6,d10⟩ (fun hHeld=>?_)
 clear hK K hHeld
 try simp only [Act.put,List.setIfInBounds_toArray,List.set_cons_zero,List.set_cons_succ]
 refine rdy 12 fun K hK=>?_
 go_simp
 have g3:=zz (HG.out.drew_.moreSt (St.fresh #[.int .i64 (x.nx:Int),.int .i64 x.own,.int .i64 er,.bool false,.complex .f64 0 0] 41))
 rw [show w1.drew.heap.size=w1.heap.size from rfl] at g3
 have q6:=g3.out.l.l.l.ci 6 (x.nx:Int)
 have q10:=g3.out.l.l.l.ci 10 x.own
 refine hK.out _ _ ⟨q6,q10⟩ (fun hHeld=>?_)
 clear hK K hHeld q6 q10 d6 d10 g2 g1 HG c6 c10
 try simp only [Act.put,List.setIfInBounds_toArray,List.set_cons_zero,List.set_cons_succ]
 refine wpAnyH_done (by kernel_rfl) ?_ _
 generalize hr8:w1.heap.size=r8 at*
 clear hr8
 generalize hw2:w1.drew.alloc _=w2 at g3
 have hw3:(w1.alloc (.cells #[.int .i64 (x.nx:Int),.int .i64 x.own,.int .i64 er,.bool false,.complex .f64 0 0] 41)).drew=w2:=hw2
 rw [hw3]
 clear hw2 hw3
 have g4:=g3
 clear g3
 go_upto_region 4 with fail
 have c6:=g4.out.l.l.l.ci 6 (x.nx:Int)
 have f6:=g4.out.l.l.l.fr 6
 have g5:aA (Sep (Sep (Sep (Thr b t ov lv {x with nx:=x.nx+1} X) _) _) _) S w _:=g4.out.then (aG (aG (aG (fun S h=>(aA.begin h).put 6 (.int .i64 ((x.nx:Int)+1)) (cs':=aM t ov lv {x with nx:=x.nx+1}) rfl))))
 have c3:=g5.l.l.l.ci 3 x.ph
 have f3:=g5.l.l.l.fr 3
 have g6:aA (Sep (Sep (Sep (Thr b t ov lv {x with nx:=x.nx+1,ph:=1} X) _) _) _) S w _:=g5.then (aG (aG (aG (fun S h=>(aA.begin h).put 3 (.int .i64 1) (cs':=aM t ov lv {x with nx:=x.nx+1,ph:=1}) rfl))))
 have c7:=g6.l.l.l.ci 7 x.pc
 have f7:=g6.l.l.l.fr 7
 have g7:aA (Sep (Sep (Sep (Thr b t ov lv {x with nx:=x.nx+1,ph:=1,pc:=0} X) _) _) _) S w _:=g6.then (aG (aG (aG (fun S h=>(aA.begin h).put 7 (.int .i64 0) (cs':=aM t ov lv {x with nx:=x.nx+1,ph:=1,pc:=0}) rfl))))
 have G7:=zz g7
 clear g4 g5 g6 g7
 have hnx1:(x.nx:Int)≤1000:=by omega
 go_upto_region 7 with fail
 generalize World.setCell _ _ _=w4 at*
 clear c6 f6 c3 f3 c7 f7
 have s0:=G7.out.r.vi 0 (x.nx:Int)
 have s1:=G7.out.r.vi 1 x.own
 have s2:=G7.out.r.vi 2 er
 have s3:=G7.out.r.vb 3 false
 have s4:=G7.out.r.vC 4 (.complex .f64 0 0)
 have q0:=G7.out.l.r.vi 0 0
 have q1:=G7.out.l.r.vi 1 0
 have q2:=G7.out.l.r.vi 2 0
 have q3:=G7.out.l.r.vb 3 false
 have q4:=G7.out.l.r.vC 4 (.complex .f64 0 0)
 have p0:=G7.out.l.r.vf 0
 have p1:=G7.out.l.r.vf 1
 have p2:=G7.out.l.r.vf 2
 have p3:=G7.out.l.r.vf 3
 have p4:=G7.out.l.r.vf 4
 have g8:=G7.out.then (aG (aH (fun S h=>(aA.begin h).p5 (.int .i64 (x.nx:Int)) (.int .i64 x.own) (.int .i64 er) (.bool false) (.complex .f64 0 0))))
 have k0:=g8.l.r.vi 0 (x.nx:Int)
 have k1:=g8.l.r.vi 1 x.own
 have k2:=g8.l.r.vi 2 er
 have k3:=g8.l.r.vb 3 false
 have k4:=g8.l.r.vC 4 (.complex .f64 0 0)
 have HF:=zz g8.l.l.l
 clear G7 g8
 go_wp2_with fail
 exact bodyPost_ret (v:=.tuple #[resV x.nx x.own er false 0 0,.bool true]) (by simp [resV,results,results155,go_sem,k0,k1,k2,k3,k4]) rfl ⟨rfl,HF.out⟩
end
section
variable {t:Tr}
theorem trace_walks2 (hc:c.ok) (hx:t.rv=.slice x0 l.length k0) (hl:l.length≤6) (hpc:t.pc=2) (hni:t.next=(ni:Nat)) (hi:ni<c.frags) (hu:(q.t ni).hd=true→(q.t ni).st=2) (hp:q.pl.length≤c.stack) (hws:ws.length≤100)
 (h:(Sep (fX b c g cap t ws l) (ShQ bs bt c q)).at_ S w) (m:Value):
 Calls prog 302 #[.pointer (some ⟨b,0,none⟩),m,.pointer (some ⟨bs,0,none⟩)] w fun e w'=>e=.returned (.bool true)∧aA (Sep (fX b c g cap {t with pc:=if ws.length=0 then 9 else 1} ws l) (ShQ bs bt c (q.grey c ni t.sense))) S w w':=by
 obtain ⟨aw,cw,hwv,hw1,hw2⟩:=wsq_form (aA.begin h).l.r.r.l.is
 have g0:=aA.begin h
 have c11:=g0.l.ci 11 t.pc
 rw [hpc] at c11
 have hg:=g0.drew_
 have HS:=zz ((sh_grey (b:=bs) (bt:=bt) (s:=t.sense) hi hu hp hc.stack.2 _).r.on hg)
 rw [←hni] at HS
 have HX:=zz hx
 have HWV:=zz hwv
 clear g0 h hc hpc hu hp hwv hx hni
 obtain ⟨pcv,hpcv⟩:∃ pcv:Int,(if ws.length=0 then 9 else 1)=pcv:=⟨_,rfl⟩
 rw [hpcv]
 have HPV:=zz hpcv
 clear hpcv
 go_enter func302,ntmps302
 go_wp2_with fail
 refine bA 2 fun F hF=>?_
 go_wp2_with fail
 refine wp_goto (show Exit.via F _ _ 2 (.goto 0) _ _ from ⟨_,by rw [hF.out];rfl,?_⟩)
 go_wp2_with fail
 refine wp_region_held_drew (S:=fun w'=>w'.cell? ⟨b,17,none⟩=some (.int .i64 t.next)∧w'.cell? ⟨b,10,none⟩=some (.bool t.sense)) (by kernel_rfl) ⟨hg.l.ci 17 t.next,hg.l.cb 10 t.sense⟩ (fun hHeld=>?_)
 refine tk 0 ?_
 refine tk 1 ?_
 refine tk 2 ?_
 refine tk 3 ?_
 refine tk 4 ?_
 refine tk 5 ?_
 refine tk 6 ?_
 refine tk 7 ?_
 refine tk 8 ?_
 refine rdy 9 fun K hK=>?_
 go_simp
 refine qz HS.out fun w3 hg2=>?_
 clear HS hg c11
 go_wp2_with fail
 refine hon hK ⟨hg2.l.ci 17 t.next,hg2.l.cb 10 t.sense⟩ fun hHeld=>?_
 clear hK K
 refine wpAnyH_done (by kernel_rfl) ?_ _
 have HGO:=zz (jT (x1:=aw) (k1:=cw) hl HX.out HWV.out hws hg2.l.is)
 have HG:=zz hg2
 clear hHeld hg2
 rw [HPV.out] at HGO
 go_wp2_with fail
 refine wp_goto (show Exit.via F _ _ 1 (.goto 3) _ _ from ⟨_,by rw [hF.out];rfl,?_⟩)
 clear hF
 go_wp2_with fail
 refine qz (HGO.out) fun w5 hb5=>?_
 have G6:=HG.out.below_ hb5
 have d11:=G6.l.ci 11 t.pc
 have f11:=G6.l.fr 11
 have HG7:=zz (G6.then (aG (fun S h=>(aA.begin h).put 11 (.int .i64 pcv) (cs':=dL c g cap {t with pc:=pcv}) rfl)))
 clear HGO HG hb5 G6
 go_wp2_with fail
 (try rw [aI])
 go_ret
 exact ⟨rfl,HG7.out⟩
end
theorem fU (h:(Sep A Emp).at_ S w):A.at_ S w:=by
 obtain ⟨S1,S2,h1,h2,h3,h4,h5,h6⟩:=h
 have e:S=S1:=by
  funext k;apply propext
  exact ⟨fun hk=>(h6 k hk).elim id fun h=>(h2 k h).elim,h4 k⟩
 rw [e];exact h1
section
variable {gm n:Nat} {t:Tr} {α:Type}
theorem tr_does {O':α→aC} {mv:Value} (h1:1≤t.pc) (h2:t.pc≤2) (hd:aN prog 302 #[.pointer (some ⟨b,0,none⟩),mv,sv] w (Sep (bP b c g cap t X) Z) (fun _ e=>e=.returned (.bool true)) O'):
 aN prog 253 #[.pointer (some ⟨b,0,none⟩),mv,sv] w (Sep (bP b c g cap t X) Z) (fun _ e=>e=.returned (.bool true)) O':=by
 intro S h
 have g0:=aA.begin h
 have c11:=g0.l.ci 11 t.pc
 have HR:=zz (hd.on g0)
 have h0:¬t.pc=0:=by omega
 have h5:¬5≤t.pc:=by omega
 clear g0 h hd h1 h2
 generalize t.pc=pc at*
 go_enter func253,ntmps253
 go_wp2_with fail
 with_reducible refine HR.out.mono ?_
 rintro e w2 ⟨x,rfl,hg⟩
 have HG:=zz hg
 clear HR hg c11
 go_wp2_with fail
 go_ret
 exact ⟨x,rfl,HG.out⟩
theorem trace_does0 (hc:c.ok) (hs:c.shapes[0]? = some (false,l)) (hmd:md≤1) (hh:head<c.frags) (hn:head*8+1<n) (hn2:n≤20000) (hm:m (head*8+1)=cx 0 md) (p:Value):
 aN prog 253 #[.pointer (some ⟨b,0,none⟩),.pointer (some ⟨bm,0,none⟩),p] w (Sep (bP b c g cap {tr0 head sn with steps:=st} Emp) (Mem bm gm n m)) (fun x:{x:Value×Value // ∃ y k,x.1=.slice y l.length k}=>fun e=>e=.returned (.bool true))
  (fun x=>Sep (fX b c g cap {head:=head,sense:=sn,pc:=if (bF l l.length).length=0 then 9 else 1,rv:=x.1.1,words:=x.1.2,next:=0,steps:=st} (bF l l.length) l) (Mem bm gm n m)):=by
 intro S h
 have g0:=aA.begin h
 have c11:=g0.l.ci 11 0
 have c9:=g0.l.ci 9 (head:Int)
 have HR:=zz ((g0.conv fun _ _ h=>(aB.monoR (fun _ h=>gK h) h:(Sep (bP b c g cap {tr0 head sn with steps:=st} Emp) (Sep (Mem bm gm n m) Emp)).at_ _ _)).call fun S h=>trace_read head 1 hc hh (by omega) hn hn2 h)
 rw [hm,show ((1:Nat):Int)=1 from rfl] at HR
 have HC:=zz hc
 have HS:=zz hs
 clear g0 h hc hm hs
 obtain ⟨pcv,hpcv⟩:∃ pcv:Int,(if (bF l l.length).length=0 then 9 else 1)=pcv:=⟨_,rfl⟩
 rw [hpcv]
 have HPV:=zz hpcv
 clear hpcv
 unfold cx at HR
 go_enter func253,ntmps253
 go_wp2_with fail
 refine qz (HR.out) fun w1 hg=>?_
 have HF:=zz (hg.callx (sepLx (R:=fun x:Value×Value=>fun e=>e=.returned (.bool true)∧∃ y k,x.1=.slice y l.length k)
  (A':=fun x=>Sep (bP b c g cap (Tr.on {tr0 head sn with steps:=st} l x.1 x.2) (Sep (dS x.1 l) Emp)) (WSq x.2 (bF l l.length)))
  fun S h=>(trace_first HC.out HS.out hmd h).mono fun e w' ⟨rv,wv,he,hf,hg⟩=>⟨(rv,wv),⟨he,hf⟩,hg⟩))
 clear HR hg c11 c9
 unfold cx at HF
 go_wp2_with fail
 with_reducible refine HF.out.mono ?_
 rintro e w2 ⟨⟨rv,wv⟩,⟨rfl,hf⟩,hg⟩
 have HG:=zz (hg.conv fun S w h=>aB.monoL (fun S h=>aB.in2 h) (aB.monoR (fun S h=>fU h) h))
 have HFF:=zz hf
 clear HF hg hf
 go_wp2_with fail
 go_ret
 have hpv:=HPV.out
 subst hpv
 exact ⟨⟨(rv,wv),HFF.out⟩,rfl,HG.out⟩
theorem tr_inc (h:aA (Sep (bP b c g cap t X) Z) S w w'):aA (Sep (bP b c g cap {t with steps:=wrap64 (t.steps+1)} X) Z) S w (w'.setCell ⟨b,22,none⟩ (.int .i64 (wrap64 (t.steps+1)))):=
 h.then (aG (fun S h=>(aA.begin h).put 22 (.int .i64 (wrap64 (t.steps+1))) (cs':=dL c g cap {t with steps:=wrap64 (t.steps+1)}) rfl))
theorem tr_step {t':α→Tr} {X' Z':α→aC} {mv:Value} (h9:t.pc≠9)
 (hd:∀ w,aN prog 253 #[.pointer (some ⟨b,0,none⟩),mv,sv] w (Sep (bP b c g cap {t with steps:=wrap64 (t.steps+1)} X) Z) (fun _ e=>e=.returned (.bool true)) (fun x=>Sep (bP b c g cap (t' x) (X' x)) (Z' x))):
 aN prog 197 #[.pointer (some ⟨b,0,none⟩),mv,sv] w (Sep (bP b c g cap t X) Z) (fun x e=>e=.returned (.bool (decide ((t' x).pc=9)))) (fun x=>Sep (bP b c g cap (t' x) (X' x)) (Z' x)):=by
 intro S h
 have g0:=aA.begin h
 have c11:=g0.l.ci 11 t.pc
 have c22:=g0.l.ci 22 t.steps
 have f22:=g0.l.fr 22
 have HD:=zz ((hd _).on (tr_inc g0))
 clear g0 h hd
 go_enter func197,ntmps197
 go_wp2_with fail
 with_reducible refine HD.out.mono ?_
 rintro e w2 ⟨x,rfl,hg⟩
 have HG:=zz hg
 have d11:=hg.l.ci 11 ((t' x).pc)
 have hfin:∀ v:Bool,v=decide ((t' x).pc=9)→(∃ x,Ending.returned (.bool v)=.returned (.bool (decide ((t' x).pc=9)))∧aA (Sep (bP b c g cap (t' x) (X' x)) (Z' x)) S w w2):=fun v hv=>⟨x,by rw [hv],HG.out⟩
 have HF:=zz hfin
 clear HD hg c11 c22 f22 hfin HG
 generalize (t' x).pc=p2 at*
 by_cases h2:p2=9
 ·
  go_wp2_with fail
  go_ret
  exact HF.out _ (by simp [h2])
 ·
  go_wp2_with fail
  go_ret
  exact HF.out _ (by simp [h2])
end
end
section
open Go.Proofs.Tryz
open Go.RowKit
variable {args:Array Value} {sn:Bool} {A:CA} {c:Cf} {f:FuncId} {ws:List Nat} {k:Nat} {S:Nat→Prop} {m:Nat→Sw.Wd} {q q':Sw.Q} {tr:Sw.Tr} {T':aC} {v:Value} {w w':World}
theorem wordsTo_refs (l:List Bool) (q:Nat):bF l q=((List.range q).filterMap fun k=>if l.getD k false then some (2+k) else none).map Int.ofNat:=by
 induction q with
 | zero=>rfl
 | succ q ih=>
  rw [List.range_succ,List.filterMap_append,List.map_append,bF,ih]
  by_cases h:l.getD q false=true
  · rw [if_pos h];simp only [List.filterMap_cons,List.filterMap_nil,h,if_true];simp
  · rw [if_neg h];simp only [List.filterMap_cons,List.filterMap_nil,h];simp
theorem jR (l:List Bool):bF l l.length=(Sw.refWs l).map Int.ofNat:=wordsTo_refs l l.length
structure TrX where
 g:Nat
 cap:Nat
 rv:Value
 words:Value
 steps:Int
def trAt (c:Cf) (sn:Bool) (tr:Sw.Tr) (x:TrX):Tr:=⟨tr.hd,sn,tr.pc,x.rv,x.words,(tr.nx:Nat),x.steps⟩
def TrB (b:Nat) (c:Cf) (sn:Bool) (tr:Sw.Tr) (x:TrX):aC:=
 if tr.pc=0 then Pu (tr.nx=0∧tr.ws=[]) (bP b c x.g x.cap {tr0 tr.hd sn with steps:=x.steps} Emp)
 else Pu (∃ a k,x.rv=.slice a c.refs.length k) (fX b c x.g x.cap (trAt c sn tr x) (tr.ws.map Int.ofNat) c.refs)
def TrO (b:Nat) (c:Cf) (sn:Bool) (tr:Sw.Tr):aC:=Ex fun x:TrX=>TrB b c sn tr x
section
variable {b bs bt bm:Nat} {T:aC}
theorem on_len (tr:Sw.Tr):tr.on=if tr.ws.length=0 then 9 else 1:=by unfold Sw.Tr.on;cases tr.ws<;>simp
theorem tro_head (hc:c.ok) (hs:c.shapes[0]? = some (false,c.refs)) (hpc:tr.pc=0) (hh:tr.hd<c.frags) (hm:m (c.fw tr.hd 1)=⟨0,1⟩) (p:Value) (w:World):
 aJ prog 197 #[.pointer (some ⟨b,0,none⟩),.pointer (some ⟨bm,0,none⟩),p] w (Sep (TrO b c sn tr) (fP bm c m)) (.bool (decide (({tr with ws:=Sw.refWs c.refs}:Sw.Tr).on=9)))
  (Sep (TrO b c sn {tr with ws:=Sw.refWs c.refs,pc:=({tr with ws:=Sw.refWs c.refs}:Sw.Tr).on}) (fP bm c m)):=by
 rintro S ⟨S1,S2,⟨x,h1⟩,⟨g,h2⟩,hr⟩
 have h1:(TrB b c sn tr x).at_ S1 w:=h1
 unfold TrB at h1
 rw [if_pos hpc] at h1
 obtain ⟨⟨hnx,hws⟩,h1⟩:=h1
 have hw:tr.hd*8+1<c.words:=by unfold Cf.words;omega
 have hl:(Sw.refWs c.refs).length=(bF c.refs c.refs.length).length:=by rw [jR];simp
 refine (tr_step (α:={x:Value×Value // ∃ y k,x.1=.slice y c.refs.length k}) (t:={tr0 tr.hd sn with steps:=x.steps}) (X:=Emp) (Z:=Mem bm g c.words (mv m))
  (t':=fun y=>{head:=tr.hd,sense:=sn,pc:=if (bF c.refs c.refs.length).length=0 then 9 else 1,rv:=y.1.1,words:=y.1.2,next:=0,steps:=wrap64 (x.steps+1)})
  (X':=fun y=>Sep (WSq y.1.2 (bF c.refs c.refs.length)) (Sep (dS y.1.1 c.refs) Emp)) (Z':=fun _=>Mem bm g c.words (mv m)) (by show (0:Int)≠9;decide)
  (fun w=>trace_does0 hc hs (Nat.le_refl 1) hh hw (fA hc) (by unfold mv;rw [show tr.hd*8+1=c.fw tr.hd 1 from rfl,hm]) p) S ⟨S1,S2,h1,h2,hr⟩).mono fun e w' ⟨y,he,hg⟩=>⟨?_,?_⟩
 · rw [he,on_len];simp only [hl]
 · refine hg.conv fun S w h=>aB.monoL (fun S h=>⟨⟨x.g,x.cap,y.1.1,y.1.2,wrap64 (x.steps+1)⟩,?_⟩) (aB.monoR (fun S h=>⟨g,h⟩) h)
   have e9:¬({tr with ws:=Sw.refWs c.refs}:Sw.Tr).on=0:=by unfold Sw.Tr.on;split<;>decide
   show (TrB _ _ _ _ _).at_ S w
   unfold TrB
   rw [if_neg e9]
   refine ⟨y.2,?_⟩
   unfold trAt
   rw [jR] at h
   simp only [hnx,on_len]
   rw [hl,jR]
   exact h
theorem tro_walks (hc:c.ok) (hl6:c.refs.length≤6) (hpc:tr.pc=1) (hh:tr.hd<c.frags) (hws:tr.ws=k::ws) (hk:k<8) (hlen:ws.length≤100) (hi:(m (c.fw tr.hd k)).i=1) (hb:(m (c.fw tr.hd k)).k≤63) (p:Value) (w:World):
 aJ prog 197 #[.pointer (some ⟨b,0,none⟩),.pointer (some ⟨bm,0,none⟩),p] w (Sep (TrO b c sn tr) (fP bm c m)) (.bool (decide ((if ixB (m (c.fw tr.hd k)).k 1 then 2 else ({tr with ws:=ws}:Sw.Tr).on)=9)))
  (Sep (TrO b c sn {tr with ws:=ws,nx:=ixI (m (c.fw tr.hd k)).k 1,pc:=if ixB (m (c.fw tr.hd k)).k 1 then 2 else ({tr with ws:=ws}:Sw.Tr).on}) (fP bm c m)):=by
 rintro S ⟨S1,S2,⟨x,h1⟩,⟨g,h2⟩,hr⟩
 have h1:(TrB b c sn tr x).at_ S1 w:=h1
 unfold TrB at h1
 rw [if_neg (by rw [hpc];decide)] at h1
 obtain ⟨⟨xa,xk,hx⟩,h1⟩:=h1
 have hw:tr.hd*8+k<c.words:=by unfold Cf.words;omega
 obtain ⟨wk,hwk⟩:∃ wk,(m (c.fw tr.hd k)).k=wk:=⟨_,rfl⟩
 rw [hwk] at hb ⊢
 have hmv:mv m (tr.hd*8+k)=cx wk 1:=by unfold mv;rw [show tr.hd*8+k=c.fw tr.hd k from rfl,hwk,hi]
 rw [hws,List.map_cons] at h1
 have hpc':(trAt c sn tr x).pc=1:=hpc
 refine (tr_step (α:=Value) (t:=trAt c sn tr x) (X:=Sep (WSq x.words ((k:Int)::ws.map Int.ofNat)) (Sep (dS x.rv c.refs) Emp)) (Z:=Sep (Mem bm g c.words (mv m)) Emp)
  (t':=fun wv=>Tr.read {trAt c sn tr x with steps:=wrap64 (x.steps+1)} wk (ws.map Int.ofNat) wv)
  (X':=fun wv=>Sep (WSq wv (ws.map Int.ofNat)) (Sep (dS x.rv c.refs) Emp)) (Z':=fun _=>Sep (Mem bm g c.words (mv m)) Emp) (by rw [hpc'];decide)
  (fun w=>tr_does (by show (1:Int)≤tr.pc;omega) (by show tr.pc≤(2:Int);omega) fun S h=>(trace_walks1 (t:={trAt c sn tr x with steps:=wrap64 (x.steps+1)}) hc hx hl6 hpc hk (by simpa using hlen) hh hw (fA hc) hmv hb h p).mono fun e w' ⟨wv,he,hg⟩=>⟨wv,he,hg⟩) S ⟨S1,S2,h1,gK h2,hr⟩).mono fun e w' ⟨y,he,hg⟩=>⟨?_,?_⟩
 · rw [he,on_len];unfold Tr.read;simp only [List.length_map]
 · refine hg.conv fun S w h=>aB.monoL (fun S h=>⟨⟨x.g,x.cap,x.rv,y,wrap64 (x.steps+1)⟩,?_⟩) (aB.monoR (fun S h=>⟨g,fU h⟩) h)
   have e9:¬(if ixB wk 1 then 2 else ({tr with ws:=ws}:Sw.Tr).on)=0:=by
    unfold Sw.Tr.on
    split
    · decide
    split<;>decide
   show (TrB _ _ _ _ _).at_ S w
   unfold TrB
   rw [if_neg e9]
   refine ⟨⟨xa,xk,hx⟩,?_⟩
   unfold trAt
   simp only [on_len]
   unfold Tr.read at h
   simp only [List.length_map] at h
   exact h
theorem tro_grey (hc:c.ok) (hl6:c.refs.length≤6) (hpc:tr.pc=2) (hi:tr.nx<c.frags) (hu:(q.t tr.nx).hd=true→(q.t tr.nx).st=2) (hp:q.pl.length≤c.stack) (hlen:tr.ws.length≤100) (p:Value) (w:World):
 aJ prog 197 #[.pointer (some ⟨b,0,none⟩),p,.pointer (some ⟨bs,0,none⟩)] w (Sep (TrO b c sn tr) (ShQ bs bt c q)) (.bool (decide (tr.on=9)))
  (Sep (TrO b c sn {tr with pc:=tr.on}) (ShQ bs bt c (q.grey c tr.nx sn))):=by
 rintro S ⟨S1,S2,⟨x,h1⟩,h2,hr⟩
 have h1:(TrB b c sn tr x).at_ S1 w:=h1
 unfold TrB at h1
 rw [if_neg (by rw [hpc];decide)] at h1
 obtain ⟨⟨xa,xk,hx⟩,h1⟩:=h1
 have hpc':(trAt c sn tr x).pc=2:=hpc
 refine (tr_step (α:=Unit) (t:=trAt c sn tr x) (X:=Sep (WSq x.words (tr.ws.map Int.ofNat)) (Sep (dS x.rv c.refs) Emp)) (Z:=ShQ bs bt c q)
  (t':=fun _=>{trAt c sn tr x with steps:=wrap64 (x.steps+1),pc:=if (tr.ws.map Int.ofNat).length=0 then 9 else 1})
  (X':=fun _=>Sep (WSq x.words (tr.ws.map Int.ofNat)) (Sep (dS x.rv c.refs) Emp)) (Z':=fun _=>ShQ bs bt c (q.grey c tr.nx sn)) (by rw [hpc'];decide)
  (fun w=>tr_does (by show (1:Int)≤tr.pc;omega) (by show tr.pc≤(2:Int);omega) fun S h=>(trace_walks2 (t:={trAt c sn tr x with steps:=wrap64 (x.steps+1)}) hc hx hl6 hpc rfl hi hu hp (by simpa using hlen) h p).mono fun e w' ⟨he,hg⟩=>⟨(),he,hg⟩) S ⟨S1,S2,h1,h2,hr⟩).mono fun e w' ⟨y,he,hg⟩=>⟨?_,?_⟩
 · rw [he,on_len];simp only [List.length_map]
 · refine hg.conv fun S w h=>aB.monoL (fun S h=>⟨⟨x.g,x.cap,x.rv,x.words,wrap64 (x.steps+1)⟩,?_⟩) h
   have e9:¬tr.on=0:=by unfold Sw.Tr.on;split<;>decide
   show (TrB _ _ _ _ _).at_ S w
   unfold TrB
   rw [if_neg e9]
   refine ⟨⟨xa,xk,hx⟩,?_⟩
   unfold trAt
   simp only [on_len]
   simp only [List.length_map] at h
   exact h
theorem core_memT (h:aJ prog f args w (Sep T (fP A.bm c q.m)) v (Sep T' (fP A.bm c q.m))):aJ prog f args w (Sep T (aE A c q)) v (Sep T' (aE A c q)):=
 (h.l (B:=Sep (Sep (ShQ A.bs A.bt c q) (Sep (SpQ A.bsp A.bt c q) (HnQ A.bh c.threads q))) (Sep (Var A.b (eO c A) 121) (aZ c A.g A.cap)))).conv
   (fun _ _ h=>aB.assoc' (aB.monoR (fun _ h=>aB.assoc (aB.swap (aB.assoc' h))) h)) fun _ _ h=>aB.monoR (fun _ h=>aB.assoc (aB.swap (aB.assoc' h))) (aB.assoc h)
theorem core_shT (h:aJ prog f args w (Sep T (ShQ A.bs A.bt c q)) v (Sep T' (ShQ A.bs A.bt c q'))) (e:q'.m=q.m∧q'.fr=q.fr∧q'.ln=q.ln∧q'.st=q.st∧q'.sn=q.sn∧q'.own=q.own):aJ prog f args w (Sep T (aE A c q)) v (Sep T' (aE A c q')):=by
 obtain ⟨m,t,pl,lo,fr,ln,st,sn,own⟩:=q
 obtain ⟨m',t',pl',lo',fr',ln',st',sn',own'⟩:=q'
 simp only at e
 obtain ⟨rfl,rfl,rfl,rfl,rfl,rfl⟩:=e
 exact (h.l (B:=Sep (Sep (SpQ A.bsp A.bt c ⟨m',t,pl,lo,fr',ln',st',sn',own'⟩) (HnQ A.bh c.threads ⟨m',t,pl,lo,fr',ln',st',sn',own'⟩)) (Sep (Sep (Var A.b (eO c A) 121) (aZ c A.g A.cap)) (fP A.bm c m')))).conv
  (fun _ _ h=>aB.assoc' (aB.monoR (fun _ h=>aB.assoc (aB.swap (aB.assoc' (aB.assoc' h)))) h)) fun _ _ h=>aB.monoR (fun _ h=>aB.assoc (aB.assoc (aB.swap h))) (aB.monoR (fun _ h=>aB.assoc' h) (aB.assoc h))
theorem jF (q:Sw.Q) (c:Cf) (i:Nat) (s:Bool):(q.grey c i s).m=q.m∧(q.grey c i s).fr=q.fr∧(q.grey c i s).ln=q.ln∧(q.grey c i s).st=q.st∧(q.grey c i s).sn=q.sn∧(q.grey c i s).own=q.own:=by
 unfold Sw.Q.grey;split<;>exact ⟨rfl,rfl,rfl,rfl,rfl,rfl⟩
end
end
end Go.Proofs.YtgcmiahhkalfmaaGreat
