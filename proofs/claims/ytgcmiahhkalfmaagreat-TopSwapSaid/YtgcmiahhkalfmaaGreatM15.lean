import Derived.Test.YtgcmiahhkalfmaaGreatM14
set_option maxRecDepth 100000
set_option maxHeartbeats 8000000
set_option linter.unusedVariables false
set_option linter.unusedSimpArgs false
namespace Go.Proofs.YtgcmiahhkalfmaaGreat
section
attribute [local go_sem] aF aI aO aV
open Go.Proofs.Tryz
open Go.RowKit
variable {c:Cf} {l:List Bool} {cap g:Nat} {S:Nat→Prop} {w w':World}
section
theorem sg_check1 {A C N z1 z2:Nat} (hc:c.ok) (hA:A<c.locals) (hs:c.shapes[0]? = some (false,l)) (h:(aZ c g cap).at_ S w):
 Calls prog 39 #[cfV c g cap,.agg #[.int .i64 1,.int .i64 A,.int .i64 0,.int .i64 C,.int .i64 N,.complex .f64 z1 z2]] w fun e w'=>e=.returned (.int .i64 0)∧aA (aZ c g cap) S w w':=by
 have hb0:Below w.heap.size w ((w.alloc (.cells (aD c (.slice (some ⟨g,0,none⟩) c.shapes.length cap)) 34)).alloc (.cells #[.int .i64 1,.int .i64 A,.int .i64 0,.int .i64 C,.int .i64 N,.complex .f64 z1 z2] 27)):=((Below.refl w.heap.size w).alloc (Nat.le_refl _) _).alloc (by simp) _
 have C0:Blk ((w.alloc (.cells (aD c (.slice (some ⟨g,0,none⟩) c.shapes.length cap)) 34)).alloc (.cells #[.int .i64 1,.int .i64 A,.int .i64 0,.int .i64 C,.int .i64 N,.complex .f64 z1 z2] 27)) w.heap.size (aD c (.slice (some ⟨g,0,none⟩) c.shapes.length cap)) 34:=(Blk.new w _ _).alloc _
 have D0:Blk ((w.alloc (.cells (aD c (.slice (some ⟨g,0,none⟩) c.shapes.length cap)) 34)).alloc (.cells #[.int .i64 1,.int .i64 A,.int .i64 0,.int .i64 C,.int .i64 N,.complex .f64 z1 z2] 27)) (w.heap.size+1) #[.int .i64 1,.int .i64 A,.int .i64 0,.int .i64 C,.int .i64 N,.complex .f64 z1 z2] 27:=by have:=Blk.new (w.alloc (.cells (aD c (.slice (some ⟨g,0,none⟩) c.shapes.length cap)) 34)) #[.int .i64 1,.int .i64 A,.int .i64 0,.int .i64 C,.int .i64 N,.complex .f64 z1 z2] 27;rw [World.size_alloc] at this;exact this
 have HB0:=zz hb0
 have HC0:=zz C0
 have HD0:=zz D0
 have gX:=((aA.begin h).moreSt (St.fresh (aD c (.slice (some ⟨g,0,none⟩) c.shapes.length cap)) 34)).moreSt (St.fresh #[.int .i64 1,.int .i64 A,.int .i64 0,.int .i64 C,.int .i64 N,.complex .f64 z1 z2] 27)
 rw [World.size_alloc] at gX
 have g0:=zz ((aA.begin h).below_ hb0)
 have GX:=zz gX
 have HK:=zz hc
 have HS:=zz hs
 have hl6:l.length≤6:=(hc.shape _ (List.mem_of_getElem? hs)).1
 have hA1:¬(c.locals:Int)≤(A:Int):=by omega
 have hA2:¬c.locals≤A:=by omega
 have hL1:=hc.locals
 have hL2:¬(c.locals:Int)≤0:=by omega
 unfold cfV at*
 simp only [aD] at*
 clear h hc hb0 hs gX
 go_enter func39,ntmps39
 go_upto_region 1 with fail
 generalize (w.alloc _).alloc _=W1 at*
 generalize hob:w.heap.size+1=ob at*
 have d0:=D0.cell 0
 simp at d0
 go_wp2_with fail
 refine qq (sg_word1 _) ?_
 have HCK:=zz (sr_check HK.out g0.out.is)
 obtain ⟨c0,c1,c2,c3,c4,c5,c6,c7,c8⟩:=cf9 C0
 unfold cfV at HCK
 go_wp2_with fail
 refine qz HCK.out fun w3 hb=>?_
 have C3:=aK HC0.out hb
 have D3:=aK HD0.out hb
 have HB3:=zz (HB0.out.trans (hb.mono HB0.out.size))
 have G3:=zz (GX.out.below_ hb)
 clear GX c0 c1 c2 c3 c4 c5 c6 c7 c8 d0 C0 D0 HC0 HD0 HB0 hb HCK g0
 obtain ⟨c0,c1,c2,c3,c4,c5,c6,c7,c8⟩:=cf9 C3
 have d0:=D3.cell 0
 have d1:=D3.cell 1
 have d2:=D3.cell 2
 have d4:=D3.cell 4
 simp at d0 d1 d2 d4
 clear C3 D3
 go_wp2_with fail
 go_loop [4,7,8] (fun _ i _=>∃ q:Nat,q≤3∧i=.int .i64 q) (fun _ i _=>3-(intOf i).toNat)
 case atStart=>exact ⟨0,by omega,rfl⟩
 case round=>
  obtain ⟨q,hq,rfl⟩:=hrel
  have hcase:q=0∨q=1∨q=2∨q=3:=by omega
  rcases hcase with rfl|rfl|rfl|rfl
  · go_wp2_with fail
    go_round
    case rel=>exact ⟨1,by omega,rfl⟩
    case measure=>simp [intOf]
  · go_wp2_with fail
    go_round
    case rel=>exact ⟨2,by omega,rfl⟩
    case measure=>simp [intOf]
  all_goals (
   have HSH:=zz (sr_shape HK.out G3.out.l.l.is HS.out)
   unfold cfV at HSH
   go_wp2_with fail
   with_reducible refine HSH.out.mono ?_
   rintro e w4 ⟨x,k,rfl,hb4,hrf⟩
   clear hrf
   have g5:=(G3.out.below_ hb4).moreSt (St.fresh #[.bool false,.slice x l.length k] 55)
   clear HSH hb4 G3 c0 c1 c2 c3 c4 c5 c6 c7 c8 d0 d1 d2 d4
   obtain ⟨sb,hsb⟩:∃ k,w4.heap.size=k:=⟨_,rfl⟩
   rw [hsb] at g5
   go_upto_region 22 with fail
   (try rw [hsb])
   generalize w4.alloc _=w5 at*
   have d0:=g5.l.r.vi 0 1
   have s0:=g5.r.vb 0 false
   have s1:=g5.r.vC 1 (.slice x l.length k)
   have HZ:=zz fun w1 (gg:aA (Sep (Sep (Sep (aZ c g cap) (Var w.heap.size #[.int .i64 c.frags,.int .i64 c.spine,.int .i64 c.globals,.int .i64 c.threads,.int .i64 c.locals,.int .i64 0,.int .i64 c.stack,.int .i64 c.low,.slice (some ⟨g,0,none⟩) c.shapes.length cap] 34)) (Var ob #[.int .i64 1,.int .i64 A,.int .i64 0,.int .i64 C,.int .i64 N,.complex .f64 z1 z2] 27)) (Var sb #[.bool false,.slice x l.length k] 55)) S w w1)=>gg.plain (sr_size x l.length k w1 hl6)
   have HZ2:=zz fun w1 (gg:aA (Sep (Sep (Sep (aZ c g cap) (Var w.heap.size #[.int .i64 c.frags,.int .i64 c.spine,.int .i64 c.globals,.int .i64 c.threads,.int .i64 c.locals,.int .i64 0,.int .i64 c.stack,.int .i64 c.low,.slice (some ⟨g,0,none⟩) c.shapes.length cap] 34)) (Var ob #[.int .i64 1,.int .i64 A,.int .i64 0,.int .i64 C,.int .i64 N,.complex .f64 z1 z2] 27)) (Var sb #[.bool false,.slice x l.length k] 55)) S w w1)=>gg.plain (sr_spine x l.length k 0 w1 hl6)
   have HZ1:=zz (HZ.out _ g5)
   clear g5
   go_wp2_with fail
   refine qz HZ1.out fun w6 hg=>?_
   have E:=fun i:In (Sep (Sep (Sep (aZ c g cap) (Var w.heap.size #[.int .i64 c.frags,.int .i64 c.spine,.int .i64 c.globals,.int .i64 c.threads,.int .i64 c.locals,.int .i64 0,.int .i64 c.stack,.int .i64 c.low,.slice (some ⟨g,0,none⟩) c.shapes.length cap] 34)) (Var ob #[.int .i64 1,.int .i64 A,.int .i64 0,.int .i64 C,.int .i64 N,.complex .f64 z1 z2] 27)) (Var sb #[.bool false,.slice x l.length k] 55)) S w=>i.h
   have hg1:=zz hg.drew_
   have hne:=Nonempty.intro (⟨_,hg1.out⟩:In _ S w)
   have e0:=fun i=>(E i).l.l.r.vi 0 c.frags
   have e1:=fun i=>(E i).l.l.r.vi 1 c.spine
   have e2:=fun i=>(E i).r.vb 0 false
   have e3:=fun i=>(E i).r.vC 1 (.slice x l.length k)
   have hfr:=HK.out.frags
   have hf1:¬(c.frags:Int)<1:=by omega
   have hf2:decide ((c.frags:Int)<1)=false:=by simp;omega
   have hf3:decide (c.frags<1)=false:=by simp;omega
   have hf4:decide (c.frags=0)=false:=by simp;omega
   clear HZ1 hg E d0 s0 s1
   go_wp2_with fail
   refine bL (by kernel_rfl) (by kernel_rfl) hg1.out ?_
   repeat (go_big_quiet_step (first|exact In.call HZ.out|exact In.call HZ2.out))
   refine wpQuiet_nil ?_
   intro w7 hg7
   clear hne e0 e1 e2 e3 HZ HZ2 hg1
   have HF:=zz hg7.l.l.l
   clear hg7
   go_wp2_with fail
   go_ret
   exact ⟨rfl,HF.out⟩)
end
end
section
variable {sn:Bool} {st:Int} {v:Lc} {i no t:Nat} {nos:Nat→Nat} {os:Nat→Nat→Opn} {o:Nat→Opn} {D D':Nat→Prop}
namespace Sw
def cS:Cf:=⟨24,60,2,2,4,2,24,[(false,[true,true,false]),(true,[true]),(true,[false])]⟩
def Bk (q:Q) (y:Y) (i:Nat):Prop:=i<24∧(q.t i).hd=true∧(q.t i).sn=y.sn
def Al (q:Q) (y:Y) (i:Nat):Prop:=i<24∧(q.t i).hd=true∧(6≤y.st→y.st≤9→(q.t i).sn=y.sn)
def OkW (q:Q) (y:Y) (w:Wd):Prop:=w=wN∨∃ i,w=wR i∧Al q y i
def BkW (q:Q) (y:Y) (w:Wd):Prop:=w=wN∨∃ i,w=wR i∧Bk q y i
def NumW (w:Wd):Prop:=w=w0∨(w.i=1∧w.k≤60)
def LcOk (q:Q) (y:Y) (v:Lc):Prop:=(v.ref=true→OkW q y v.w)∧(v.ref=false→NumW v.w)
structure OpOk (o:Opn):Prop where
 kd:o.kd=1∨o.kd=3∨o.kd=4∨o.kd=7∨o.kd=8∨o.kd=12∨o.kd=13
 a:o.a<4
 b:o.b<4
 n3:o.kd=3→o.n=2
 n4:o.kd=4→o.n<3
 n7:o.kd=7∨o.kd=8→o.n<2
 z:o.kd=12→o.zi=1∧o.zk≤60
 b1:o.kd=1→o.b=0
structure Base (q:Q) (y:Y):Prop where
 tab:∀ i,i<24→((q.t i).st=0∧q.fr i=true∧(q.t i).hd=false)∨((q.t i).st=2∧q.fr i=false)
 typ:∀ i,Al q y i→q.m (i*8+1)=⟨0,1⟩∧OkW q y (q.m (i*8+2))∧OkW q y (q.m (i*8+3))∧NumW (q.m (i*8+4))
 glo:∀ g,g<2→OkW q y (q.m (312+g))
 pl:∀ i,i∈q.pl→Bk q y i
 pl2:q.pl.length≤2
 sn:q.sn=y.sn
structure Hs (y:Y) (t:Nat) (st:Int):Prop where
 s0:y.st=0∨y.st=1∨y.st=9∨y.st=10→st=0
 s2:y.st=2→(st=0∨st=1)∧(y.at_≠0∨t<y.i→st=1)
 s3:y.st=3→(st=1∨st=2)∧(y.at_≠0∨t<y.i→st=2)
 s4:y.st=4→(st=2∨st=3)∧(y.at_=1∧t<y.i→st=3)
 s5:y.st=5→st=3
 s6:y.st=6→(y.at_≠1→st=3)∧(y.at_=1→(st=3∨st=4)∧(t<y.i→st=4))
 s7:y.st=7→st=4
 s8:y.st=8→(st=4∨st=0)∧(y.at_≠0∨t<y.i→st=0)
structure Cy (q:Q) (y:Y):Prop where
 st:0≤y.st∧y.st≤10
 h0:y.st=0∨y.st=1∨y.st=8∨y.st=9∨y.st=10→q.st=0
 h2:y.st=2→q.st=1∧(y.at_=0→y.i<2)
 h3:y.st=3→q.st=2∧(y.at_=0→y.i<2)
 h4:y.st=4→q.st=3∧(y.at_=0∧y.i≤2∨y.at_=1∧y.i<2∨y.at_=3∧y.i<2∧Al q y y.hd)
 h5:y.st=5→q.st=3∧(y.at_=0∨y.at_=4∨y.at_=5∨(y.at_=6∧y.i<24))
 h6:y.st=6→(y.at_=0∨y.at_=2)∧q.st=3∧y.i=0∨y.at_=1∧q.st=4∧y.i<2
 h7:y.st=7→q.st=4
 h8:y.st=8→(y.at_=0→y.i<2)
 h9:y.st=9→y.i<24
 rs:y.st=5→y.at_=4→y.rs=true→y.i<24∧y.tr.hd=y.i
 tr:y.st=5→y.at_=4→Bk q y y.tr.hd∧(y.tr.pc=0∨y.tr.pc=1∧(y.tr.ws=[2,3]∨y.tr.ws=[3])∨y.tr.pc=2∧(y.tr.ws=[3]∨y.tr.ws=[])∧Al q y y.tr.nx)
 b0:y.st=0∨y.st=1∨y.st=10→∀ i,i<24→(q.t i).st=2→(q.t i).sn=y.sn
 b9:y.st=9→∀ i,i<y.i→(q.t i).st=2→(q.t i).sn=y.sn
 b2:y.st=2∨y.st=3→∀ i,Bk q y i→i∈q.pl∨q.lo=true
 b6:y.st<2∨6≤y.st→q.pl=[]∧q.lo=false
 b5:y.st=5→y.at_=5→q.pl=[]∨q.lo=true
structure Un (q:Q) (y:Y) (st:Int) (x:Nat):Prop where
 lt:x<24
 us:(q.t x).st=2
 hd:(q.t x).hd=false
 bk:y.st≤1∨5≤y.st∨(y.st=4∧st=3)→(q.t x).sn=y.sn
 wh:y.st=2∨y.st=3→(q.t x).sn=!y.sn
structure Wr (q:Q) (y:Y) (o:Opn) (p:T):Prop where
 kd:o.kd=4∨o.kd=8
 w:p.w=(p.l o.b).w
 rf:(p.l o.b).ref=p.rf
 a4:o.kd=4→(p.l o.a).ref=true∧∃ h,(p.l o.a).w=wR h∧p.ad=h*8+(2+o.n)∧p.rf=decide (o.n<2)
 a8:o.kd=8→p.ad=312+o.n∧p.rf=true
 r3:p.at_=3∨p.at_=4∨p.at_=5→p.rf=true∧shades p.st=true
 r4:p.at_=4→∃ i,p.old=wR i∧Al q y i
 r5:p.at_=5→both p.st=true∧∃ i,p.w=wR i
 r6:p.at_=6→p.rf=true→both p.st=true→BkW q y p.w
structure Hr (q:Q) (y:Y) (t:Nat) (p:T) (sn:Bool):Prop where
 own:q.own t=p.st
 hs:Hs y t p.st
 sn:p.sn=sn
def snOf (y:Y) (st:Int):Bool:=if y.st=2∧st=0 then !y.sn else y.sn
structure Mk (t no:Nat) (o:Nat→Opn) (p:T):Prop where
 t:t=0
 nx:p.nx<no
 kd:(o p.nx).kd=1
inductive At (q:Q) (y:Y) (t no:Nat) (o:Nat→Opn) (p:T):Prop
 | out (ph:p.ph=0) (own:q.own t=-1) (l0:∀ j,j<4→p.l j=⟨false,0,0⟩)
 | gone (ph:p.ph=4) (own:q.own t=-1) (l0:∀ j,j<4→(p.l j).ref=false)
 | idle (ph:p.ph=1) (pc:p.pc=0∨p.pc=3∨p.pc=4) (h:Hr q y t p (snOf y p.st))
 | ans (ph:p.ph=1∨p.ph=3∧Mk t no o p) (h:Hr q y t p y.sn) (seen:p.seen=q.st) (st:p.st≠q.st) (pc:p.pc=1∧p.seen=3∧p.grey≠[]∨p.pc=2∧p.grey=[])
  (ga:∀ i,i∈p.grey→Al q y i) (gr:p.seen=3→∀ j,j<4→(p.l j).ref=true→BkW q y (p.l j).w∨∃ i,(p.l j).w=wR i∧i∈p.grey)
 | wait (ph:p.ph=3) (pc:p.pc=0∨p.pc=5) (k:Mk t no o p) (h:Hr q y t p (snOf y p.st))
 | start (ph:p.ph=2) (at_:p.at_=0) (nx:p.nx<no) (h:Hr q y t p (snOf y p.st))
 | read (ph:p.ph=2) (at_:p.at_=2) (nx:p.nx<no) (h:Hr q y t p (snOf y p.st)) (kd:(o p.nx).kd=3) (rf:p.rf=false) (r:(p.l (o p.nx).b).ref=true) (ad:∃ h,(p.l (o p.nx).b).w=wR h∧p.ad=h*8+4)
 | writ (ph:p.ph=2) (at_:3≤p.at_∧p.at_≤6) (nx:p.nx<no) (h:Hr q y t p (snOf y p.st)) (w:Wr q y (o p.nx) p)
 | make (ph:p.ph=2) (at_:p.at_=7) (k:Mk t no o p) (h:Hr q y t p (snOf y p.st)) (wk:p.wk<8) (u:Un q y p.st p.got) (m:∀ k,k<p.wk→q.m (p.got*8+k)=plW cS.refs k)
 | born (ph:p.ph=2) (at_:p.at_=8) (k:Mk t no o p) (h:Hr q y t p (snOf y p.st)) (u:Un q y p.st p.got) (m:∀ k,k<8→q.m (p.got*8+k)=plW cS.refs k)
structure Ti (q:Q) (y:Y) (t no:Nat) (o:Nat→Opn) (p:T):Prop where
 l:∀ j,j<4→LcOk q y (p.l j)
 a:At q y t no o p
structure Ln (q:Q) (y:Y) (p:T):Prop where
 no:p.ph≠3→q.ln=none
 is:p.ph=3→∃ r,q.ln=some r∧(r.st=0∨r.st=1∨r.st=2)∧(r.st=1→Un q y p.st r.got∧(p.st=0∨p.st=1∧p.pc=5))
def Src (q:Q) (y:Y) (x f:Nat):Prop:=x∈q.pl∨q.lo=true∨(y.st=5∧((y.at_=6∧y.i≤x)∨(y.at_=4∧y.rs=true∧y.i<x)∨
 (y.at_=4∧y.tr.hd=x∧(y.tr.pc=0∨f∈y.tr.ws∨(y.tr.pc=2∧f=(if y.tr.ws=[3] then 2 else 3))))))
def Pend (y:Y) (g:Nat):Prop:=y.st=4∧y.at_≠1∧y.i≤g
inductive Pr (q:Q) (y:Y) (D:Nat→Prop):Nat→Prop
 | bk {x}:Bk q y x→Pr q y D x
 | gl {g x}:g<2→Pend y g→¬D (312+g)→q.m (312+g)=wR x→Al q y x→Pr q y D x
 | ed {z f x}:Pr q y D z→Al q y z→f=2∨f=3→(¬Bk q y z∨Src q y z f)→¬D (z*8+f)→q.m (z*8+f)=wR x→Al q y x→Pr q y D x
def PrW (q:Q) (y:Y) (D:Nat→Prop) (w:Wd):Prop:=w=wN∨∃ i,w=wR i∧Pr q y D i
def Loc (q:Q) (y:Y) (a:Nat):Prop:=(∃ h f,Al q y h∧(f=2∨f=3)∧a=h*8+f)∨∃ g,g<2∧a=312+g
def T.here (p:T):Prop:=p.ph=1∨p.ph=2∨p.ph=3
structure T3 (q:Q) (y:Y) (D:Nat→Prop) (p:T):Prop where
 w4:p.ph=2→2≤p.st→p.at_=4→¬D p.ad→q.m p.ad=p.old
 w5:p.ph=2→2≤p.st→p.at_=5∨p.at_=6→p.rf=true→¬D p.ad→BkW q y (q.m p.ad)
structure T4 (q:Q) (y:Y) (D:Nat→Prop) (p:T):Prop where
 l:p.here→p.st=3→∀ j,j<4→(p.l j).ref=true→PrW q y D (p.l j).w
 o:p.ph=2→p.st=3→p.at_=4→PrW q y D p.old
structure S4 (q:Q) (y:Y) (D:Nat→Prop):Prop where
 d:∀ a,Loc q y a→D a→PrW q y D (q.m a)
 f:∀ x,Bk q y x→∀ f,(f=2∨f=3)→¬D (x*8+f)→Src q y x f∨BkW q y (q.m (x*8+f))
 g:∀ g,g<2→¬D (312+g)→Pend y g∨BkW q y (q.m (312+g))
 r:y.st=4→y.at_=3→¬D (312+y.i)→q.m (312+y.i)=wR y.hd
 t:y.st=5→y.at_=4→y.tr.pc=2→¬D (y.tr.hd*8+(if y.tr.ws=[3] then 2 else 3))→q.m (y.tr.hd*8+(if y.tr.ws=[3] then 2 else 3))=wR y.tr.nx
structure Inv (no:Nat→Nat) (o:Nat→Nat→Opn) (D:Nat→Prop) (q:Q) (y:Y) (p:Nat→T):Prop where
 b:Base q y
 c:Cy q y
 t:∀ t,t<2→Ti q y t (no t) (o t) (p t)
 ln:Ln q y (p 0)
 d3:y.st=3→∀ a,Loc q y a→D a→BkW q y (q.m a)
 t3:3≤y.st→y.st≤5→∀ t,t<2→T3 q y D (p t)
 s4:4≤y.st→y.st≤5→S4 q y D
 t4:4≤y.st→y.st≤5→∀ t,t<2→T4 q y D (p t)
end Sw
namespace Sw
section
variable {q q':Q} {y y':Y} {w:Wd} {p:T} {x:Nat}
theorem Bk.al (h:Bk q y x):Al q y x:=⟨h.1,h.2.1,fun _ _=>h.2.2⟩
theorem OkW.mono (al:∀ i,Al q y i→Al q' y' i) (h:OkW q y w):OkW q' y' w:=h.imp id fun ⟨i,a,b⟩=>⟨i,a,al i b⟩
theorem BkW.mono (bk:∀ i,Bk q y i→Bk q' y' i) (h:BkW q y w):BkW q' y' w:=h.imp id fun ⟨i,a,b⟩=>⟨i,a,bk i b⟩
theorem BkW.ok (h:BkW q y w):OkW q y w:=h.imp id fun ⟨i,a,b⟩=>⟨i,a,b.al⟩
theorem PrW.mono (pr:∀ i,Pr q y D i→Pr q' y' D' i) (h:PrW q y D w):PrW q' y' D' w:=h.imp id fun ⟨i,a,b⟩=>⟨i,a,pr i b⟩
theorem BkW.pr (h:BkW q y w):PrW q y D w:=h.imp id fun ⟨i,a,b⟩=>⟨i,a,.bk b⟩
theorem LcOk.mono (al:∀ i,Al q y i→Al q' y' i) (h:LcOk q y v):LcOk q' y' v:=⟨fun r=>(h.1 r).mono al,h.2⟩
theorem Pr.al (h:Pr q y D x):Al q y x:=by
 cases h with
 | bk h=>exact h.al
 | gl _ _ _ _ h=>exact h
 | ed _ _ _ _ _ _ h=>exact h
theorem PrW.ok (h:PrW q y D w):OkW q y w:=h.imp id fun ⟨i,a,b⟩=>⟨i,a,b.al⟩
theorem Pr.mono (bk:∀ i,Bk q y i→Bk q' y' i) (gl:∀ g x,g<2→Pend y g→¬D (312+g)→q.m (312+g)=wR x→Al q y x→Pr q' y' D' x)
 (ed:∀ z f x,Al q y z→Pr q' y' D' z→f=2∨f=3→(¬Bk q y z∨Src q y z f)→¬D (z*8+f)→q.m (z*8+f)=wR x→Al q y x→Pr q' y' D' x):∀ x,Pr q y D x→Pr q' y' D' x:=by
 intro x h
 induction h with
 | bk h=>exact .bk (bk _ h)
 | gl a b c d e=>exact gl _ _ a b c d e
 | ed _ b c d e f g ih=>exact ed _ _ _ b ih c d e f g
theorem S4.in (h:S4 q y D) (b:Base q y) {z f:Nat} (hz:Pr q y D z) (hf:f=2∨f=3):PrW q y D (q.m (z*8+f)):=by
 have ha:=hz.al
 by_cases d:D (z*8+f)
 · exact h.d _ (.inl ⟨z,f,ha,hf,rfl⟩) d
 · have hok:OkW q y (q.m (z*8+f)):=by
    obtain ⟨_,h2,h3,_⟩:=b.typ z ha
    rcases hf with rfl|rfl<;>assumption
   by_cases hb:Bk q y z
   · rcases h.f z hb f hf d with hs|hs
     · exact hok.imp id fun ⟨i,a,b⟩=>⟨i,a,.ed hz ha hf (.inr hs) d a b⟩
     · exact hs.pr
   · exact hok.imp id fun ⟨i,a,b⟩=>⟨i,a,.ed hz ha hf (.inl hb) d a b⟩
theorem S4.glo (h:S4 q y D) (b:Base q y) {g:Nat} (hg:g<2):PrW q y D (q.m (312+g)):=by
 by_cases d:D (312+g)
 · exact h.d _ (.inr ⟨g,hg,rfl⟩) d
 · rcases h.g g hg d with hs|hs
   · exact (b.glo g hg).imp id fun ⟨i,a,b⟩=>⟨i,a,.gl hg hs d a b⟩
   · exact hs.pr
theorem Pr.now (hs:∀ z f,¬Src q y z f) (hp:∀ g,¬Pend y g):∀ x,Pr q y D x→Bk q y x:=by
 intro x h
 induction h with
 | bk h=>exact h
 | gl _ b _ _ _=>exact (hp _ b).elim
 | ed _ _ _ d _ _ _ ih=>exact d.elim (fun h=>(h ih).elim) fun h=>(hs _ _ h).elim
theorem Un.mono (h:Un q y st x) (e:q'.t x=q.t x):Un q' y st x:=⟨h.lt,e▸h.us,e▸h.hd,fun k=>e▸h.bk k,fun k=>e▸h.wh k⟩
theorem Hr.mono (h:Hr q y t p sn) (e:q'.own t=q.own t):Hr q' y t p sn:=⟨e.trans h.own,h.hs,h.sn⟩
theorem Wr.mono {o:Opn} (al:∀ i,Al q y i→Al q' y i) (bk:∀ i,Bk q y i→Bk q' y i) (h:Wr q y o p):Wr q' y o p:=
 ⟨h.kd,h.w,h.rf,h.a4,h.a8,h.r3,fun e=>(let ⟨i,a,b⟩:=h.r4 e;⟨i,a,al i b⟩),h.r5,fun a b c=>(h.r6 a b c).mono bk⟩
structure Ef (q q':Q) (y:Y) (D D':Nat→Prop) (t:Nat) (p0:T):Prop where
 b:Base q' y
 c:Cy q' y
 al:∀ i,Al q y i→Al q' y i
 bk:∀ i,Bk q y i→Bk q' y i
 st:q'.st=q.st
 own:∀ k,k≠t→q'.own k=q.own k
 un:t≠0→∀ st x,Un q y st x→q'.t x=q.t x∧∀ k,k<8→q'.m (x*8+k)=q.m (x*8+k)
 ln:t≠0→q'.ln=q.ln
 d3:y.st=3→∀ a,Loc q' y a→D' a→BkW q' y (q'.m a)
 s4:4≤y.st→y.st≤5→S4 q' y D'
 pr:4≤y.st→y.st≤5→∀ x,Pr q y D x→Pr q' y D' x
 dd:∀ a,D a→D' a
 m:∀ a,Loc q y a→¬D' a→q'.m a=q.m a
 la:∀ i,Al q' y i→Al q y i∨(q.t i).hd=false
theorem At.mono {p0:T} (e:Ef q q' y D D' t p0) {s:Nat} (hs:s≠t) (h:At q y s no o p):At q' y s no o p:=by
 have ow:=e.own s hs
 cases h with
 | out a b c=>exact .out a (ow.trans b) c
 | gone a b c=>exact .gone a (ow.trans b) c
 | idle a b c=>exact .idle a b (c.mono ow)
 | ans a b c d f ga gr=>exact .ans a (b.mono ow) (c.trans e.st.symm) (e.st▸d) f (fun i hi=>e.al i (ga i hi)) fun s3 j hj hr=>(gr s3 j hj hr).imp (·.mono e.bk) id
 | wait a b c d=>exact .wait a b c (d.mono ow)
 | start a b c d=>exact .start a b c (d.mono ow)
 | read a b c d f g r hh=>exact .read a b c (d.mono ow) f g r hh
 | writ a b c d f=>exact .writ a b c (d.mono ow) (f.mono e.al e.bk)
 | make a b c d f g m=>
  have hu:=e.un (fun h0=>hs (c.t.trans h0.symm)) _ _ g
  exact .make a b c (d.mono ow) f (g.mono hu.1) fun k hk=>(hu.2 k (by omega)).trans (m k hk)
 | born a b c d g m=>
  have hu:=e.un (fun h0=>hs (c.t.trans h0.symm)) _ _ g
  exact .born a b c (d.mono ow) (g.mono hu.1) fun k hk=>(hu.2 k hk).trans (m k hk)
theorem Wr.loc {o:Opn} (hk:OpOk o) (h:Wr q y o p) (hl:∀ j,j<4→LcOk q y (p.l j)) (hr:p.rf=true):Loc q y p.ad:=by
 rcases h.kd with k|k
 · obtain ⟨h1,z,h2,h3,h4⟩:=h.a4 k
   have:=(hl _ hk.a).1 h1
   rw [h2] at this
   rcases this with e|⟨i,e,ha⟩
   · simp [wR,wN] at e
   · simp [wR] at e
     subst e
     rw [hr] at h4
     exact .inl ⟨z,2+o.n,ha,(by have:o.n<2:=(by simpa using h4.symm);omega),h3⟩
 · exact .inr ⟨o.n,hk.n7 (.inr k),(h.a8 k).1⟩
theorem Loc.far (b:Base q y) {a x k:Nat} (h:Loc q y a) (hx:x<24) (hd:(q.t x).hd=false) (hk:k<8):a≠x*8+k:=by
 rcases h with ⟨z,f,hz,hf,rfl⟩|⟨g,hg,rfl⟩
 · intro e
   have:z=x:=by omega
   subst this
   rw [hz.2.1] at hd;simp at hd
 · omega
theorem T3.mono {p0:T} (e:Ef q q' y D D' t p0) (h:T3 q y D p) (lo:p.ph=2→p.at_=4∨p.at_=5∨p.at_=6→p.rf=true→Loc q y p.ad) (rf:p.ph=2→p.at_=4→p.rf=true):T3 q' y D' p:=by
 refine ⟨fun a b c d=>?_,fun a b c d f=>?_⟩
 · rw [e.m _ (lo a (.inl c) (rf a c)) d];exact h.w4 a b c fun hD=>d (e.dd _ hD)
 · rw [e.m _ (lo a (.inr c) d) f];exact (h.w5 a b c d fun hD=>f (e.dd _ hD)).mono e.bk
theorem T4.mono (pr:∀ x,Pr q y D x→Pr q' y' D' x) (h:T4 q y D p):T4 q' y' D' p:=⟨fun a b j hj hr=>(h.l a b j hj hr).mono pr,fun a b c=>(h.o a b c).mono pr⟩
theorem At.loc (h:At q y t no o p) (ok:∀ i,i<no→OpOk (o i)) (hl:∀ j,j<4→LcOk q y (p.l j)) (ph:p.ph=2) (at_:p.at_=4∨p.at_=5∨p.at_=6) (hr:p.rf=true):Loc q y p.ad:=by
 cases h with
 | writ _ _ nx _ w=>exact w.loc (ok _ nx) hl hr
 | _=>exfalso;omega
theorem At.rf (h:At q y t no o p) (ph:p.ph=2) (at_:p.at_=4):p.rf=true:=by
 cases h with
 | writ _ _ _ _ w=>exact (w.r3 (.inr (.inl at_))).1
 | _=>exfalso;omega
variable {ps:Nat→T} {p':T}
theorem Inv.step (I:Inv nos os D q y ps) (ok:∀ t,t<2→∀ i,i<nos t→OpOk (os t i)) (ht:t<2) (e:Ef q q' y D D' t (ps 0)) (a:Ti q' y t (nos t) (os t) p') (ln:t=0→Ln q' y p')
 (t3:3≤y.st→y.st≤5→T3 q' y D' p') (t4:4≤y.st→y.st≤5→T4 q' y D' p'):Inv nos os D' q' y (set ps t p')∧∀ i,Al q' y i→Al q y i∨(q.t i).hd=false:=by
 refine ⟨?_,e.la⟩
 refine ⟨e.b,e.c,fun s hs=>?_,?_,e.d3,fun h h' s hs=>?_,e.s4,fun h h' s hs=>?_⟩
 · unfold set;split
   · next h=>subst h;exact a
   · next h=>exact ⟨fun j hj=>((I.t s hs).l j hj).mono e.al,(I.t s hs).a.mono e h⟩
 · unfold set;split
   · next h=>exact ln h.symm
   · next h=>
     refine ⟨fun k=>(e.ln (Ne.symm h)).trans (I.ln.no k),fun k=>?_⟩
     obtain ⟨r,h1,h2,h3⟩:=I.ln.is k
     exact ⟨r,(e.ln (Ne.symm h)).trans h1,h2,fun k=>⟨(h3 k).1.mono (e.un (Ne.symm h) _ _ (h3 k).1).1,(h3 k).2⟩⟩
 · unfold set;split
   · exact t3 h h'
   · next hn=>
     have hi:=I.t s hs
     exact (I.t3 h h' s hs).mono e (fun a b c=>hi.a.loc (ok s hs) hi.l a b c) hi.a.rf
 · unfold set;split
   · exact t4 h h'
   · next hn=>exact (I.t4 h h' s hs).mono (e.pr h h')
end
end Sw
namespace Sw
section
variable {q q':Q} {y y':Y} {w:Wd} {p p0:T} {x:Nat}
theorem Base.used (b:Base q y) (hi:i<24) (h:(q.t i).hd=true):(q.t i).st=2:=by
 rcases b.tab i hi with ⟨_,_,h2⟩|⟨h1,_⟩
 · rw [h] at h2;simp at h2
 · exact h1
theorem Cy.black (c:Cy q y) (b:Base q y) (h:Al q y i) (hs:y.st<2∨6≤y.st):Bk q y i:=by
 refine ⟨h.1,h.2.1,?_⟩
 have:=c.st
 by_cases h9:6≤y.st∧y.st≤9
 · exact h.2.2 h9.1 h9.2
 · exact c.b0 (by omega) i h.1 (b.used h.1 h.2.1)
theorem ef_same (own:Nat→Int) (ln:Option Rq) (b:Base q y) (c:Cy q y) (hd3:y.st=3→∀ a,Loc q y a→D a→BkW q y (q.m a)) (hs4:4≤y.st→y.st≤5→S4 q y D)
 (ho:∀ k,k≠t→own k=q.own k) (hl:t≠0→ln=q.ln):Ef q {q with own:=own,ln:=ln} y D D t p0:=by
 have pr:∀ x,Pr q y D x→Pr {q with own:=own,ln:=ln} y D x:=Pr.mono (fun _ h=>h) (fun g x a b c d e=>.gl a b c d e) (fun z f x a b c d e f g=>.ed b a c d e f g)
 refine ⟨⟨b.tab,b.typ,b.glo,b.pl,b.pl2,b.sn⟩,⟨c.st,c.h0,c.h2,c.h3,c.h4,c.h5,c.h6,c.h7,c.h8,c.h9,c.rs,c.tr,c.b0,c.b9,c.b2,c.b6,c.b5⟩,fun _ h=>h,fun _ h=>h,rfl,ho,fun _ _ _ _=>⟨rfl,fun _ _=>rfl⟩,hl,hd3,fun h h'=>?_,fun _ _=>pr,fun _ h=>h,fun _ _ _=>rfl,fun _ h=>.inl h⟩
 have s:=hs4 h h'
 exact ⟨fun a ha hd=>(s.d a ha hd).mono pr,s.f,s.g,s.r,s.t⟩
theorem grey_cases (b:Base q y) (hi:Al q y i):(q.grey cS i y.sn=q∧Bk q y i)∨(¬Bk q y i∧q.grey cS i y.sn={q with t:=set q.t i {q.t i with sn:=y.sn},pl:=if q.pl.length<2 then q.pl++[i] else q.pl,lo:=if q.pl.length<2 then q.lo else true}):=by
 have hu:=b.used hi.1 hi.2.1
 unfold Q.grey Q.blk
 by_cases h:(q.t i).sn=y.sn
 · left
   refine ⟨?_,hi.1,hi.2.1,h⟩
   rw [if_neg]
   simp [hu,h]
 · right
   refine ⟨fun hb=>h hb.2.2,?_⟩
   rw [if_pos ⟨hi.2.1,by simp [hu,h]⟩]
   rfl
theorem ef_grey (b:Base q y) (c:Cy q y) (hd3:y.st=3→∀ a,Loc q y a→D a→BkW q y (q.m a)) (hs4:4≤y.st→y.st≤5→S4 q y D) (hi:Al q y i) (h5:y.st=5→y.at_=5→Pr q y D i):
 Ef q (q.grey cS i y.sn) y D D t p0∧Bk (q.grey cS i y.sn) y i:=by
 rcases grey_cases b hi with ⟨e,hb⟩|⟨hnb,e⟩
 · rw [e]
   exact ⟨ef_same q.own q.ln b c hd3 hs4 (fun _ _=>rfl) fun _=>rfl,hb⟩
 rw [e]
 have hst:2≤y.st∧y.st≤5:=by
  have:=mt (c.black b hi) hnb
  omega
 have hne:∀ j,j≠i→set q.t i {q.t i with sn:=y.sn} j=q.t j:=fun j hj=>by simp [set,hj]
 have heq:set q.t i {q.t i with sn:=y.sn} i={q.t i with sn:=y.sn}:=by simp [set]
 generalize hpl:(if q.pl.length<2 then q.pl++[i] else q.pl)=pl'
 generalize hlo:(if q.pl.length<2 then q.lo else true)=lo'
 have hplm:∀ j,j∈q.pl→j∈pl':=by intro j hj;subst hpl;split<;>simp [hj]
 have hlom:q.lo=true→lo'=true:=by intro h;subst hlo;split<;>simp [h]
 have hin:i∈pl'∨lo'=true:=by subst hpl hlo;split<;>simp
 generalize hq:({q with t:=set q.t i {q.t i with sn:=y.sn},pl:=pl',lo:=lo'}:Q)=q'
 have qt:∀ j,j≠i→q'.t j=q.t j:=by subst hq;exact hne
 have qi:q'.t i={q.t i with sn:=y.sn}:=by subst hq;exact heq
 have qm:q'.m=q.m:=by subst hq;rfl
 have qp:q'.pl=pl':=by subst hq;rfl
 have ql:q'.lo=lo':=by subst hq;rfl
 have qf:q'.fr=q.fr:=by subst hq;rfl
 have qs:q'.st=q.st:=by subst hq;rfl
 have qn:q'.sn=q.sn:=by subst hq;rfl
 have qo:q'.own=q.own:=by subst hq;rfl
 have qln:q'.ln=q.ln:=by subst hq;rfl
 have bk:∀ j,Bk q y j→Bk q' y j:=fun j h=>by
  by_cases e:j=i
  · subst e;exact (hnb h).elim
  · exact ⟨h.1,by rw [qt j e];exact h.2.1,by rw [qt j e];exact h.2.2⟩
 have bi:Bk q' y i:=⟨hi.1,by rw [qi];exact hi.2.1,by rw [qi]⟩
 have bk':∀ j,Bk q' y j→j≠i→Bk q y j:=fun j h e=>by
  have:=h.2;rw [qt j e] at this;exact ⟨h.1,this⟩
 have al:∀ j,Al q y j→Al q' y j:=fun j h=>⟨h.1,by by_cases e:j=i;{subst e;rw [qi];exact h.2.1};{rw [qt j e];exact h.2.1},fun _ _=>by omega⟩
 have al':∀ j,Al q' y j→Al q y j:=fun j h=>⟨h.1,by by_cases e:j=i;{subst e;exact hi.2.1};{rw [←qt j e];exact h.2.1},fun _ _=>by omega⟩
 have lo:∀ a,Loc q' y a→Loc q y a:=fun a h=>h.imp (fun ⟨z,f,a,b⟩=>⟨z,f,al' z a,b⟩) id
 have src:∀ z f,Src q y z f→Src q' y z f:=fun z f h=>by
  rcases h with h|h|h
  · exact .inl (qp▸hplm z h)
  · exact .inr (.inl (ql▸hlom h))
  · exact .inr (.inr h)
 have sri:∀ f,Src q' y i f:=fun f=>hin.elim (fun h=>.inl (qp▸h)) fun h=>.inr (.inl (ql▸h))
 have pr:∀ x,Pr q y D x→Pr q' y D x:=Pr.mono bk (fun g x a b c d e=>.gl a b c (by rw [qm];exact d) (al _ e))
  fun z f x a b c d e g k=>.ed b (al _ a) c (by
   by_cases hz:z=i
   · subst hz;exact .inr (sri f)
   · exact d.imp (fun h h'=>h (bk' z h' hz)) (src z f)) e (by rw [qm];exact g) (al _ k)
 have us:∀ j,(q'.t j).st=(q.t j).st∧(q'.t j).hd=(q.t j).hd:=fun j=>by
  by_cases e:j=i
  · subst e;rw [qi];exact ⟨rfl,rfl⟩
  · rw [qt j e];exact ⟨rfl,rfl⟩
 refine ⟨⟨⟨fun j hj=>?_,fun j hj=>?_,fun g hg=>?_,fun j hj=>?_,?_,qn.trans b.sn⟩,⟨c.st,by rw [qs];exact c.h0,by rw [qs];exact c.h2,by rw [qs];exact c.h3,fun h=>?_,by rw [qs];exact c.h5,by rw [qs];exact c.h6,by rw [qs];exact c.h7,c.h8,c.h9,c.rs,fun a b=>?_,fun h=>by omega,fun h=>by omega,fun h j hj=>?_,fun h=>by omega,fun h h'=>?_⟩,
  al,bk,qs,fun k _=>by rw [qo],fun _ _ x hu=>⟨qt x fun e=>?_,fun k _=>by rw [qm]⟩,fun _=>qln,fun h a ha hD=>?_,fun h h'=>?_,fun _ _=>pr,fun _ h=>h,fun a _ _=>by rw [qm],fun j h=>.inl (al' j h)⟩,bi⟩
 · rw [(us j).1,(us j).2,qf];exact b.tab j hj
 · rw [qm];obtain ⟨a1,a2,a3,a4⟩:=b.typ j (al' j hj);exact ⟨a1,a2.mono al,a3.mono al,a4⟩
 · rw [qm];exact (b.glo g hg).mono al
 · rw [qp,←hpl] at hj
   split at hj
   · simp at hj;exact hj.elim (fun h=>bk j (b.pl j h)) fun h=>h▸bi
   · exact bk j (b.pl j hj)
 · rw [qp,←hpl];split
   · simp;omega
   · exact b.pl2
 · rw [qs];have:=c.h4 h;exact ⟨this.1,this.2.imp id (·.imp id fun ⟨a,b,c⟩=>⟨a,b,al _ c⟩)⟩
 · obtain ⟨h1,h2⟩:=c.tr a b;exact ⟨bk _ h1,h2.imp id (·.imp id fun ⟨a,b,c⟩=>⟨a,b,al _ c⟩)⟩
 · rw [qp,ql]
   by_cases e:j=i
   · subst e;exact hin
   · exact (c.b2 h j (bk' j hj e)).imp (hplm j) hlom
 · rw [qp,ql]
   rcases c.b5 h h' with hp|hl
   · by_cases hlo2:q.lo=true
     · exact .inr (hlom hlo2)
     · refine absurd (Pr.now (fun z f hs=>?_) (fun g hg=>?_) i (h5 h h')) hnb
       · rcases hs with hs|hs|⟨_,hs|hs|hs⟩
         · rw [hp] at hs;simp at hs
         · exact hlo2 hs
         · omega
         · omega
         · omega
       · have:=hg.1;omega
   · exact .inr (hlom hl)
 · subst e;have:=hu.hd;simp [hi.2.1] at this
 · rw [qm];exact (hd3 h a (lo a ha) hD).mono bk
 · have s:=hs4 h h'
   refine ⟨fun a ha hD=>?_,fun x hx f hf hD=>?_,fun g hg hD=>?_,by rw [qm];exact s.r,by rw [qm];exact s.t⟩
   · rw [qm];exact (s.d a (lo a ha) hD).mono pr
   · by_cases e:x=i
     · subst e;exact .inl (sri f)
     · rw [qm];exact (s.f x (bk' x hx e) f hf hD).imp (src x f) (·.mono bk)
   · rw [qm];exact (s.g g hg hD).imp id (·.mono bk)
end
end Sw
end
end Go.Proofs.YtgcmiahhkalfmaaGreat
