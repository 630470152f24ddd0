import Derived.Test.YtgcmiahhkalfmaaGreatM20
set_option maxRecDepth 100000
set_option maxHeartbeats 8000000
set_option linter.unusedVariables false
set_option linter.unusedSimpArgs false
namespace Go.Proofs.YtgcmiahhkalfmaaGreat
variable {er:Int} {got i kd len t:Nat} {ids:Nat→Int} {l l':Nat→Lc} {nos:Nat→Nat} {os:Nat→Nat→Opn} {D D':Nat→Prop} {o:Opn}
namespace Sw
section
variable {q q':Q} {y y':Y} {ps:Nat→T} {g:Gr} {rs:Rs} {p':T}
theorem wN_R (i:Nat):wR i≠wN:=by simp [wR,wN]
theorem Mn.no {w v:Wd} (h:Mn ids w v):w=wN↔v=wN:=by
 rcases h with ⟨a,b⟩|⟨i,d,a,_,b⟩
 · simp [a,b]
 · simp [a,b,wN_R]
theorem Mn.ref {v:Wd} (h:Mn ids (wR i) v):∃ d:Nat,ids i=d∧v=wR d:=by
 rcases h with ⟨a,_⟩|⟨j,d,a,b,c⟩
 · exact (wN_R i a).elim
 · simp [wR] at a;subst a;exact ⟨d,b,c⟩
theorem opEr_mn (hk:OpOk o) (h:∀ j,j<4→MnL ids (l j) (l' j)):opEr o l=opEr o l':=by
 have one:∀ j,j<4→∀ s:Bool,(if (l j).ref=false then (4:Int) else if s=true∧(l j).w=wN then 3 else 0)=(if (l' j).ref=false then (4:Int) else if s=true∧(l' j).w=wN then 3 else 0):=fun j hj s=>by
  obtain ⟨h1,h2,_⟩:=h j hj
  rw [←h1]
  cases hr:(l j).ref with
  | false=>rfl
  | true=>simp only [(h2 hr).no]
 unfold opEr must
 split
 · rfl
 · next x=>
   split at x
   · simp at x;obtain ⟨rfl,rfl⟩:=x;exact one _ hk.b _
   · split at x
     · simp at x;obtain ⟨rfl,rfl⟩:=x;exact one _ hk.a _
     · split at x
       · simp at x;obtain ⟨rfl,rfl⟩:=x;exact one _ hk.b _
       · simp at x
theorem Rel.keep (R:Rel ids g q y ps) (ht:t<2) (al:∀ i,Al q' y i→Al q y i) (m:∀ i,Al q y i→q'.m (i*8+2)=q.m (i*8+2)∧q'.m (i*8+3)=q.m (i*8+3)∧q'.m (i*8+4)=q.m (i*8+4)) (mg:∀ k,k<2→q'.m (312+k)=q.m (312+k))
 (hh:p'.here↔(ps t).here) (hl:p'.here→∀ j,j<4→MnL ids (p'.l j) (g.l t j)):Rel ids g q' y (set ps t p'):=by
 refine ⟨fun i a=>R.id i (al i a),fun i j a b=>R.inj i j (al i a) (al j b),fun i a=>?_,fun k hk=>by rw [mg k hk];exact R.gl k hk,fun s hs h=>?_,fun s hs=>?_⟩
 · obtain ⟨e1,e2,e3⟩:=m i (al i a);rw [e1,e2,e3];exact R.fl i (al i a)
 · unfold set at *;split
   · next e=>subst e;rw [if_pos rfl] at h;exact hl h
   · next e=>rw [if_neg e] at h;exact R.lo s hs h
 · unfold set;split
   · next e=>subst e;rw [hh];exact R.th s hs
   · exact R.th s hs
theorem Rel.lay (R:Rel ids g q' y (set ps t p')) (ht:t<2) {a:Nat} {v u:Lc} (h:MnL ids v u) (p:T) (hp:p.here↔p'.here) (hl:p.l=set p'.l a v):Rel ids (g.lay t a u).1 q' y (set ps t p):=by
 have self:∀ {x:T},set ps t x t=x:=set_same
 refine ⟨R.id,R.inj,R.fl,R.gl,fun s hs hh j hj=>?_,fun s hs=>?_⟩
 · by_cases e:s=t
   · subst e
     rw [self] at hh ⊢
     show MnL ids (p.l j) (set g.l s (set (g.l s) a u) s j)
     rw [set_same,hl]
     unfold set;split
     · exact h
     · have:=R.lo s hs (by rw [self];exact hp.1 hh) j hj;rw [self] at this;exact this
   · have:=R.lo s hs (by rw [set_ne e] at hh ⊢;exact hh) j hj
     rw [set_ne e] at this ⊢
     show MnL ids ((ps s).l j) (set g.l t (set (g.l t) a u) s j)
     rw [set_ne e];exact this
 · by_cases e:s=t
   · subst e;have:=R.th s hs;rw [self] at this ⊢;rw [hp];exact this
   · have:=R.th s hs;rw [set_ne e] at this ⊢;exact this
theorem here2 {p:T} (h:p.ph=2):p.here:=.inr (.inl h)
theorem here1 {p:T} (h:p.ph=1):p.here:=.inl h
def idn (ids:Nat→Int) (got len kd:Nat) (er:Int):Nat→Int:=if er=0∧kd=1 then set ids got len else ids
theorem idn_no (h:¬(er=0∧kd=1)):idn ids got len kd er=ids:=if_neg h
theorem idn_mk (h:kd=1):idn ids got len kd 0=set ids got (len:Int):=if_pos ⟨rfl,h⟩
structure Told (ids:Nat→Int) (g:Gr) (q':Q) (y:Y) (ps:Nat→T) (t:Nat) (o:Opn) (p p':T) (rs:Rs):Prop where
 nx:rs.nx=p.nx
 er:(g.does t o (rs.er==6)).2.1=rs.er
 v:MnL (idn ids p.got g.len o.kd rs.er) (lcOf rs.r rs.z) (g.does t o (rs.er==6)).2.2
 r:Rel (idn ids p.got g.len o.kd rs.er) (g.does t o (rs.er==6)).1 q' y (set ps t p')
 md:rs.er=0→o.kd=1→rs.r=true∧rs.z=wR p.got
 ld:rs.er=0→o.kd=3→rs.r=false∧NumW rs.z
 ne:rs.er=0∨rs.er=3∨rs.er=4∨rs.er=6
theorem MnL.zero:MnL ids lc0 lc0:=⟨rfl,fun h=>by simp [lc0] at h,fun _=>rfl⟩
theorem ts_rel (I:Inv nos os D q y ps) (J:Inv nos os D' q' y (set ps t p')) (ok:∀ t,t<2→∀ i,i<nos t→OpOk (os t i)) (mk:∀ t i,t<2→i<nos t→(os t i).kd=1→t=0) (ht:t<2) (h:TS cS t (nos t) (os t) q (ps t) q' p' rs)
 (la:∀ i,Al q' y i→Al q y i∨(q.t i).hd=false) (R:Rel ids g q y ps):
 (rs.d=false→Rel ids (if (ps t).ph=0 then g.join t else if (ps t).ph≠4∧p'.ph=4 then g.quit t else g) q' y (set ps t p'))∧(rs.d=true→(ps t).here∧p'.here∧(ps t).nx<nos t∧Told ids g q' y ps t (os t (ps t).nx) (ps t) p' rs):=by
 have A:=(I.t t ht).a
 have L:=(I.t t ht).l
 have lo:(ps t).here→∀ j,j<4→MnL ids ((ps t).l j) (g.l t j):=R.lo t ht
 have m0:∀ i,Al q y i→q.m (i*8+2)=q.m (i*8+2)∧q.m (i*8+3)=q.m (i*8+3)∧q.m (i*8+4)=q.m (i*8+4):=fun _ _=>⟨rfl,rfl,rfl⟩
 have mg0:∀ k,k<2→q.m (312+k)=q.m (312+k):=fun _ _=>rfl
 have quiet:∀ {a:Q} {x:T},(∀ i,Al a y i→Al q y i)→a.m=q.m→(ps t).ph≠0→(ps t).ph≠4→x.ph≠4→x.ph≠0→x.ph≤4→0≤x.ph→x.l=(ps t).l→(ps t).here→Rel ids (if (ps t).ph=0 then g.join t else if (ps t).ph≠4∧x.ph=4 then g.quit t else g) a y (set ps t x):=fun {a x} al em h0 h4 x4 x0 xa xb xl hh=>by
  rw [if_neg h0,if_neg (by omega)]
  have xh:x.here:=by unfold T.here;omega
  exact R.keep ht al (by rw [em];exact m0) (by rw [em];exact mg0) ⟨fun _=>hh,fun _=>xh⟩ fun _=>by rw [xl];exact lo hh
 have gal:∀ {i},Al q y i→∀ {s},s=y.sn→∀ j,Al (q.grey cS i s) y j→Al q y j:=fun {i} hi {s} es j h=>by
  subst es
  rcases la j with f
  unfold Q.grey at h;split at h
  · next hc=>
    by_cases e:j=i
    · subst e;exact hi
    · unfold Al at *;simp only [set_ne e] at h;exact h
  · exact h
 have gm:∀ {i s},(q.grey cS i s).m=q.m:=fun {i s}=>by unfold Q.grey;split<;>rfl
 have er0:(ps t).here→(ps t).nx<nos t→opEr (os t (ps t).nx) (ps t).l=opEr (os t (ps t).nx) (g.l t):=fun hh hn=>opEr_mn (ok t ht _ hn) (lo hh)
 have fails:∀ {a:Q} {e:Int},(∀ i,Al a y i→Al q y i)→a.m=q.m→(ps t).here→(ps t).nx<nos t→e≠0→(e=3∨e=4∨e=6)→g.does t (os t (ps t).nx) (e==6)=(g,e,lc0)→(ps t).here∧((ps t).er e).1.here∧(ps t).nx<nos t∧Told ids g a y ps t (os t (ps t).nx) (ps t) ((ps t).er e).1 ((ps t).er e).2:=fun {a e} al em hh hn h0 he hd=>by
  refine ⟨hh,here1 rfl,hn,rfl,?_,?_,?_,fun h=>(h0 h).elim,fun h=>(h0 h).elim,.inr he⟩
  all_goals (show _;simp only [T.er,hd,idn_no (show ¬(e=0∧(os t (ps t).nx).kd=1) from fun h=>h0 h.1)])
  · exact .zero
  · exact R.keep (p':=(ps t).next) ht al (by rw [em];exact m0) (by rw [em];exact mg0) ⟨fun _=>hh,fun _=>here1 rfl⟩ fun _=>lo hh
 have lays:∀ {v u:Lc},(ps t).here→(ps t).nx<nos t→(os t (ps t).nx).kd≠1→((os t (ps t).nx).kd=3→v.ref=false∧NumW v.w)→g.does t (os t (ps t).nx) false=g.lay t (os t (ps t).nx).a u→MnL ids v u→(ps t).here∧((ps t).lay (os t (ps t).nx).a v).1.here∧(ps t).nx<nos t∧Told ids g q y ps t (os t (ps t).nx) (ps t) ((ps t).lay (os t (ps t).nx).a v).1 ((ps t).lay (os t (ps t).nx).a v).2:=fun {v u} hh hn hk hld hd hm=>by
  have R0:Rel ids g q y (set ps t (ps t).next):=R.keep ht (fun _ h=>h) m0 mg0 ⟨fun _=>hh,fun _=>here1 rfl⟩ fun _=>lo hh
  refine ⟨hh,here1 rfl,hn,rfl,?_,?_,?_,fun _ h=>(hk h).elim,fun _ h=>hld h,.inl rfl⟩
  all_goals (show _;simp only [T.lay,show ((0:Int)==6)=false from rfl,hd,idn_no (show ¬((0:Int)=0∧(os t (ps t).nx).kd=1) from fun h=>hk h.2)])
  · rfl
  · exact hm
  · exact R0.lay (a:=(os t (ps t).nx).a) (v:=v) ht hm {(ps t).next with l:=set (ps t).l (os t (ps t).nx).a v} ⟨fun _=>here1 rfl,fun _=>here1 rfl⟩ rfl
 have at0:(ps t).ph=2→(ps t).at_=0→(ps t).nx<nos t:=fun a b=>(A.start0 a b).nx
 have nom:∀ {k:Nat},(os t (ps t).nx).kd=k→k≠3→k≠4→k≠8→k≠11→∀ l,opEr (os t (ps t).nx) l=0:=fun hk h3 h4 h8 h11 l=>by
  unfold opEr must;rw [hk];simp [h3,h4,h8,h11]
 have nz:∀ {k:Nat},(os t (ps t).nx).kd=k→(ps t).nx<nos t→k≠11:=fun hk hn=>by have:=(ok t ht _ hn).kd;omega
 cases h with
 | out h1=>
  refine ⟨fun _=>?_,fun h=>by simp [rs0] at h⟩
  cases A with
  | out a b c=>
   rw [if_pos h1]
   have self:∀ {x:T},set ps t x t=x:=set_same
   refine ⟨R.id,R.inj,R.fl,R.gl,fun s hs hh j hj=>?_,fun s hs=>?_⟩
   · by_cases e:s=t
     · subst e;rw [self]
       show MnL ids ((ps s).l j) (set g.l s (fun _=>lc0) s j)
       rw [set_same,c j hj];exact .zero
     · rw [set_ne e] at hh ⊢
       show MnL ids ((ps s).l j) (set g.l t (fun _=>lc0) s j)
       rw [set_ne e];exact R.lo s hs hh j hj
   · show _↔set g.th t true s=true
     by_cases e:s=t
     · subst e;rw [self,set_same];exact ⟨fun _=>rfl,fun _=>here1 rfl⟩
     · rw [set_ne e,set_ne e];exact R.th s hs
  | _=>exfalso;omega
 | go h1=>exact ⟨fun _=>quiet (fun _ h=>h) rfl (by omega) (by omega) (by show (2:Int)≠4;decide) (by show (2:Int)≠0;decide) (by show (2:Int)≤4;decide) (by show (0:Int)≤2;decide) rfl (here1 h1),fun h=>by simp [rs0] at h⟩
 | quit h1=>exact ⟨fun _=>quiet (fun _ h=>h) rfl (by omega) (by omega) (by show (ps t).ph≠4;omega) (by show (ps t).ph≠0;omega) (by show (ps t).ph≤4;omega) (by show 0≤(ps t).ph;omega) rfl (here1 h1),fun h=>by simp [rs0] at h⟩
 | look h1=>exact ⟨fun _=>quiet (fun _ h=>h) rfl (by omega) (by omega) (by show (ps t).ph≠4;omega) (by show (ps t).ph≠0;omega) (by show (ps t).ph≤4;omega) (by show 0≤(ps t).ph;omega) rfl (by unfold T.here;omega),fun h=>by simp [rs0] at h⟩
 | @grey i gg h1 h2 h3=>
  refine ⟨fun _=>?_,fun h=>by simp [rs0] at h⟩
  cases A with
  | ans a b c d e ga gr=>exact quiet (gal (ga i (by rw [h3];simp)) b.sn) gm (by omega) (by omega) (by show (ps t).ph≠4;omega) (by show (ps t).ph≠0;omega) (by show (ps t).ph≤4;omega) (by show 0≤(ps t).ph;omega) rfl (by unfold T.here;omega)
  | _=>exfalso;omega
 | answer h1=>exact ⟨fun _=>quiet (fun _ h=>h) rfl (by omega) (by omega) (by show (ps t).ph≠4;omega) (by show (ps t).ph≠0;omega) (by show (ps t).ph≤4;omega) (by show 0≤(ps t).ph;omega) rfl (by unfold T.here;omega),fun h=>by simp [rs0] at h⟩
 | drain h1=>exact ⟨fun _=>quiet (fun _ h=>h) rfl (by omega) (by omega) (by show (ps t).ph≠4;omega) (by show (ps t).ph≠0;omega) (by show (ps t).ph≤4;omega) (by show 0≤(ps t).ph;omega) rfl (here1 h1),fun h=>by simp [rs0] at h⟩
 | leave h1 h2=>
  refine ⟨fun _=>?_,fun h=>by simp [rs0] at h⟩
  rw [if_neg (by omega),if_pos ⟨by omega,rfl⟩]
  have self:∀ {x:T},set ps t x t=x:=set_same
  refine ⟨R.id,R.inj,R.fl,R.gl,fun s hs hh j hj=>?_,fun s hs=>?_⟩
  · by_cases e:s=t
    · subst e;rw [self] at hh;unfold T.here at hh;simp at hh
    · rw [set_ne e] at hh ⊢;exact R.lo s hs hh j hj
  · show _↔set g.th t false s=true
    by_cases e:s=t
    · subst e;rw [self,set_same];unfold T.here;simp
    · rw [set_ne e,set_ne e];exact R.th s hs
 | gone h1=>
  refine ⟨fun _=>?_,fun h=>by simp [rs0] at h⟩
  rw [if_neg (by omega),if_neg (by omega)]
  exact R.keep ht (fun _ h=>h) m0 mg0 Iff.rfl fun h=>lo h
 | err h1 h2 h3=>
  have hn:=at0 h1 h2
  have hh:=here2 h1
  refine ⟨fun h=>by simp [T.er] at h,fun _=>fails (fun _ h=>h) rfl hh hn h3 ?_ ?_⟩
  · have:∀ x,opEr (os t (ps t).nx) (ps t).l=x→x≠0→x=3∨x=4∨x=6:=fun x hx h0=>by
     unfold opEr at hx;split at hx
     · omega
     · split at hx
       · omega
       · split at hx<;>omega
    exact this _ rfl h3
  · have e:=er0 hh hn
    unfold Gr.does;rw [←e,if_pos h3]
 | num h1 h2 h3=>
  have hn:=at0 h1 h2
  refine ⟨fun h=>by simp [T.lay] at h,fun _=>lays (here2 h1) hn (by omega) (fun h=>by omega) (u:=⟨false,(os t (ps t).nx).zk,(os t (ps t).nx).zi⟩) ?_ ⟨rfl,fun h=>by simp at h,fun _=>rfl⟩⟩
  unfold Gr.does;rw [if_neg (by rw [nom h3 (by decide) (by decide) (by decide) (by decide)];simp)];simp [h3]
 | clear h1 h2 h3=>
  have hn:=at0 h1 h2
  refine ⟨fun h=>by simp [T.lay] at h,fun _=>lays (here2 h1) hn (by omega) (fun h=>by omega) (u:=⟨true,0,1⟩) ?_ ⟨rfl,fun _=>.inl ⟨rfl,rfl⟩,fun h=>by simp at h⟩⟩
  unfold Gr.does;rw [if_neg (by rw [nom h3 (by decide) (by decide) (by decide) (by decide)];simp)];simp [h3]
 | kind h1 h2 h3 h4=>exact absurd rfl (nz h3 (at0 h1 h2))
 | @ask i h1 h2 h3 h4=>
  refine ⟨fun _=>quiet (fun j hj=>?_) rfl (by omega) (by omega) (by show (ps t).ph≠4;omega) (by show (ps t).ph≠0;omega) (by show (ps t).ph≤4;omega) (by show 0≤(ps t).ph;omega) rfl (here2 h1),fun h=>by simp [rs0] at h⟩
  by_cases e:j=i
  · subst e;have:=hj.2.1;simp [Q.take,set] at this
  · unfold Al Q.take at hj;simp only [set_ne e] at hj;exact hj
 | wait h1 h2 h3 h4=>exact ⟨fun _=>quiet (fun _ h=>h) rfl (by omega) (by omega) (by show (3:Int)≠4;decide) (by show (3:Int)≠0;decide) (by show (3:Int)≤4;decide) (by show (0:Int)≤3;decide) rfl (here2 h1),fun h=>by simp [rs0] at h⟩
 | load h1 h2 h3 h4 h5=>exact ⟨fun _=>quiet (fun _ h=>h) rfl (by omega) (by omega) (by show (ps t).ph≠4;omega) (by show (ps t).ph≠0;omega) (by show (ps t).ph≤4;omega) (by show 0≤(ps t).ph;omega) rfl (here2 h1),fun h=>by simp [rs0] at h⟩
 | storeK h1 h2 h3 h4 h5=>
  have hn:=at0 h1 h2
  have hh:=here2 h1
  have O:=ok t ht _ hn
  refine ⟨fun h=>by simp [T.er] at h,fun _=>fails (fun _ h=>h) rfl hh hn (by decide) (.inr (.inl rfl)) ?_⟩
  have hrf:cS.refs.getD (os t (ps t).nx).n false=decide ((os t (ps t).nx).n<2):=by
   have:=O.n4 h3
   have:(os t (ps t).nx).n=0∨(os t (ps t).nx).n=1∨(os t (ps t).nx).n=2:=by omega
   rcases this with e|e|e<;>rw [e]<;>rfl
  have hb:=(lo hh _ O.b).1
  unfold Gr.does
  rw [if_neg (by rw [←er0 hh hn,h4];simp),if_neg (by omega),if_neg (by omega),if_pos h3,if_pos (by rw [←hb,←hrf];exact h5)]
 | store h1 h2 h3 h4 h5 h6=>
  refine ⟨fun _=>quiet (fun _ h=>h) rfl (by omega) (by omega) (by show (ps t).ph≠4;omega) (by show (ps t).ph≠0;omega) (by show (ps t).ph≤4;omega) (by show 0≤(ps t).ph;omega) rfl (here2 h1),fun h=>by simp [rs0] at h⟩
 | see h1 h2 h3=>
  have hn:=at0 h1 h2
  have O:=ok t ht _ hn
  refine ⟨fun h=>by simp [T.lay] at h,fun _=>lays (here2 h1) hn (by omega) (fun h=>by omega) (u:=lcOf true (g.g (os t (ps t).nx).n)) ?_ ⟨rfl,fun _=>R.gl _ (O.n7 (.inl h3)),fun h=>by simp at h⟩⟩
  unfold Gr.does;rw [if_neg (by rw [nom h3 (by decide) (by decide) (by decide) (by decide)];simp)];simp [h3]
 | setOld h1 h2 h3 h4 h5=>exact ⟨fun _=>quiet (fun _ h=>h) rfl (by omega) (by omega) (by show (ps t).ph≠4;omega) (by show (ps t).ph≠0;omega) (by show (ps t).ph≤4;omega) (by show 0≤(ps t).ph;omega) rfl (here2 h1),fun h=>by simp [rs0] at h⟩
 | old h1=>exact ⟨fun _=>quiet (fun _ h=>h) rfl (by omega) (by omega) (by show (ps t).ph≠4;omega) (by show (ps t).ph≠0;omega) (by show (ps t).ph≤4;omega) (by show 0≤(ps t).ph;omega) rfl (here2 h1),fun h=>by simp [rs0] at h⟩
 | @greyOld i h1 h2 h3=>
  refine ⟨fun _=>?_,fun h=>by simp [rs0] at h⟩
  cases A with
  | writ a b c d W=>
   have hi:Al q y i:=by obtain ⟨j,e,hj⟩:=W.r4 h2;rw [h3] at e;simp [wR] at e;subst e;exact hj
   have hs2:(ps t).st≠0:=by have:=(W.r3 (.inr (.inl h2))).2;unfold shades at this;intro e;rw [e] at this;simp at this
   have hsn:(ps t).sn=y.sn:=by rw [d.sn];unfold snOf;rw [if_neg];exact fun h=>hs2 h.2
   exact quiet (gal hi hsn) gm (by omega) (by omega) (by show (ps t).ph≠4;omega) (by show (ps t).ph≠0;omega) (by show (ps t).ph≤4;omega) (by show 0≤(ps t).ph;omega) rfl (here2 h1)
  | _=>exfalso;omega
 | @greyNew i h1 h2 h3=>
  refine ⟨fun _=>?_,fun h=>by simp [rs0] at h⟩
  cases A with
  | writ a b c d W=>
   have hi:Al q y i:=by
    have hw:=(L _ (ok t ht _ c).b).1 (W.rf.trans (W.r3 (.inr (.inr h2))).1)
    rw [←W.w,h3] at hw
    rcases hw with e|⟨j,e,hj⟩
    · exact (wN_R i e).elim
    · simp [wR] at e;subst e;exact hj
   have hs2:(ps t).st≠0:=by have:=(W.r3 (.inr (.inr h2))).2;unfold shades at this;intro e;rw [e] at this;simp at this
   have hsn:(ps t).sn=y.sn:=by rw [d.sn];unfold snOf;rw [if_neg];exact fun h=>hs2 h.2
   exact quiet (gal hi hsn) gm (by omega) (by omega) (by show (ps t).ph≠4;omega) (by show (ps t).ph≠0;omega) (by show (ps t).ph≤4;omega) (by show 0≤(ps t).ph;omega) rfl (here2 h1)
  | _=>exfalso;omega
 | make h1 h2 h3=>
  refine ⟨fun _=>?_,fun h=>by simp [rs0] at h⟩
  cases A with
  | make a b c d wk u m=>
   rw [if_neg (by omega),if_neg (by show ¬((ps t).ph≠4∧(ps t).ph=4);omega)]
   have ne:∀ i,Al q y i→i≠(ps t).got:=fun i hi e=>by have:=u.hd;rw [←e,hi.2.1] at this;simp at this
   have ul:=u.lt
   have far:∀ i k,Al q y i→k<8→set q.m (cS.fw (ps t).got (ps t).wk) (plW cS.refs (ps t).wk) (i*8+k)=q.m (i*8+k):=fun i k hi hk=>set_ne (by have:=ne i hi;unfold Cf.fw;omega)
   exact R.keep ht (fun _ h=>h) (fun i hi=>⟨far i 2 hi (by decide),far i 3 hi (by decide),far i 4 hi (by decide)⟩) (fun k hk=>set_ne (by unfold Cf.fw;omega)) ⟨fun _=>here2 h1,fun _=>here2 h1⟩ fun _=>lo (here2 h1)
  | _=>exfalso;omega
 | same h1=>exact ⟨fun _=>quiet (fun _ h=>h) rfl (by omega) (by omega) (by show (ps t).ph≠4;omega) (by show (ps t).ph≠0;omega) (by show (ps t).ph≤4;omega) (by show 0≤(ps t).ph;omega) rfl (.inr (.inr h1)),fun h=>by simp [rs0] at h⟩
 | still h1=>exact ⟨fun _=>quiet (fun _ h=>h) rfl (by omega) (by omega) (by show (ps t).ph≠4;omega) (by show (ps t).ph≠0;omega) (by show (ps t).ph≤4;omega) (by show 0≤(ps t).ph;omega) rfl (.inr (.inr h1)),fun h=>by simp [rs0] at h⟩
 | granted h1=>exact ⟨fun _=>quiet (fun _ h=>h) rfl (by omega) (by omega) (by show (2:Int)≠4;decide) (by show (2:Int)≠0;decide) (by show (2:Int)≤4;decide) (by show (0:Int)≤2;decide) rfl (.inr (.inr h1)),fun h=>by simp [rs0] at h⟩
 | failed h1 h2 h3 h4=>
  cases A with
  | wait a b c d=>
   refine ⟨fun h=>by simp [T.er] at h,fun _=>fails (a:={q with ln:=none}) (fun _ h=>h) rfl (.inr (.inr h1)) c.nx (by decide) (.inr (.inr rfl)) ?_⟩
   unfold Gr.does;rw [if_neg (by rw [nom c.kd (by decide) (by decide) (by decide) (by decide)];simp),if_pos c.kd];rfl
  | _=>exfalso;omega
 | read h1 h2=>
  cases A with
  | read a b c d k rf r ad=>
   obtain ⟨z,hz,hd⟩:=ad
   have O:=ok t ht _ c
   have hh:=here2 h1
   have hal:Al q y z:=by
    rcases (L _ O.b).1 r with e|⟨i,e,ha⟩
    · rw [hz] at e;exact (wN_R z e).elim
    · rw [hz] at e;simp [wR] at e;subst e;exact ha
   have hnum:=(I.b.typ z hal).2.2.2
   have lb:=lo hh _ O.b
   have hm:=lb.2.1 r
   rw [hz] at hm
   obtain ⟨dd,hd1,hd2⟩:=hm.ref
   have hf:=(R.fl z hal dd hd1).2.2
   refine ⟨fun h=>by simp [T.lay] at h,fun _=>lays hh c (by omega) (fun _=>⟨rf,by rw [hd];exact hnum⟩) (u:=lcOf false (g.f dd 2)) ?_ ⟨rf,fun h=>?_,fun _=>?_⟩⟩
   · have e0:opEr (os t (ps t).nx) (ps t).l=0:=by unfold opEr must;simp [k,r,hz,wN_R]
     unfold Gr.does
     rw [if_neg (by rw [←er0 hh c,e0];simp),if_neg (by omega),if_pos k,O.n3 k]
     have:(g.l t (os t (ps t).nx).b).k-1=dd:=by have:=congrArg Wd.k hd2;simp [Lc.w,wR] at this;omega
     rw [this];rfl
   · rw [rf] at h;simp at h
   · show Wd.mk (q.m (ps t).ad).k (q.m (ps t).ad).i=_
     rw [hd];exact hf
  | _=>exfalso;omega
 | setNow h1 h2 h3 h4 h5=>
  have hn:=at0 h1 h2
  have hh:=here2 h1
  have O:=ok t ht _ hn
  have n2:=O.n7 (.inr h3)
  refine ⟨fun h=>by simp [T.ends] at h,fun _=>⟨hh,here1 rfl,hn,rfl,?_,?_,?_,fun _ h=>by omega,fun _ h=>by omega,.inl rfl⟩⟩
  all_goals
   have hd:g.does t (os t (ps t).nx) false=({g with g:=set g.g (os t (ps t).nx).n (g.l t (os t (ps t).nx).b).w},0,lc0):=by
    unfold Gr.does;rw [if_neg (by rw [←er0 hh hn,h4];simp),if_neg (by omega),if_neg (by omega),if_neg (by omega),if_neg (by omega),if_pos h3]
   simp only [T.ends,show ((0:Int)==6)=false from rfl,hd,idn_no (show ¬((0:Int)=0∧(os t (ps t).nx).kd=1) from fun h=>by omega)]
  · exact .zero
  · have gw:cS.gw (os t (ps t).nx).n=312+(os t (ps t).nx).n:=by simp [cS,Cf.gw]
    have far:∀ i k,Al q y i→k<8→set q.m (cS.gw (os t (ps t).nx).n) ((ps t).l (os t (ps t).nx).b).w (i*8+k)=q.m (i*8+k):=fun i k hi hk=>set_ne (by have:=hi.1;rw [gw];omega)
    have mb:=(lo hh _ O.b).2.1 ((opEr_ok _ _ h4).2.2 h3)
    refine ⟨R.id,R.inj,fun i hi=>?_,fun k hk=>?_,fun s hs x j hj=>?_,fun s hs=>?_⟩
    · show ∀ d:Nat,ids i=d→Mn ids (set q.m _ _ (i*8+2)) _∧Mn ids (set q.m _ _ (i*8+3)) _∧set q.m _ _ (i*8+4)=_
      rw [far i 2 hi (by decide),far i 3 hi (by decide),far i 4 hi (by decide)];exact R.fl i hi
    · show Mn ids (set q.m _ _ (312+k)) (set g.g _ _ k)
      rw [gw]
      by_cases e:k=(os t (ps t).nx).n
      · subst e;rw [set_same,set_same];exact mb
      · rw [set_ne (by omega),set_ne e];exact R.gl k hk
    · by_cases e:s=t
      · subst e;rw [set_same] at x ⊢;exact lo hh j hj
      · rw [set_ne e] at x ⊢;exact R.lo s hs x j hj
    · by_cases e:s=t
      · subst e;rw [set_same];exact ⟨fun _=>(R.th s hs).1 hh,fun _=>here1 rfl⟩
      · rw [set_ne e];exact R.th s hs
 | write h1 h2=>
  cases A with
  | writ a b c d W=>
   have O:=ok t ht _ c
   have hh:=here2 h1
   have lth:∀ {a':Q} {g':Gr},g'.l=g.l→g'.th=g.th→(∀ s,s<2→(set ps t (ps t).next s).here→∀ j,j<4→MnL ids ((set ps t (ps t).next s).l j) (g'.l s j))∧∀ s,s<2→((set ps t (ps t).next s).here↔g'.th s=true):=fun el et=>by
    rw [el,et]
    refine ⟨fun s hs x j hj=>?_,fun s hs=>?_⟩
    · by_cases e:s=t
      · subst e;rw [set_same] at x ⊢;exact lo hh j hj
      · rw [set_ne e] at x ⊢;exact R.lo s hs x j hj
    · by_cases e:s=t
      · subst e;rw [set_same];exact ⟨fun _=>(R.th s hs).1 hh,fun _=>here1 rfl⟩
      · rw [set_ne e];exact R.th s hs
   rcases W.kd with k|k
   ·
    obtain ⟨hr1,z,hz,had,hn⟩:=W.a4 k
    have n3:=O.n4 k
    have hal:Al q y z:=by
     rcases (L _ O.a).1 hr1 with e|⟨i,e,ha⟩
     · rw [hz] at e;exact (wN_R z e).elim
     · rw [hz] at e;simp [wR] at e;subst e;exact ha
    have la_:=lo hh _ O.a
    have lb:=lo hh _ O.b
    have hm:=la_.2.1 hr1
    rw [hz] at hm
    obtain ⟨dd,hd1,hd2⟩:=hm.ref
    have hdk:(g.l t (os t (ps t).nx).a).k-1=dd:=by have:=congrArg Wd.k hd2;simp [Lc.w,wR] at this;omega
    have e0:opEr (os t (ps t).nx) (ps t).l=0:=by unfold opEr must;simp [k,hr1,hz,wN_R]
    have hd:g.does t (os t (ps t).nx) false=({g with f:=set g.f dd (set (g.f dd) (os t (ps t).nx).n (g.l t (os t (ps t).nx).b).w)},0,lc0):=by
     unfold Gr.does
     rw [if_neg (by rw [←er0 hh c,e0];simp),if_neg (by omega),if_neg (by omega),if_pos k,if_neg (by rw [←lb.1,W.rf,hn];simp),hdk]
    refine ⟨fun h=>by simp [T.ends] at h,fun _=>⟨hh,here1 rfl,c,rfl,?_,?_,?_,fun _ h=>by omega,fun _ h=>by omega,.inl rfl⟩⟩
    all_goals simp only [T.ends,show ((0:Int)==6)=false from rfl,hd,idn_no (show ¬((0:Int)=0∧(os t (ps t).nx).kd=1) from fun h=>by omega)]
    · exact .zero
    · have h24:=hal.1
      refine ⟨R.id,R.inj,fun i hi d' hd'=>?_,fun k' hk'=>?_,(lth (a':=q) (g':={g with f:=set g.f dd (set (g.f dd) (os t (ps t).nx).n (g.l t (os t (ps t).nx).b).w)}) rfl rfl).1,(lth (a':=q) (g':={g with f:=set g.f dd (set (g.f dd) (os t (ps t).nx).n (g.l t (os t (ps t).nx).b).w)}) rfl rfl).2⟩
      · have i24:=hi.1
        obtain ⟨f1,f2,f3⟩:=R.fl i hi d' hd'
        show Mn ids (set q.m _ _ (i*8+2)) (set g.f _ _ d' 0)∧Mn ids (set q.m _ _ (i*8+3)) (set g.f _ _ d' 1)∧set q.m _ _ (i*8+4)=set g.f _ _ d' 2
        rw [had]
        by_cases e:i=z
        · subst e
          have:d'=dd:=by rw [hd1] at hd';omega
          subst this
          rw [set_same,W.w]
          have key:∀ j,j<3→j≠(os t (ps t).nx).n→set q.m (i*8+(2+(os t (ps t).nx).n)) ((ps t).l (os t (ps t).nx).b).w (i*8+(2+j))=q.m (i*8+(2+j))∧set (g.f d') (os t (ps t).nx).n (g.l t (os t (ps t).nx).b).w j=g.f d' j:=fun j hj hne=>⟨set_ne (by omega),set_ne hne⟩
          have:(os t (ps t).nx).n=0∨(os t (ps t).nx).n=1∨(os t (ps t).nx).n=2:=by omega
          rcases this with en|en|en
          · have hr:((ps t).l (os t (ps t).nx).b).ref=true:=by rw [W.rf,hn,en];rfl
            have k1:=key 1 (by decide) (by omega)
            have k2:=key 2 (by decide) (by omega)
            rw [en] at k1 k2 ⊢
            simp only [Nat.add_zero,Nat.reduceAdd] at k1 k2 ⊢
            rw [set_same,set_same,k1.1,k1.2,k2.1,k2.2];exact ⟨lb.2.1 hr,f2,f3⟩
          · have hr:((ps t).l (os t (ps t).nx).b).ref=true:=by rw [W.rf,hn,en];rfl
            have k1:=key 0 (by decide) (by omega)
            have k2:=key 2 (by decide) (by omega)
            rw [en] at k1 k2 ⊢
            simp only [Nat.add_zero,Nat.reduceAdd] at k1 k2 ⊢
            rw [set_same,set_same,k1.1,k1.2,k2.1,k2.2];exact ⟨f1,lb.2.1 hr,f3⟩
          · have hr:((ps t).l (os t (ps t).nx).b).ref=false:=by rw [W.rf,hn,en];rfl
            have k1:=key 0 (by decide) (by omega)
            have k2:=key 1 (by decide) (by omega)
            rw [en] at k1 k2 ⊢
            simp only [Nat.add_zero,Nat.reduceAdd] at k1 k2 ⊢
            rw [set_same,set_same,k1.1,k1.2,k2.1,k2.2];exact ⟨f1,f2,lb.2.2 hr⟩
        · have:d'≠dd:=fun h=>e (R.inj i z hi hal (by rw [hd',hd1,h]))
          rw [set_ne this,set_ne (by omega),set_ne (by omega),set_ne (by omega)];exact ⟨f1,f2,f3⟩
      · show Mn ids (set q.m _ _ (312+k')) _
        rw [had,set_ne (by omega)];exact R.gl k' hk'
   ·
    have n2:=O.n7 (.inr k)
    obtain ⟨had,hrf⟩:=W.a8 k
    have lb:=lo hh _ O.b
    have e0:opEr (os t (ps t).nx) (ps t).l=0:=by unfold opEr must;simp [k,W.rf.trans hrf]
    have hd:g.does t (os t (ps t).nx) false=({g with g:=set g.g (os t (ps t).nx).n (g.l t (os t (ps t).nx).b).w},0,lc0):=by
     unfold Gr.does;rw [if_neg (by rw [←er0 hh c,e0];simp),if_neg (by omega),if_neg (by omega),if_neg (by omega),if_neg (by omega),if_pos k]
    refine ⟨fun h=>by simp [T.ends] at h,fun _=>⟨hh,here1 rfl,c,rfl,?_,?_,?_,fun _ h=>by omega,fun _ h=>by omega,.inl rfl⟩⟩
    all_goals simp only [T.ends,show ((0:Int)==6)=false from rfl,hd,idn_no (show ¬((0:Int)=0∧(os t (ps t).nx).kd=1) from fun h=>by omega)]
    · exact .zero
    · refine ⟨R.id,R.inj,fun i hi=>?_,fun k' hk'=>?_,(lth (a':=q) (g':={g with g:=set g.g (os t (ps t).nx).n (g.l t (os t (ps t).nx).b).w}) rfl rfl).1,(lth (a':=q) (g':={g with g:=set g.g (os t (ps t).nx).n (g.l t (os t (ps t).nx).b).w}) rfl rfl).2⟩
      · have i24:=hi.1
        show ∀ d:Nat,ids i=d→Mn ids (set q.m _ _ (i*8+2)) _∧Mn ids (set q.m _ _ (i*8+3)) _∧set q.m _ _ (i*8+4)=_
        rw [had,set_ne (by omega),set_ne (by omega),set_ne (by omega)];exact R.fl i hi
      · show Mn ids (set q.m _ _ (312+k')) (set g.g _ _ k')
        rw [had]
        by_cases e:k'=(os t (ps t).nx).n
        · subst e;rw [set_same,set_same,W.w];exact lb.2.1 (W.rf.trans hrf)
        · rw [set_ne (by omega),set_ne e];exact R.gl k' hk'
  | _=>exfalso;omega
 | born h1 h2=>
  cases A with
  | born a b c d u m=>
   have hh:=here2 h1
   have c_nx:=c.nx
   have ne:∀ i,Al q y i→i≠(ps t).got:=fun i hi e=>by have:=u.hd;rw [←e,hi.2.1] at this;simp at this
   have ule:∀ i,Al q y i→set ids (ps t).got (g.len:Int) i=ids i:=fun i hi=>set_ne (ne i hi)
   have mn:∀ {w v},OkW q y w→Mn ids w v→Mn (set ids (ps t).got (g.len:Int)) w v:=fun {w v} ho h=>by
    rcases h with h|⟨i,d,e1,e2,e3⟩
    · exact .inl h
    · rcases ho with e|⟨j,e,hj⟩
      · rw [e1] at e;exact (wN_R i e).elim
      · rw [e1] at e;simp [wR] at e;subst e;exact .inr ⟨i,d,e1,(ule i hj).trans e2,e3⟩
   have hd:g.does t (os t (ps t).nx) false=({g with len:=g.len+1,f:=set g.f g.len fun k=>if k=2 then w0 else wN}:Gr).lay t (os t (ps t).nx).a ⟨true,g.len+1,1⟩:=by
    unfold Gr.does;rw [if_neg (by rw [nom c.kd (by decide) (by decide) (by decide) (by decide)];simp),if_pos c.kd];rfl
   have hv:MnL (set ids (ps t).got (g.len:Int)) ⟨true,(ps t).got+1,1⟩ ⟨true,g.len+1,1⟩:=⟨rfl,fun _=>.inr ⟨(ps t).got,g.len,rfl,set_same,rfl⟩,fun h=>by simp at h⟩
   refine ⟨fun h=>by simp [T.lay] at h,fun _=>⟨hh,here1 rfl,c_nx,rfl,?_,?_,?_,fun _ _=>⟨rfl,rfl⟩,fun _ h=>by have:=c.kd;omega,.inl rfl⟩⟩
   all_goals (simp only [T.lay,show ((0:Int)==6)=false from rfl,hd,idn_mk c.kd])
   · rfl
   · exact hv
   · have al:∀ i,Al {q with t:=set q.t (ps t).got {q.t (ps t).got with hd:=true}} y i→i=(ps t).got∨Al q y i:=fun i hi=>by
      by_cases e:i=(ps t).got
      · exact .inl e
      · right;unfold Al at *;simp only [set_ne e] at hi;exact hi
     have R0:Rel (set ids (ps t).got (g.len:Int)) {g with len:=g.len+1,f:=set g.f g.len fun k=>if k=2 then w0 else wN} {q with t:=set q.t (ps t).got {q.t (ps t).got with hd:=true}} y (set ps t (ps t).next):=by
      refine ⟨fun i hi=>?_,fun i j hi hj e=>?_,fun i hi d' hd'=>?_,fun k hk=>mn (I.b.glo k hk) (R.gl k hk),fun s hs x j hj=>?_,fun s hs=>?_⟩
      · rcases al i hi with rfl|hi
        · exact ⟨g.len,set_same,Nat.lt_succ_self _⟩
        · obtain ⟨d,e1,e2⟩:=R.id i hi;exact ⟨d,(ule i hi).trans e1,Nat.lt_succ_of_lt e2⟩
      · rcases al i hi with ei|hi<;>rcases al j hj with ej|hj
        · rw [ei,ej]
        · rw [ei,set_same,ule j hj] at e;obtain ⟨d,e1,e2⟩:=R.id j hj;omega
        · rw [ej,set_same,ule i hi] at e;obtain ⟨d,e1,e2⟩:=R.id i hi;omega
        · rw [ule i hi,ule j hj] at e;exact R.inj i j hi hj e
      · rcases al i hi with rfl|hi
        · rw [set_same] at hd'
          have:d'=g.len:=by omega
          subst this
          show Mn _ (q.m _) (set g.f _ _ g.len 0)∧Mn _ (q.m _) (set g.f _ _ g.len 1)∧q.m _=set g.f _ _ g.len 2
          rw [set_same,m 2 (by decide),m 3 (by decide),m 4 (by decide)]
          exact ⟨.inl ⟨rfl,rfl⟩,.inl ⟨rfl,rfl⟩,rfl⟩
        · rw [ule i hi] at hd'
          obtain ⟨d,e1,e2⟩:=R.id i hi
          have:d'≠g.len:=by omega
          obtain ⟨f1,f2,f3⟩:=R.fl i hi d' hd'
          obtain ⟨_,o1,o2,_⟩:=I.b.typ i hi
          show Mn _ (q.m _) (set g.f _ _ d' 0)∧Mn _ (q.m _) (set g.f _ _ d' 1)∧q.m _=set g.f _ _ d' 2
          rw [set_ne this];exact ⟨mn o1 f1,mn o2 f2,f3⟩
      · have key:∀ s,s<2→(ps s).here→MnL (set ids (ps t).got (g.len:Int)) ((ps s).l j) (g.l s j):=fun s hs hx=>by
         obtain ⟨e1,e2,e3⟩:=R.lo s hs hx j hj
         exact ⟨e1,fun hr=>mn (((I.t s hs).l j hj).1 hr) (e2 hr),e3⟩
        by_cases e:s=t
        · subst e;rw [set_same] at x ⊢;exact key s hs hh
        · rw [set_ne e] at x ⊢;exact key s hs x
      · by_cases e:s=t
        · subst e;rw [set_same];exact ⟨fun _=>(R.th s hs).1 hh,fun _=>here1 rfl⟩
        · rw [set_ne e];exact R.th s hs
     exact R0.lay (a:=(os t (ps t).nx).a) ht hv {(ps t).next with l:=set (ps t).l (os t (ps t).nx).a ⟨true,(ps t).got+1,1⟩} ⟨fun _=>here1 rfl,fun _=>here1 rfl⟩ rfl
  | _=>exfalso;omega
end
end Sw
end Go.Proofs.YtgcmiahhkalfmaaGreat
