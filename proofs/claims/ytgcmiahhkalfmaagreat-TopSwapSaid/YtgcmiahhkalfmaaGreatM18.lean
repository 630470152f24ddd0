import Derived.Test.YtgcmiahhkalfmaaGreatM17
set_option maxRecDepth 100000
set_option maxHeartbeats 8000000
set_option linter.unusedVariables false
set_option linter.unusedSimpArgs false
namespace Go.Proofs.YtgcmiahhkalfmaaGreat
variable {st:Int} {i no t x:Nat} {nos:Nat→Nat} {os:Nat→Nat→Opn} {o:Nat→Opn} {D D':Nat→Prop}
namespace Sw
section
variable {q q':Q} {y y':Y} {p:T} {ps:Nat→T}
theorem At.cs (h:At q y t no o p) (ol:∀ i,p.ph=2→p.st≠0→p.at_=4→p.old=wR i→Al q y i→Al q' y' i) (bk:both p.st=true→Hs y t p.st→∀ i,Bk q y i→Bk q' y' i) (own:q'.own t=q.own t) (m:q'.m=q.m)
 (hs:q.own t=p.st→Hs y t p.st→Hs y' t p.st) (sn:Hs y t p.st→snOf y' p.st=snOf y p.st)
 (an:Hs y t p.st→p.st≠q.st→q'.st=q.st∧y'.sn=y.sn∧(∀ i,Al q y i→Al q' y' i)∧∀ i,Bk q y i→Bk q' y' i)
 (un:Hs y t p.st→∀ x,Un q y p.st x→Un q' y' p.st x):At q' y' t no o p:=by
 have hr:Hr q y t p (snOf y p.st)→Hr q' y' t p (snOf y' p.st):=fun h=>⟨own.trans h.own,hs h.own h.hs,h.sn.trans (sn h.hs).symm⟩
 cases h with
 | out a b c=>exact .out a (own.trans b) c
 | gone a b c=>exact .gone a (own.trans b) c
 | idle a b c=>exact .idle a b (hr c)
 | ans a b c d f ga gr=>
  obtain ⟨e1,e2,e3,e4⟩:=an b.hs d
  exact .ans a ⟨own.trans b.own,hs b.own b.hs,b.sn.trans e2.symm⟩ (c.trans e1.symm) (e1▸d) f (fun i hi=>e3 i (ga i hi)) fun s3 j hj hr=>(gr s3 j hj hr).imp (·.mono e4) id
 | wait a b c d=>exact .wait a b c (hr d)
 | start a b c d=>exact .start a b c (hr d)
 | read a b c d f g r hh=>exact .read a b c (hr d) f g r hh
 | writ a b c d f=>
  exact .writ a b c (hr d) ⟨f.kd,f.w,f.rf,f.a4,f.a8,f.r3,fun e=>(let ⟨i,k,l⟩:=f.r4 e;⟨i,k,ol i a (fun h0=>by have:=(f.r3 (.inr (.inl e))).2;rw [h0] at this;simp [shades] at this) e k l⟩),f.r5,fun e1 e2 e3=>(f.r6 e1 e2 e3).mono (bk e3 d.hs)⟩
 | make a b c d f g mm=>exact .make a b c (hr d) f (un d.hs _ g) fun k hk=>m▸mm k hk
 | born a b c d g mm=>exact .born a b c (hr d) (un d.hs _ g) fun k hk=>m▸mm k hk
structure Qt (q q':Q) (y y':Y):Prop where
 t:q'.t=q.t
 m:q'.m=q.m
 own:q'.own=q.own
 st:q'.st=q.st
 sn:q'.sn=q.sn
 fr:q'.fr=q.fr
 ys:y'.st=y.st
 yn:y'.sn=y.sn
theorem Qt.al (e:Qt q q' y y') (i:Nat):Al q' y' i↔Al q y i:=by unfold Al;rw [e.t,e.ys,e.yn]
theorem Qt.bk (e:Qt q q' y y') (i:Nat):Bk q' y' i↔Bk q y i:=by unfold Bk;rw [e.t,e.yn]
theorem Qt.un (e:Qt q q' y y') (h:Un q y st x):Un q' y' st x:=⟨h.lt,by rw [e.t];exact h.us,by rw [e.t];exact h.hd,by rw [e.t,e.ys,e.yn];exact h.bk,by rw [e.t,e.ys,e.yn];exact h.wh⟩
theorem Ln.qt (h:Ln q y p) (e:Qt q q' y y') (hl:q'.ln=q.ln):Ln q' y' p:=⟨fun k=>hl.trans (h.no k),fun k=>(let ⟨r,a,b,c⟩:=h.is k;⟨r,hl.trans a,b,fun k=>⟨e.un (c k).1,(c k).2⟩⟩)⟩
theorem Inv.quiet (I:Inv nos os D q y ps) (e:Qt q q' y y') (pl:∀ i,i∈q'.pl→i∈q.pl) (pl2:q'.pl.length≤2) (c:Cy q' y') (hs:∀ t,t<2→∀ st,q.own t=st→Hs y t st→Hs y' t st) (ln:Ln q' y' (ps 0))
 (src:4≤y.st→y.st≤5→∀ z f,Bk q y z→f=2∨f=3→¬D (z*8+f)→Src q y z f→Src q' y' z f∨BkW q y (q.m (z*8+f))) (pend:4≤y.st→y.st≤5→∀ g,g<2→¬D (312+g)→Pend y g→Pend y' g∨BkW q y (q.m (312+g)))
 (r:y.st=4→y'.at_=3→¬D (312+y'.i)→q.m (312+y'.i)=wR y'.hd)
 (t:y.st=5→y'.at_=4→y'.tr.pc=2→¬D (y'.tr.hd*8+(if y'.tr.ws=[3] then 2 else 3))→q.m (y'.tr.hd*8+(if y'.tr.ws=[3] then 2 else 3))=wR y'.tr.nx):Inv nos os D q' y' ps:=by
 have al:∀ i,Al q y i→Al q' y' i:=fun i=>(e.al i).2
 have bk:∀ i,Bk q y i→Bk q' y' i:=fun i=>(e.bk i).2
 have one:∀ {w x},BkW q y w→w=wR x→Bk q' y' x:=fun h e=>by
  rcases h with h|⟨i,h,hb⟩
  · rw [e] at h;simp [wR,wN] at h
  · rw [e] at h;simp [wR] at h;exact h▸bk _ hb
 have pr:4≤y.st→y.st≤5→∀ x,Pr q y D x→Pr q' y' D x:=fun h h'=>Pr.mono bk (fun g x a1 b1 c1 d1 e1=>(pend h h' g a1 c1 b1).elim (fun h=>.gl a1 h c1 (by rw [e.m];exact d1) (al _ e1)) fun h=>.bk (one h d1))
  fun z f x a1 b1 c1 d1 e1 g1 k1=>by
   have mk:(¬Bk q' y' z∨Src q' y' z f)→Pr q' y' D x:=fun h=>.ed b1 (al _ a1) c1 h e1 (by rw [e.m];exact g1) (al _ k1)
   by_cases hb:Bk q y z
   · rcases src h h' z f hb c1 e1 (d1.resolve_left (fun h=>h hb)) with h|h
     · exact mk (.inr h)
     · exact .bk (one h g1)
   · exact mk (.inl fun h=>hb ((e.bk z).1 h))
 have lo:∀ {a},Loc q' y' a→Loc q y a:=fun h=>h.imp (fun ⟨z,f,a,b⟩=>⟨z,f,(e.al z).1 a,b⟩) id
 refine ⟨⟨by rw [e.t,e.fr];exact I.b.tab,fun i hi=>?_,fun g hg=>by rw [e.m];exact (I.b.glo g hg).mono al,fun i hi=>bk i (I.b.pl i (pl i hi)),pl2,by rw [e.sn,e.yn];exact I.b.sn⟩,c,fun t ht=>⟨fun j hj=>((I.t t ht).l j hj).mono al,?_⟩,ln,fun h a ha hD=>?_,fun h h' t ht=>?_,fun h h'=>?_,fun h h' t ht=>?_⟩
 · rw [e.m];obtain ⟨a1,a2,a3,a4⟩:=I.b.typ i ((e.al i).1 hi);exact ⟨a1,a2.mono al,a3.mono al,a4⟩
 · exact (I.t t ht).a.cs (fun i _ _ _ _ h=>al i h) (fun _ _=>bk) (by rw [e.own]) e.m (fun h=>hs t ht _ h) (fun _=>by unfold snOf;rw [e.ys,e.yn]) (fun _ _=>⟨e.st,e.yn,al,bk⟩) fun _ x h=>e.un h
 · rw [e.m];exact (I.d3 (e.ys▸h) a (lo ha) hD).mono bk
 · have k:=I.t3 (e.ys▸h) (e.ys▸h') t ht
   exact ⟨fun a b c d=>by rw [e.m];exact k.w4 a b c d,fun a b c d f=>by rw [e.m];exact (k.w5 a b c d f).mono bk⟩
 · rw [e.ys] at h h'
   have s:=I.s4 h h'
   refine ⟨fun a ha hD=>by rw [e.m];exact (s.d a (lo ha) hD).mono (pr h h'),fun z hz f hf hD=>?_,fun g hg hD=>?_,fun h1 h2 h3=>by rw [e.m];exact r (e.ys▸h1) h2 h3,fun h1 h2 h3 h4=>by rw [e.m];exact t (e.ys▸h1) h2 h3 h4⟩
   · rw [e.m]
     have hz:=(e.bk z).1 hz
     rcases s.f z hz f hf hD with k|k
     · exact (src h h' z f hz hf hD k).imp id (·.mono bk)
     · exact .inr (k.mono bk)
   · rw [e.m]
     rcases s.g g hg hD with k|k
     · exact (pend h h' g hg hD k).imp id (·.mono bk)
     · exact .inr (k.mono bk)
 · exact (I.t4 (e.ys▸h) (e.ys▸h') t ht).mono (pr (e.ys▸h) (e.ys▸h'))
theorem Inv.ef (I:Inv nos os D q y ps) (ok:∀ t,t<2→∀ i,i<nos t→OpOk (os t i)) (e:Ef q q' y D D' 2 (ps 0)):Inv nos os D' q' y ps:=by
 refine ⟨e.b,e.c,fun s hs=>⟨fun j hj=>((I.t s hs).l j hj).mono e.al,(I.t s hs).a.mono e (by omega)⟩,?_,e.d3,fun h h' s hs=>?_,e.s4,fun h h' s hs=>?_⟩
 · refine ⟨fun k=>(e.ln (by decide)).trans (I.ln.no k),fun k=>?_⟩
   obtain ⟨r,h1,h2,h3⟩:=I.ln.is k
   exact ⟨r,(e.ln (by decide)).trans h1,h2,fun k=>⟨(h3 k).1.mono (e.un (by decide) _ _ (h3 k).1).1,(h3 k).2⟩⟩
 · have hi:=I.t s hs
   exact (I.t3 h h' s hs).mono e (fun a b c=>hi.a.loc (ok s hs) hi.l a b c) hi.a.rf
 · exact (I.t4 h h' s hs).mono (e.pr h h')
theorem Inv.far (I:Inv nos os D q y ps) (hy:y'.st<3∨5<y'.st) (b:Base q' y') (c:Cy q' y') (al:∀ i,Al q y i→Al q' y' i) (bk:y.st≠1→∀ i,Bk q y i→Bk q' y' i) (own:q'.own=q.own) (m:q'.m=q.m)
 (hs:∀ t,t<2→∀ st,q.own t=st→Hs y t st→Hs y' t st) (sn:∀ t st,Hs y t st→snOf y' st=snOf y st) (an:∀ t,t<2→∀ st,Hs y t st→st≠q.st→q'.st=q.st∧y'.sn=y.sn∧y.st≠1) (un:∀ t st,t<2→Hs y t st→∀ x,Un q y st x→Un q' y' st x) (ln:Ln q' y' (ps 0)):Inv nos os D q' y' ps:=by
 refine ⟨b,c,fun t ht=>⟨fun j hj=>((I.t t ht).l j hj).mono al,?_⟩,ln,fun h=>by omega,fun h h'=>by omega,fun h h'=>by omega,fun h h'=>by omega⟩
 exact (I.t t ht).a.cs (fun i _ _ _ _ h=>al i h) (fun hb h=>bk fun e=>by have:=h.s0 (by omega);rw [this] at hb;simp [both] at hb) (by rw [own]) m (fun h=>hs t ht _ h) (sn t _) (fun h hn=>(let ⟨a,b,c⟩:=an t ht _ h hn;⟨a,b,al,bk c⟩)) fun h=>un t _ ht h
end
end Sw
namespace Sw
section
variable {q q':Q} {y y':Y} {ps:Nat→T}
theorem qt_y (e1:y'.st=y.st) (e2:y'.sn=y.sn):Qt q q y y':=⟨rfl,rfl,rfl,rfl,rfl,rfl,e1,e2⟩
theorem polls_le (q:Q) (i:Nat):q.polls i=i∨q.polls i=i+1:=by unfold Q.polls;split<;>simp
theorem polled (h:t<q.polls i) (ho:q.own t=st) (h1:st≠-1):t<i∨st=q.st:=by
 unfold Q.polls at h;split at h
 · next hc=>
   by_cases e:t=i
   · subst e;right;rcases hc with hc|hc<;>omega
   · left;omega
 · exact .inl h
theorem Hs.ne (h:Hs y t st) (c:Cy q y):st≠-1:=by
 have a:=h.s0;have b:=h.s2;have c1:=h.s3;have d:=h.s4;have e:=h.s5;have f:=h.s6;have g:=h.s7;have k:=h.s8;have l:=c.st
 omega
theorem cs_inv4 (I:Inv nos os D q y ps) (ok:∀ t,t<2→∀ i,i<nos t→OpOk (os t i)) (h:CS cS q y q' y') (hy4:y.st≤4):∃ D',Inv nos os D' q' y' ps:=by
 have c:=I.c
 have b:=I.b
 have c0:=c.st
 have A:=fun t (ht:t<2)=>(I.t t ht).a
 have noans:(∀ t,t<2→∀ st,Hs y t st→st=q.st)→∀ t,t<2→∀ st,Hs y t st→st≠q.st→q'.st=q.st∧y'.sn=y.sn∧y.st≠1:=fun h t ht st hs hn=>(hn (h t ht st hs)).elim
 have noB:∀ {g:Nat},¬(y.st=4)→¬Pend y g:=fun h hp=>h hp.1
 cases h with
 | idle h1 h2=>exact ⟨D,I⟩
 | wants h1 h2=>
  have q0:=c.h0 (by omega)
  have al:∀ i,Al q (y.to 1) i↔Al q y i:=fun i=>by unfold Al;simp [Y.to,h1]
  refine ⟨D,I.far (by simp [Y.to]) ⟨b.tab,fun i hi=>?_,fun g hg=>(b.glo g hg).mono fun i=>(al i).2,b.pl,b.pl2,b.sn⟩ ⟨by simp [Y.to],fun _=>q0,?_,?_,?_,?_,?_,?_,?_,?_,?_,?_,fun _=>c.b0 (by omega),?_,?_,fun _=>c.b6 (by omega),?_⟩ (fun i=>(al i).2) (fun _ _ h=>h) rfl rfl (fun t ht st ho h=>⟨fun _=>h.s0 (by omega),?_,?_,?_,?_,?_,?_,?_⟩) (fun t st h=>by unfold snOf;simp [Y.to,h1]) (fun t ht st hs hn=>absurd (hs.s0 (by omega)) (by omega)) (fun t st ht hs x u=>⟨u.lt,u.us,u.hd,fun _=>u.bk (by omega),fun h=>by simp [Y.to] at h⟩) ⟨I.ln.no,fun h=>?_⟩⟩
  · obtain ⟨a1,a2,a3,a4⟩:=b.typ i ((al i).1 hi);exact ⟨a1,a2.mono fun i=>(al i).2,a3.mono fun i=>(al i).2,a4⟩
  all_goals first
   | (intro h;simp [Y.to] at h;done)
   | skip
  obtain ⟨r,a1,b1,c1⟩:=I.ln.is h
  exact ⟨r,a1,b1,fun h=>⟨⟨(c1 h).1.lt,(c1 h).1.us,(c1 h).1.hd,fun _=>(c1 h).1.bk (by omega),fun h=>by simp [Y.to] at h⟩,(c1 h).2⟩⟩
 | begin_ h1 h2=>
  refine ⟨D,I.quiet ⟨rfl,rfl,rfl,rfl,rfl,rfl,rfl,rfl⟩ (fun _ h=>h) b.pl2 ⟨c.st,c.h0,fun h=>by simp only at h;omega,fun h=>by simp only at h;omega,fun h=>by simp only at h;omega,fun h=>by simp only at h;omega,fun h=>by simp only at h;omega,c.h7,fun h=>by simp only at h;omega,c.h9,fun h=>by simp only at h;omega,fun h=>by simp only at h;omega,c.b0,c.b9,c.b2,c.b6,fun h=>by simp only at h;omega⟩ (fun t ht st ho h=>⟨h.s0,fun h=>by simp only at h;omega,fun h=>by simp only at h;omega,fun h=>by simp only at h;omega,h.s5,fun h=>by simp only at h;omega,h.s7,fun h=>by simp only at h;omega⟩) ⟨fun h=>?_,fun h=>?_⟩ (fun _ _=>by omega) (fun _ _=>by omega) (fun _=>by omega) (fun _=>by omega)⟩
  · simp [I.ln.no h]
  · obtain ⟨r,a1,b1,c1⟩:=I.ln.is h
    exact ⟨{r with nt:=r.st==0},by simp [a1],b1,fun h=>⟨⟨(c1 h).1.lt,(c1 h).1.us,(c1 h).1.hd,(c1 h).1.bk,(c1 h).1.wh⟩,(c1 h).2⟩⟩
 | start h1 h2=>
  have q0:=c.h0 (by omega)
  have al:∀ i,Al {q with st:=1,sn:=!q.sn} (({y with sn:=!y.sn}:Y).to 2) i↔Al q y i:=fun i=>by unfold Al;simp [Y.to,h1]
  have blk:∀ i,Bk {q with st:=1,sn:=!q.sn} (({y with sn:=!y.sn}:Y).to 2) i→False:=fun i h=>by
   have h3:(q.t i).sn=!y.sn:=h.2.2
   rw [c.b0 (by omega) i h.1 (b.used h.1 h.2.1)] at h3
   cases hh:y.sn<;>simp [hh] at h3
  refine ⟨D,I.far (by simp [Y.to]) ⟨b.tab,fun i hi=>?_,fun g hg=>(b.glo g hg).mono fun i=>(al i).2,fun i hi=>?_,b.pl2,by show (!q.sn)=!y.sn;rw [b.sn]⟩ ⟨by simp [Y.to],?_,fun _=>⟨rfl,fun _=>by simp [Y.to]⟩,?_,?_,?_,?_,?_,?_,?_,?_,?_,?_,?_,fun _ i h=>(blk i h).elim,?_,?_⟩ (fun i=>(al i).2) (fun h=>by omega) rfl rfl (fun t ht st ho h=>⟨?_,fun _=>⟨.inl (h.s0 (by omega)),fun h=>by simp [Y.to] at h⟩,?_,?_,?_,?_,?_,?_⟩) (fun t st h=>?_) (fun t ht st hs hn=>absurd (hs.s0 (by omega)) (by omega)) (fun t st ht hs x u=>⟨u.lt,u.us,u.hd,fun h=>by simp [Y.to] at h,fun h=>?_⟩) ⟨I.ln.no,fun h=>?_⟩⟩
  · obtain ⟨a1,a2,a3,a4⟩:=b.typ i ((al i).1 hi);exact ⟨a1,a2.mono fun i=>(al i).2,a3.mono fun i=>(al i).2,a4⟩
  · have:=(c.b6 (by omega)).1;rw [show ({q with st:=1,sn:=!q.sn}:Q).pl=q.pl from rfl,this] at hi;simp at hi
  all_goals first
   | (intro h;simp [Y.to] at h;done)
   | skip
  · have:=h.s0 (by omega);unfold snOf;simp [Y.to,h1,this]
  · show (q.t x).sn=!!y.sn
    rw [u.bk (by omega)];simp
  · obtain ⟨r,a1,b1,c1⟩:=I.ln.is h
    refine ⟨r,a1,b1,fun h=>⟨⟨(c1 h).1.lt,(c1 h).1.us,(c1 h).1.hd,fun h=>by simp [Y.to] at h,fun _=>?_⟩,(c1 h).2⟩⟩
    show (q.t r.got).sn=!!y.sn
    rw [(c1 h).1.bk (by omega)];simp
 | hands h1 h2=>
  have hl:=polls_le q y.i
  have hi:y.i<2:=by rcases h1 with h|h;{exact (c.h2 h).2 h2};{exact (c.h3 h).2 h2}
  refine ⟨D,I.quiet (qt_y rfl rfl) (fun _ h=>h) b.pl2 ⟨c.st,c.h0,fun h=>⟨(c.h2 h).1,fun h=>?_⟩,fun h=>⟨(c.h3 h).1,fun h=>?_⟩,fun h=>by simp only at h;omega,fun h=>by simp only at h;omega,fun h=>by simp only at h;omega,c.h7,fun h=>by simp only at h;omega,fun h=>by simp only at h;omega,fun h=>by simp only at h;omega,fun h=>by simp only at h;omega,c.b0,fun h=>by simp only at h;omega,c.b2,c.b6,fun h=>by simp only at h;omega⟩ (fun t ht st ho h=>?_) (I.ln.qt (qt_y rfl rfl) rfl) (fun _ _=>by omega) (fun _ _=>by omega) (fun _=>by omega) (fun _=>by omega)⟩
  · by_cases hj:q.polls y.i=2
    · simp [hj,cS] at h
    · show q.polls y.i<2;omega
  · by_cases hj:q.polls y.i=2
    · simp [hj,cS] at h
    · show q.polls y.i<2;omega
  · have key:(({y with i:=q.polls y.i,at_:=if q.polls y.i=cS.threads then 2 else 0}:Y).at_≠0∨t<q.polls y.i)→t<y.i∨st=q.st:=fun hh=>by
     refine polled ?_ ho (h.ne c)
     rcases hh with hh|hh
     · by_cases hj:q.polls y.i=2
       · omega
       · simp [hj,cS] at hh
     · exact hh
    have k2:=h.s2;have k3:=h.s3;have q2:=c.h2;have q3:=c.h3
    refine ⟨fun h=>by simp only at h;omega,fun hy=>⟨(k2 hy).1,fun hh=>?_⟩,fun hy=>⟨(k3 hy).1,fun hh=>?_⟩,fun h=>by simp only at h;omega,fun h=>by simp only at h;omega,fun h=>by simp only at h;omega,fun h=>by simp only at h;omega,fun h=>by simp only at h;omega⟩
    · have:=key hh;simp only at hy;have a:=k2 hy;have b:=q2 hy;omega
    · have:=key hh;simp only at hy;have a:=k3 hy;have b:=q3 hy;omega
 | post h1 h2=>
  rcases h1 with h1|h1
  · have q0:=(c.h2 h1).1
    have hs1:∀ t st,Hs y t st→st=1:=fun t st h=>(h.s2 h1).2 (.inl h2)
    have al:∀ i,Al {q with st:=y.st} (y.to (y.st+1)) i↔Al q y i:=fun i=>by unfold Al;simp [Y.to,h1]
    have al1:=fun i=>(al i).2
    refine ⟨fun _=>False,⟨b.tab,fun i hi=>?_,fun g hg=>(b.glo g hg).mono al1,b.pl,b.pl2,b.sn⟩,⟨by simp [Y.to];omega,fun h=>by simp [Y.to] at h;omega,fun h=>by simp [Y.to] at h;omega,fun _=>⟨h1,fun _=>by simp [Y.to]⟩,fun h=>by simp [Y.to] at h;omega,fun h=>by simp [Y.to] at h;omega,fun h=>by simp [Y.to] at h;omega,fun h=>by simp [Y.to] at h;omega,fun h=>by simp [Y.to] at h;omega,fun h=>by simp [Y.to] at h;omega,fun h=>by simp [Y.to] at h;omega,fun h=>by simp [Y.to] at h;omega,fun h=>by simp [Y.to] at h;omega,fun h=>by simp [Y.to] at h;omega,fun _=>c.b2 (.inl h1),fun h=>by simp [Y.to] at h;omega,fun h=>by simp [Y.to] at h;omega⟩,fun t ht=>⟨fun j hj=>((I.t t ht).l j hj).mono al1,(A t ht).cs (fun i _ _ _ _=>al1 i) (fun _ _ _ h=>h) rfl rfl (fun _ h=>?_) (fun h=>?_) (fun h hn=>absurd (hs1 _ _ h) (by omega)) fun h x u=>⟨u.lt,u.us,u.hd,fun h=>by simp [Y.to] at h;omega,fun _=>u.wh (.inl h1)⟩⟩,⟨I.ln.no,fun h=>?_⟩,fun _ _ _ h=>h.elim,fun _ _ t ht=>⟨fun a s c _=>?_,fun a s c _ _=>?_⟩,fun h=>by simp [Y.to] at h;omega,fun h=>by simp [Y.to] at h;omega⟩
    · obtain ⟨a1,a2,a3,a4⟩:=b.typ i ((al i).1 hi);exact ⟨a1,a2.mono al1,a3.mono al1,a4⟩
    · have:=hs1 _ _ h
      exact ⟨fun h=>by simp [Y.to] at h;omega,fun h=>by simp [Y.to] at h;omega,fun _=>⟨.inl this,fun h=>by simp [Y.to] at h⟩,fun h=>by simp [Y.to] at h;omega,fun h=>by simp [Y.to] at h;omega,fun h=>by simp [Y.to] at h;omega,fun h=>by simp [Y.to] at h;omega,fun h=>by simp [Y.to] at h;omega⟩
    · have:=hs1 _ _ h;unfold snOf;rw [if_neg (by simp [Y.to];omega),if_neg (by omega)];rfl
    · obtain ⟨r,a1,b1,c1⟩:=I.ln.is h
      exact ⟨r,a1,b1,fun h=>⟨⟨(c1 h).1.lt,(c1 h).1.us,(c1 h).1.hd,fun h=>by simp [Y.to] at h;omega,fun _=>(c1 h).1.wh (.inl h1)⟩,(c1 h).2⟩⟩
    all_goals
     have at_:=A t ht
     cases at_ with
     | writ _ _ _ h _=>have:=hs1 _ _ h.hs;omega
     | _=>exfalso;omega
  · have q0:=(c.h3 h1).1
    have hs2:∀ t st,Hs y t st→st=2:=fun t st h=>(h.s3 h1).2 (.inl h2)
    have al:∀ i,Al {q with st:=y.st} (y.to (y.st+1)) i↔Al q y i:=fun i=>by unfold Al;simp [Y.to,h1]
    have al1:=fun i=>(al i).2
    have lo:∀ a,Loc {q with st:=y.st} (y.to (y.st+1)) a→Loc q y a:=fun a h=>h.imp (fun ⟨z,f,k,l⟩=>⟨z,f,(al z).1 k,l⟩) id
    refine ⟨D,⟨b.tab,fun i hi=>?_,fun g hg=>(b.glo g hg).mono al1,b.pl,b.pl2,b.sn⟩,⟨by simp [Y.to];omega,fun h=>by simp [Y.to] at h;omega,fun h=>by simp [Y.to] at h;omega,fun h=>by simp [Y.to] at h;omega,fun _=>⟨h1,.inl ⟨rfl,by simp [Y.to]⟩⟩,fun h=>by simp [Y.to] at h;omega,fun h=>by simp [Y.to] at h;omega,fun h=>by simp [Y.to] at h;omega,fun h=>by simp [Y.to] at h;omega,fun h=>by simp [Y.to] at h;omega,fun h=>by simp [Y.to] at h;omega,fun h=>by simp [Y.to] at h;omega,fun h=>by simp [Y.to] at h;omega,fun h=>by simp [Y.to] at h;omega,fun h=>by simp [Y.to] at h;omega,fun h=>by simp [Y.to] at h;omega,fun h=>by simp [Y.to] at h;omega⟩,fun t ht=>⟨fun j hj=>((I.t t ht).l j hj).mono al1,(A t ht).cs (fun i _ _ _ _=>al1 i) (fun _ _ _ h=>h) rfl rfl (fun _ h=>?_) (fun h=>?_) (fun h hn=>absurd (hs2 _ _ h) (by omega)) fun h x u=>⟨u.lt,u.us,u.hd,fun k=>?_,fun h=>by simp [Y.to] at h;omega⟩⟩,⟨I.ln.no,fun h=>?_⟩,fun h=>by simp [Y.to] at h;omega,fun _ _ t ht=>?_,fun _ _=>⟨fun a ha hD=>BkW.pr (q:={q with st:=y.st}) (y:=y.to (y.st+1)) (I.d3 h1 a (lo a ha) hD),fun z hz f hf hD=>.inl ((c.b2 (.inr h1) z hz).imp id .inl),fun g hg hD=>.inl ⟨by simp [Y.to,h1],by simp [Y.to],by simp [Y.to]⟩,fun _ h=>by simp [Y.to] at h,fun h=>by simp [Y.to] at h;omega⟩,fun _ _ t ht=>⟨fun hp hs=>?_,fun hp hs=>?_⟩⟩
    · obtain ⟨a1,a2,a3,a4⟩:=b.typ i ((al i).1 hi);exact ⟨a1,a2.mono al1,a3.mono al1,a4⟩
    · have:=hs2 _ _ h
      exact ⟨fun h=>by simp [Y.to] at h;omega,fun h=>by simp [Y.to] at h;omega,fun h=>by simp [Y.to] at h;omega,fun _=>⟨.inl this,fun h=>by simp [Y.to] at h⟩,fun h=>by simp [Y.to] at h;omega,fun h=>by simp [Y.to] at h;omega,fun h=>by simp [Y.to] at h;omega,fun h=>by simp [Y.to] at h;omega⟩
    · have:=hs2 _ _ h;unfold snOf;rw [if_neg (by simp [Y.to];omega),if_neg (by omega)];rfl
    · have:=hs2 _ _ h;simp [Y.to] at k;omega
    · obtain ⟨r,a1,b1,c1⟩:=I.ln.is h
      refine ⟨r,a1,b1,fun h=>?_⟩
      have hst:=(c1 h).2
      have at_:=A 0 (by decide)
      have:(ps 0).st=2:=by
       cases at_ with
       | wait _ _ _ h=>exact hs2 _ _ h.hs
       | ans _ h=>exact hs2 _ _ h.hs
       | _=>exfalso;omega
      omega
    · have k:=I.t3 (by omega) (by omega) t ht
      exact ⟨k.w4,k.w5⟩
    all_goals
     have at_:=A t ht
     cases at_ with
     | out h=>unfold T.here at *;omega
     | gone h=>unfold T.here at *;omega
     | idle _ _ h=>have:=hs2 _ _ h.hs;omega
     | ans _ h=>have:=hs2 _ _ h.hs;omega
     | wait _ _ _ h=>have:=hs2 _ _ h.hs;omega
     | start _ _ _ h=>have:=hs2 _ _ h.hs;omega
     | read _ _ _ h=>have:=hs2 _ _ h.hs;omega
     | writ _ _ _ h=>have:=hs2 _ _ h.hs;omega
     | make _ _ _ h=>have:=hs2 _ _ h.hs;omega
     | born _ _ _ h=>have:=hs2 _ _ h.hs;omega
 | rootG h1 h2=>
  have hh:y.i<2∧Al q y y.hd:=by have:=(c.h4 h1).2;rcases this with h|h|⟨_,a,b⟩;{omega};{omega};{exact ⟨a,b⟩}
  obtain ⟨ef,hb⟩:=ef_grey (t:=2) (p0:=ps 0) (D:=D) b c I.d3 I.s4 hh.2 fun h=>by omega
  have J:=I.ef ok ef
  have c:=J.c
  have b:=J.b
  refine ⟨D,J.quiet (qt_y rfl rfl) (fun _ h=>h) b.pl2 ⟨c.st,c.h0,fun h=>by simp only at h;omega,fun h=>by simp only at h;omega,fun h=>⟨(c.h4 h).1,.inl ⟨rfl,by show y.i+1≤2;omega⟩⟩,fun h=>by simp only at h;omega,fun h=>by simp only at h;omega,c.h7,fun h=>by simp only at h;omega,fun h=>by simp only at h;omega,fun h=>by simp only at h;omega,fun h=>by simp only at h;omega,c.b0,fun h=>by simp only at h;omega,c.b2,c.b6,fun h=>by simp only at h;omega⟩ (fun t ht st ho h=>⟨h.s0,fun h=>by simp only at h;omega,fun h=>by simp only at h;omega,fun k=>⟨(h.s4 k).1,fun ⟨h,_⟩=>by simp at h⟩,h.s5,fun h=>by simp only at h;omega,h.s7,fun h=>by simp only at h;omega⟩) (J.ln.qt (qt_y rfl rfl) rfl) (fun _ _ z f _ _ _ h=>.inl (h.imp id (·.imp id fun ⟨h,_⟩=>by omega))) (fun k k' g hg hD hp=>?_) (fun _ h=>by simp at h) (fun _=>by omega)⟩
  by_cases e:g=y.i
  · subst e;right
    rw [(J.s4 (by omega) (by omega)).r h1 h2 hD];exact .inr ⟨_,rfl,hb⟩
  · left;exact ⟨h1,by simp,by have:=hp.2.2;show y.i+1≤g;omega⟩
 | @root h h1 h2 h3 h4=>
  have hi:y.i<2:=h3
  have hm:q.m (312+y.i)=wR h∧Al q y h:=by
   have e:cS.gw y.i=312+y.i:=by simp [cS,Cf.gw]
   rw [e] at h4
   rcases (b.glo y.i hi).ix with ⟨_,e⟩|⟨j,e,ei,hj⟩
   · rw [h4] at e;simp at e
   · rw [h4] at ei;simp at ei;subst ei;exact ⟨e,hj⟩
  refine ⟨D,I.quiet (qt_y rfl rfl) (fun _ h=>h) b.pl2 ⟨c.st,c.h0,fun h=>by simp only at h;omega,fun h=>by simp only at h;omega,fun h=>⟨(c.h4 h).1,.inr (.inr ⟨rfl,hi,hm.2⟩)⟩,fun h=>by simp only at h;omega,fun h=>by simp only at h;omega,c.h7,fun h=>by simp only at h;omega,c.h9,fun h=>by simp only at h;omega,fun h=>by simp only at h;omega,c.b0,c.b9,c.b2,c.b6,fun h=>by simp only at h;omega⟩ (fun t ht st ho h=>⟨h.s0,fun h=>by simp only at h;omega,fun h=>by simp only at h;omega,fun k=>⟨(h.s4 k).1,fun ⟨h,_⟩=>by simp at h⟩,h.s5,fun h=>by simp only at h;omega,h.s7,fun h=>by simp only at h;omega⟩) (I.ln.qt (qt_y rfl rfl) rfl) (fun _ _ z f _ _ _ h=>.inl (h.imp id (·.imp id fun ⟨h,_⟩=>by omega))) (fun k k' g hg hD hp=>.inl ⟨h1,by simp,hp.2.2⟩) (fun _ _ _=>hm.1) (fun _=>by omega)⟩
 | root0 h1 h2 h3 h4=>
  have hi:y.i<2:=h3
  have hm:q.m (312+y.i)=wN:=by
   have e:cS.gw y.i=312+y.i:=by simp [cS,Cf.gw]
   rw [e] at h4
   rcases (b.glo y.i hi).ix with ⟨e,_⟩|⟨j,e,ei,hj⟩
   · exact e
   · rw [h4] at ei;simp at ei
  refine ⟨D,I.quiet (qt_y rfl rfl) (fun _ h=>h) b.pl2 ⟨c.st,c.h0,fun h=>by simp only at h;omega,fun h=>by simp only at h;omega,fun h=>⟨(c.h4 h).1,.inl ⟨h2,by show y.i+1≤2;omega⟩⟩,fun h=>by simp only at h;omega,fun h=>by simp only at h;omega,c.h7,fun h=>by simp only at h;omega,fun h=>by simp only at h;omega,fun h=>by simp only at h;omega,fun h=>by simp only at h;omega,c.b0,fun h=>by simp only at h;omega,c.b2,c.b6,fun h=>by simp only at h;omega⟩ (fun t ht st ho h=>⟨h.s0,fun h=>by simp only at h;omega,fun h=>by simp only at h;omega,fun k=>⟨(h.s4 k).1,fun ⟨h,_⟩=>by simp only at h;omega⟩,h.s5,fun h=>by simp only at h;omega,h.s7,fun h=>by simp only at h;omega⟩) (I.ln.qt (qt_y rfl rfl) rfl) (fun _ _ z f _ _ _ h=>.inl (h.imp id (·.imp id fun ⟨h,_⟩=>by omega))) (fun k k' g hg hD hp=>?_) (fun _ h=>by simp only at h;omega) (fun _=>by omega)⟩
  by_cases e:g=y.i
  · subst e;right;exact .inl hm
  · left;exact ⟨h1,by simp only;omega,by have:=hp.2.2;show y.i+1≤g;omega⟩
 | roots h1 h2=>
  have q3:=(c.h4 h1).1
  have h4:=(c.h4 h1).2
  have hgl:cS.globals=2:=rfl
  have hth:cS.threads=2:=rfl
  obtain ⟨i0,hi0⟩:∃ i0,i0=(if y.at_=0 then 0 else y.i):=⟨_,rfl⟩
  have hl:=polls_le q i0
  have hi2:i0<2:=by rw [hi0];split<;>omega
  have hs3:∀ t st,q.own t=st→Hs y t st→t<q.polls i0→st=3:=fun t st ho h hp=>by
   rcases polled hp ho (h.ne c) with k|k
   · have:y.at_=1:=by rw [hi0] at k;split at k<;>omega
     exact (h.s4 h1).2 ⟨this,by rw [hi0,if_neg (by omega)] at k;exact k⟩
   · omega
  have np:∀ g,g<2→¬Pend y g:=fun g hg hp=>by have:=hp.2;omega
  simp only
  rw [←hi0]
  split
  · next hj=>
    have hs3:∀ t st,t<2→q.own t=st→Hs y t st→st=3:=fun t st ht ho h=>hs3 t st ho h (by omega)
    have al:∀ i,Al q (y.to 5) i↔Al q y i:=fun i=>by unfold Al;simp [Y.to,h1]
    have al1:=fun i=>(al i).2
    have lo:∀ a,Loc q (y.to 5) a→Loc q y a:=fun a h=>h.imp (fun ⟨z,f,k,l⟩=>⟨z,f,(al z).1 k,l⟩) id
    have src:∀ z f,Src q y z f→Src q (y.to 5) z f:=fun z f h=>h.imp id (·.imp id fun ⟨h,_⟩=>by omega)
    have pr:∀ x,Pr q y D x→Pr q (y.to 5) D x:=Pr.mono (fun _ h=>h) (fun g x a1 b1 _ _ _=>(np g a1 b1).elim) fun z f x a1 b1 c1 d1 e1 g1 k1=>.ed b1 (al1 z a1) c1 (d1.imp id (src z f)) e1 g1 (al1 x k1)
    have s:=I.s4 (by omega) (by omega)
    refine ⟨D,⟨b.tab,fun i hi=>?_,fun g hg=>(b.glo g hg).mono al1,b.pl,b.pl2,b.sn⟩,⟨by simp [Y.to],fun h=>by simp [Y.to] at h,fun h=>by simp [Y.to] at h,fun h=>by simp [Y.to] at h,fun h=>by simp [Y.to] at h,fun _=>⟨q3,.inl rfl⟩,fun h=>by simp [Y.to] at h,fun h=>by simp [Y.to] at h,fun h=>by simp [Y.to] at h,fun h=>by simp [Y.to] at h,fun _ h=>by simp [Y.to] at h,fun _ h=>by simp [Y.to] at h,fun h=>by simp [Y.to] at h,fun h=>by simp [Y.to] at h,fun h=>by simp [Y.to] at h,fun h=>by simp [Y.to] at h,fun _ h=>by simp [Y.to] at h⟩,fun t ht=>⟨fun j hj=>((I.t t ht).l j hj).mono al1,?_⟩,⟨I.ln.no,fun h=>?_⟩,fun h=>by simp [Y.to] at h,fun _ _ t ht=>?_,fun _ _=>⟨fun a ha hD=>(s.d a (lo a ha) hD).mono pr,fun z hz f hf hD=>(s.f z hz f hf hD).imp (src z f) id,fun g hg hD=>.inr ((s.g g hg hD).resolve_left (np g hg)),fun h=>by simp [Y.to] at h,fun _ h=>by simp [Y.to] at h⟩,fun _ _ t ht=>(I.t4 (by omega) (by omega) t ht).mono pr⟩
    · obtain ⟨a1,a2,a3,a4⟩:=b.typ i ((al i).1 hi);exact ⟨a1,a2.mono al1,a3.mono al1,a4⟩
    · have at_:=A t ht
      by_cases hown:q.own t=(ps t).st
      · refine at_.cs (fun i _ _ _ _=>al1 i) (fun _ _ _ h=>h) rfl rfl (fun ho h=>?_) (fun h=>?_) (fun h hn=>absurd (hs3 _ _ ht hown h) (by omega)) fun h x u=>?_
        · have:=hs3 _ _ ht ho h
          exact ⟨fun h=>by simp [Y.to] at h,fun h=>by simp [Y.to] at h,fun h=>by simp [Y.to] at h,fun h=>by simp [Y.to] at h,fun _=>this,fun h=>by simp [Y.to] at h,fun h=>by simp [Y.to] at h,fun h=>by simp [Y.to] at h⟩
        · unfold snOf;rw [if_neg (by simp [Y.to]),if_neg (by omega)];rfl
        · have:=hs3 _ _ ht hown h
          exact ⟨u.lt,u.us,u.hd,fun _=>u.bk (.inr (.inr ⟨h1,this⟩)),fun h=>by simp [Y.to] at h⟩
      · cases at_ with
        | out a b c=>exact .out a b c
        | gone a b c=>exact .gone a b c
        | idle _ _ h=>exact (hown h.own).elim
        | ans _ h=>exact (hown h.own).elim
        | wait _ _ _ h=>exact (hown h.own).elim
        | start _ _ _ h=>exact (hown h.own).elim
        | read _ _ _ h=>exact (hown h.own).elim
        | writ _ _ _ h=>exact (hown h.own).elim
        | make _ _ _ h=>exact (hown h.own).elim
        | born _ _ _ h=>exact (hown h.own).elim
    · obtain ⟨r,a1,b1,c1⟩:=I.ln.is h
      refine ⟨r,a1,b1,fun h=>?_⟩
      have hst:=(c1 h).2
      have at_:=A 0 (by decide)
      have:(ps 0).st=3:=by
       cases at_ with
       | wait _ _ _ h=>exact hs3 _ _ (by decide) h.own h.hs
       | ans _ h=>exact hs3 _ _ (by decide) h.own h.hs
       | _=>exfalso;omega
      omega
    · have k:=I.t3 (by omega) (by omega) t ht
      exact ⟨k.w4,k.w5⟩
  · next hj=>
    refine ⟨D,I.quiet (qt_y rfl rfl) (fun _ h=>h) b.pl2 ⟨c.st,c.h0,fun h=>by simp only at h;omega,fun h=>by simp only at h;omega,fun h=>⟨q3,.inr (.inl ⟨rfl,by show q.polls i0<2;omega⟩)⟩,fun h=>by simp only at h;omega,fun h=>by simp only at h;omega,c.h7,fun h=>by simp only at h;omega,fun h=>by simp only at h;omega,fun h=>by simp only at h;omega,fun h=>by simp only at h;omega,c.b0,fun h=>by simp only at h;omega,c.b2,c.b6,fun h=>by simp only at h;omega⟩ (fun t ht st ho h=>⟨h.s0,fun h=>by simp only at h;omega,fun h=>by simp only at h;omega,fun k=>⟨(h.s4 k).1,fun ⟨_,hp⟩=>hs3 t st ho h hp⟩,h.s5,fun h=>by simp only at h;omega,h.s7,fun h=>by simp only at h;omega⟩) (I.ln.qt (qt_y rfl rfl) rfl) (fun _ _ z f _ _ _ h=>.inl (h.imp id (·.imp id fun ⟨h,_⟩=>by omega))) (fun k k' g hg hD hp=>(np g hg hp).elim) (fun _ h=>by simp at h) (fun _=>by omega)⟩
 | _=>exfalso;omega
end
end Sw
end Go.Proofs.YtgcmiahhkalfmaaGreat
