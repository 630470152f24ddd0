import Derived.Test.YtgcmiahhkalfmaaGreatM15
set_option maxRecDepth 100000
set_option maxHeartbeats 8000000
set_option linter.unusedVariables false
set_option linter.unusedSimpArgs false
namespace Go.Proofs.YtgcmiahhkalfmaaGreat
variable {s:Bool} {st:Int} {v:Lc} {a i j no t x:Nat} {nos:Nat→Nat} {os:Nat→Nat→Opn} {D D':Nat→Prop} {o:Opn}
namespace Sw
section
variable {q q':Q} {y y':Y} {w:Wd} {p p0:T} {o:Nat→Opn}
theorem set_same {α:Type} {f:Nat→α} {x:α}:set f i x i=x:=by simp [set]
theorem set_ne {α:Type} {f:Nat→α} {x:α} (h:j≠i):set f i x j=f j:=by simp [set,h]
theorem ef_take (b:Base q y) (c:Cy q y) (hd3:y.st=3→∀ a,Loc q y a→D a→BkW q y (q.m a)) (hs4:4≤y.st→y.st≤5→S4 q y D) (hi:i<24) (hf:q.fr i=true) (hs:y.st≤1∨9≤y.st→s=y.sn):
 Ef q (q.take i s) y D D t p0:=by
 have h0:(q.t i).hd=false:=by
  rcases b.tab i hi with ⟨_,_,h⟩|⟨_,h⟩
  · exact h
  · rw [hf] at h;simp at h
 have al:∀ j,Al q y j→Al (q.take i s) y j:=fun j h=>by
  have:j≠i:=fun e=>by rw [e] at h;have:=h.2.1;rw [h0] at this;simp at this
  unfold Al Q.take at *;simp only [set_ne this];exact h
 have al':∀ j,Al (q.take i s) y j→Al q y j:=fun j h=>by
  by_cases e:j=i
  · subst e;have:=h.2.1;simp [Q.take,set] at this
  · unfold Al Q.take at h;simp only [set_ne e] at h;exact h
 have bk:∀ j,Bk q y j→Bk (q.take i s) y j:=fun j h=>by
  have:j≠i:=fun e=>by rw [e] at h;have:=h.2.1;rw [h0] at this;simp at this
  unfold Bk Q.take at *;simp only [set_ne this];exact h
 have bk':∀ j,Bk (q.take i s) y j→Bk q y j:=fun j h=>by
  by_cases e:j=i
  · subst e;have:=h.2.1;simp [Q.take,set] at this
  · unfold Bk Q.take at h;simp only [set_ne e] at h;exact h
 have pr:∀ x,Pr q y D x→Pr (q.take i s) y D x:=Pr.mono bk (fun g x a b c d e=>.gl a b c d (al _ e)) fun z f x a b c d e g k=>.ed b (al _ a) c (d.imp (fun h h'=>h (bk' _ h')) id) e g (al _ k)
 have lo:∀ a,Loc (q.take i s) y a→Loc q y a:=fun a h=>h.imp (fun ⟨z,f,a,b⟩=>⟨z,f,al' z a,b⟩) id
 have us:∀ j,((q.take i s).t j).st=2→(y.st≤1∨9≤y.st)→(j≠i→(q.t j).st=2→(q.t j).sn=y.sn)→((q.take i s).t j).sn=y.sn:=fun j h1 h2 h3=>by
  by_cases e:j=i
  · subst e;simp [Q.take,set,hs h2]
  · simp only [Q.take,set_ne e] at *;exact h3 e h1
 refine ⟨⟨fun j hj=>?_,fun j hj=>?_,fun g hg=>(b.glo g hg).mono al,fun j hj=>bk j (b.pl j hj),b.pl2,b.sn⟩,
  ⟨c.st,c.h0,c.h2,c.h3,fun h=>?_,c.h5,c.h6,c.h7,c.h8,c.h9,c.rs,fun h h'=>?_,fun h j hj hu=>us j hu (by omega) fun _=>c.b0 h j hj,fun h j hj hu=>us j hu (by omega) fun _=>c.b9 h j hj,fun h j hj=>c.b2 h j (bk' j hj),c.b6,c.b5⟩,
  al,bk,rfl,fun _ _=>rfl,fun _ st x u=>⟨set_ne fun e=>?_,fun _ _=>rfl⟩,fun _=>rfl,fun h a ha hD=>(hd3 h a (lo a ha) hD).mono bk,fun h h'=>?_,fun _ _=>pr,fun _ h=>h,fun _ _ _=>rfl,fun j h=>.inl (al' j h)⟩
 · by_cases e:j=i
   · subst e;simp [Q.take,set]
   · simp only [Q.take,set_ne e];exact b.tab j hj
 · obtain ⟨a1,a2,a3,a4⟩:=b.typ j (al' j hj);exact ⟨a1,a2.mono al,a3.mono al,a4⟩
 · have:=c.h4 h;exact ⟨this.1,this.2.imp id (·.imp id fun ⟨a,b,c⟩=>⟨a,b,al _ c⟩)⟩
 · obtain ⟨h1,h2⟩:=c.tr h h';exact ⟨bk _ h1,h2.imp id (·.imp id fun ⟨a,b,c⟩=>⟨a,b,al _ c⟩)⟩
 · rcases b.tab i hi with ⟨h,_⟩|⟨_,h⟩
   · have:=u.us;rw [e,h] at this;simp at this
   · rw [hf] at h;simp at h
 · have s:=hs4 h h'
   exact ⟨fun a ha hD=>(s.d a (lo a ha) hD).mono pr,fun x hx f hf hD=>(s.f x (bk' x hx) f hf hD).imp id (·.mono bk),fun g hg hD=>(s.g g hg hD).imp id (·.mono bk),s.r,s.t⟩
theorem ef_write {u:Wd} (b:Base q y) (c:Cy q y) (hd3:y.st=3→∀ a,Loc q y a→D a→BkW q y (q.m a)) (hs4:4≤y.st→y.st≤5→S4 q y D) (ha:Loc q y a) (hu:OkW q y u)
 (h3:y.st=3→BkW q y u) (h4:4≤y.st→y.st≤5→PrW q y D u∧(¬D a→BkW q y (q.m a))):Ef q {q with m:=set q.m a u} y D (fun x=>D x∨x=a) t p0:=by
 have hsm:a%8=2∨a%8=3∨312≤a:=by rcases ha with ⟨z,f,_,hf,rfl⟩|⟨g,_,rfl⟩<;>omega
 have key:∀ j k,j<24→k≠2→k≠3→k<8→set q.m a u (j*8+k)=q.m (j*8+k):=fun j k hj h2 h3 h8=>set_ne (by omega)
 have okw:∀ x,OkW q y (q.m x)→OkW q y (set q.m a u x):=fun x h=>by unfold set;split<;>assumption
 have pr:4≤y.st→y.st≤5→∀ x,Pr q y D x→Pr {q with m:=set q.m a u} y (fun x=>D x∨x=a) x:=fun h h'=>by
  have hb:=(h4 h h').2
  have one:∀ z x,¬D z→q.m z=wR x→z=a→Bk q y x:=fun z x hD hm e=>by
   subst e
   rcases hb hD with e|⟨i,e,hi⟩
   · rw [hm] at e;simp [wR,wN] at e
   · rw [hm] at e;simp [wR] at e;exact e▸hi
  refine Pr.mono (fun _ h=>h) (fun g x a1 b1 c1 d1 e1=>?_) fun z f x a1 b1 c1 d1 e1 g1 k1=>?_
  · by_cases e:312+g=a
    · exact .bk (one _ _ c1 d1 e)
    · exact .gl a1 b1 (fun h=>h.elim c1 e) (by simp only [set_ne e];exact d1) e1
  · by_cases e:z*8+f=a
    · exact .bk (one _ _ e1 g1 e)
    · exact .ed b1 a1 c1 d1 (fun h=>h.elim e1 e) (by simp only [set_ne e];exact g1) k1
 refine ⟨⟨b.tab,fun j hj=>?_,fun g hg=>okw _ (b.glo g hg),b.pl,b.pl2,b.sn⟩,⟨c.st,c.h0,c.h2,c.h3,c.h4,c.h5,c.h6,c.h7,c.h8,c.h9,c.rs,c.tr,c.b0,c.b9,c.b2,c.b6,c.b5⟩,fun _ h=>h,fun _ h=>h,rfl,fun _ _=>rfl,
  fun _ st x hx=>⟨rfl,fun k hk=>set_ne (Ne.symm (ha.far b hx.lt hx.hd hk))⟩,fun _=>rfl,fun h x hx hD=>?_,fun h h'=>?_,pr,fun _ h=>.inl h,fun x _ hD=>set_ne fun e=>hD (.inr e),fun _ h=>.inl h⟩
 · obtain ⟨a1,a2,a3,a4⟩:=b.typ j hj
   have h24:j<24:=hj.1
   exact ⟨(key j 1 h24 (by decide) (by decide) (by decide)).trans a1,okw _ a2,okw _ a3,by rw [show ({q with m:=set q.m a u}:Q).m (j*8+4)=q.m (j*8+4) from key j 4 h24 (by decide) (by decide) (by decide)];exact a4⟩
 · by_cases e:x=a
   · subst e;simp only [set_same];exact h3 h
   · simp only [set_ne e];exact hd3 h x hx (hD.resolve_right e)
 · have s:=hs4 h h'
   have nd:∀ {x},¬(D x∨x=a)→set q.m a u x=q.m x:=fun h=>set_ne fun e=>h (.inr e)
   refine ⟨fun x hx hD=>?_,fun x hx f hf hD=>?_,fun g hg hD=>?_,fun h1 h2 hD=>?_,fun h1 h2 h3 hD=>?_⟩
   · by_cases e:x=a
     · subst e;simp only [set_same];exact (h4 h h').1.mono (pr h h')
     · simp only [set_ne e];exact (s.d x hx (hD.resolve_right e)).mono (pr h h')
   · simp only [nd hD];exact s.f x hx f hf fun h=>hD (.inl h)
   · simp only [nd hD];exact s.g g hg fun h=>hD (.inl h)
   · exact (nd hD).trans (s.r h1 h2 fun h=>hD (.inl h))
   · exact (nd hD).trans (s.t h1 h2 h3 fun h=>hD (.inl h))
theorem ef_far {u:Wd} (b:Base q y) (c:Cy q y) (hd3:y.st=3→∀ a,Loc q y a→D a→BkW q y (q.m a)) (hs4:4≤y.st→y.st≤5→S4 q y D) (ha:∀ x,Loc q y x→x≠a) (h1:∀ i,Al q y i→i*8+1≠a)
 (h4:∀ i,Al q y i→i*8+4=a→NumW u) (hu:t≠0→∀ st x,Un q y st x→∀ k,k<8→x*8+k≠a):Ef q {q with m:=set q.m a u} y D D t p0:=by
 have fr:∀ {x},Loc q y x→set q.m a u x=q.m x:=fun h=>set_ne (ha _ h)
 have lf:∀ {i f},Al q y i→(f=2∨f=3)→Loc q y (i*8+f):=fun h h'=>.inl ⟨_,_,h,h',rfl⟩
 have lg:∀ {g},g<2→Loc q y (312+g):=fun h=>.inr ⟨_,h,rfl⟩
 have pr:∀ x,Pr q y D x→Pr {q with m:=set q.m a u} y D x:=Pr.mono (fun _ h=>h) (fun g x a1 b1 c1 d1 e1=>.gl a1 b1 c1 (by simp only [fr (lg a1)];exact d1) e1)
  fun z f x a1 b1 c1 d1 e1 g1 k1=>.ed b1 a1 c1 d1 e1 (by simp only [fr (lf a1 c1)];exact g1) k1
 refine ⟨⟨b.tab,fun j hj=>?_,fun g hg=>?_,b.pl,b.pl2,b.sn⟩,⟨c.st,c.h0,c.h2,c.h3,c.h4,c.h5,c.h6,c.h7,c.h8,c.h9,c.rs,c.tr,c.b0,c.b9,c.b2,c.b6,c.b5⟩,fun _ h=>h,fun _ h=>h,rfl,fun _ _=>rfl,
  fun ht st x hx=>⟨rfl,fun k hk=>set_ne (hu ht st x hx k hk)⟩,fun _=>rfl,fun h x hx hD=>?_,fun h h'=>?_,fun _ _=>pr,fun _ h=>h,fun x hx _=>fr hx,fun _ h=>.inl h⟩
 · obtain ⟨a1,a2,a3,a4⟩:=b.typ j hj
   refine ⟨(set_ne (h1 j hj)).trans a1,by simp only [fr (lf hj (.inl rfl))];exact a2,by simp only [fr (lf hj (.inr rfl))];exact a3,?_⟩
   by_cases e:j*8+4=a
   · simp only [e,set_same];exact h4 j hj e
   · simp only [set_ne e];exact a4
 · simp only [fr (lg hg)];exact b.glo g hg
 · simp only [fr hx];exact hd3 h x hx hD
 · have s:=hs4 h h'
   refine ⟨fun x hx hD=>?_,fun x hx f hf hD=>?_,fun g hg hD=>?_,fun h1 h2 hD=>?_,fun h1 h2 h3 hD=>?_⟩
   · simp only [fr hx];exact (s.d x hx hD).mono pr
   · simp only [fr (lf hx.al hf)];exact s.f x hx f hf hD
   · simp only [fr (lg hg)];exact s.g g hg hD
   · have:=(c.h4 h1).2
     simp only [fr (lg (show y.i<2 by omega))];exact s.r h1 h2 hD
   · have hb:=(c.tr h1 h2).1.al
     have hf:(if y.tr.ws=[3] then 2 else 3)=2∨(if y.tr.ws=[3] then 2 else 3)=3:=by split<;>simp
     simp only [fr (lf hb hf)];exact s.t h1 h2 h3 hD
theorem ef_born (b:Base q y) (c:Cy q y) (hd3:y.st=3→∀ a,Loc q y a→D a→BkW q y (q.m a)) (hs4:4≤y.st→y.st≤5→S4 q y D) (u:Un q y st x) (hm:∀ k,k<8→q.m (x*8+k)=plW cS.refs k):
 Ef q {q with t:=set q.t x {q.t x with hd:=true}} y D D 0 p0∧Al {q with t:=set q.t x {q.t x with hd:=true}} y x:=by
 have m1:q.m (x*8+1)=⟨0,1⟩:=hm 1 (by decide)
 have m2:q.m (x*8+2)=wN:=hm 2 (by decide)
 have m3:q.m (x*8+3)=wN:=hm 3 (by decide)
 have m4:q.m (x*8+4)=w0:=hm 4 (by decide)
 have hc:=c.st
 generalize hq:({q with t:=set q.t x {q.t x with hd:=true}}:Q)=q'
 have qt:∀ j,j≠x→q'.t j=q.t j:=fun j h=>by subst hq;exact set_ne h
 have qx:q'.t x={q.t x with hd:=true}:=by subst hq;exact set_same
 have qm:q'.m=q.m:=by subst hq;rfl
 have nx:∀ j,Al q y j→j≠x:=fun j h e=>by have:=h.2.1;rw [e,u.hd] at this;simp at this
 have al:∀ j,Al q y j→Al q' y j:=fun j h=>by have:=qt j (nx j h);unfold Al at *;rw [this];exact h
 have al':∀ j,Al q' y j→j=x∨Al q y j:=fun j h=>by
  by_cases e:j=x
  · exact .inl e
  · right;have:=qt j e;unfold Al at *;rw [←this];exact h
 have bk:∀ j,Bk q y j→Bk q' y j:=fun j h=>by have:=qt j (nx j h.al);unfold Bk at *;rw [this];exact h
 have bk':∀ j,Bk q' y j→j=x∨Bk q y j:=fun j h=>by
  by_cases e:j=x
  · exact .inl e
  · right;have:=qt j e;unfold Bk at *;rw [←this];exact h
 have ax:Al q' y x:=⟨u.lt,by rw [qx],fun h6 h9=>by rw [qx];exact u.bk (.inr (.inl (by omega)))⟩
 have wf:∀ f,f=2∨f=3→q.m (x*8+f)=wN:=fun f h=>by rcases h with rfl|rfl<;>assumption
 have lo:∀ a,Loc q' y a→q.m a=wN∨Loc q y a:=fun a h=>by
  rcases h with ⟨z,f,hz,hf,rfl⟩|h
  · rcases al' z hz with rfl|hz
    · exact .inl (wf f hf)
    · exact .inr (.inl ⟨z,f,hz,hf,rfl⟩)
  · exact .inr (.inr h)
 have src:∀ z f,Src q y z f→Src q' y z f:=by subst hq;exact fun _ _ h=>h
 have pr:∀ x,Pr q y D x→Pr q' y D x:=Pr.mono bk (fun g x a b c d e=>.gl a b c (by rw [qm];exact d) (al _ e))
  fun z f j a b c d e g k=>.ed b (al _ a) c (d.imp (fun h h'=>(bk' z h').elim (nx z a) h) (src z f)) e (by rw [qm];exact g) (al _ k)
 have us:∀ j,(q'.t j).st=(q.t j).st∧(q'.t j).sn=(q.t j).sn:=fun j=>by
  by_cases e:j=x
  · subst e;rw [qx];exact ⟨rfl,rfl⟩
  · rw [qt j e];exact ⟨rfl,rfl⟩
 have qs:q'.st=q.st∧q'.pl=q.pl∧q'.lo=q.lo∧q'.fr=q.fr∧q'.sn=q.sn∧q'.own=q.own:=by subst hq;exact ⟨rfl,rfl,rfl,rfl,rfl,rfl⟩
 refine ⟨⟨⟨fun j hj=>?_,fun j hj=>?_,fun g hg=>by rw [qm];exact (b.glo g hg).mono al,fun j hj=>bk j (b.pl j (qs.2.1▸hj)),by rw [qs.2.1];exact b.pl2,by rw [qs.2.2.2.2.1];exact b.sn⟩,
  ⟨c.st,by rw [qs.1];exact c.h0,by rw [qs.1];exact c.h2,by rw [qs.1];exact c.h3,fun h=>?_,by rw [qs.1];exact c.h5,by rw [qs.1];exact c.h6,by rw [qs.1];exact c.h7,c.h8,c.h9,c.rs,fun h h'=>?_,fun h j hj hu=>?_,fun h j hj hu=>?_,fun h j hj=>?_,by rw [qs.2.1,qs.2.2.1];exact c.b6,by rw [qs.2.1,qs.2.2.1];exact c.b5⟩,
  al,bk,qs.1,fun _ _=>by rw [qs.2.2.2.2.2],fun h=>(h rfl).elim,fun h=>(h rfl).elim,fun h a ha hD=>?_,fun h h'=>?_,fun _ _=>pr,fun _ h=>h,fun _ _ _=>by rw [qm],fun j h=>(al' j h).elim (fun e=>.inr (e▸u.hd)) .inl⟩,ax⟩
 · rw [(us j).1,qs.2.2.2.1]
   by_cases e:j=x
   · subst e
     rcases b.tab j hj with ⟨h1,_⟩|h
     · rw [u.us] at h1;simp at h1
     · exact .inr h
   · rw [qt j e];exact b.tab j hj
 · rw [qm]
   rcases al' j hj with rfl|hj
   · exact ⟨m1,.inl m2,.inl m3,.inl m4⟩
   · obtain ⟨a1,a2,a3,a4⟩:=b.typ j hj;exact ⟨a1,a2.mono al,a3.mono al,a4⟩
 · rw [qs.1];have:=c.h4 h;exact ⟨this.1,this.2.imp id (·.imp id fun ⟨a,b,c⟩=>⟨a,b,al _ c⟩)⟩
 · obtain ⟨h1,h2⟩:=c.tr h h';exact ⟨bk _ h1,h2.imp id (·.imp id fun ⟨a,b,c⟩=>⟨a,b,al _ c⟩)⟩
 · rw [(us j).1] at hu;rw [(us j).2];exact c.b0 h j hj hu
 · rw [(us j).1] at hu;rw [(us j).2];exact c.b9 h j hj hu
 · rw [qs.2.1,qs.2.2.1]
   rcases bk' j hj with rfl|hj
   · have:=hj.2.2;rw [qx] at this;have h2:=u.wh h;simp at this;rw [this] at h2;cases hh:y.sn<;>simp [hh] at h2
   · exact c.b2 h j hj
 · rw [qm]
   rcases lo a ha with e|ha
   · exact .inl e
   · exact (hd3 h a ha hD).mono bk
 · have s:=hs4 h h'
   refine ⟨fun a ha hD=>?_,fun j hj f hf hD=>?_,fun g hg hD=>?_,by rw [qm];exact s.r,by rw [qm];exact s.t⟩
   · rw [qm]
     rcases lo a ha with e|ha
     · exact .inl e
     · exact (s.d a ha hD).mono pr
   · rw [qm]
     rcases bk' j hj with rfl|hj
     · exact .inr (.inl (wf f hf))
     · exact (s.f j hj f hf hD).imp (src j f) (·.mono bk)
   · rw [qm];exact (s.g g hg hD).imp id (·.mono bk)
end
end Sw
namespace Sw
section
variable {q q':Q} {y y':Y} {w:Wd} {p p' p0:T} {ps:Nat→T}
theorem Cy.hs (c:Cy q y):Hs y t q.st:=by
 refine ⟨fun h=>?_,fun h=>?_,fun h=>?_,fun h=>?_,fun h=>?_,fun h=>?_,fun h=>?_,fun h=>?_⟩
 · exact c.h0 (by omega)
 · have:=(c.h2 h).1;omega
 · have:=(c.h3 h).1;omega
 · have:=(c.h4 h).1;omega
 · exact (c.h5 h).1
 · have:=c.h6 h;omega
 · exact c.h7 h
 · have:=c.h0 (by omega);omega
theorem Cy.sns (b:Base q y) (c:Cy q y):q.sn=snOf y q.st:=by
 rw [b.sn];unfold snOf
 rw [if_neg]
 rintro ⟨h,h'⟩
 have:=(c.h2 h).1;omega
theorem Hs.mid (h:Hs y t st) (h3:3≤y.st) (h5:y.st≤5):st=1∨st=2∨st=3:=by
 have a:=h.s3;have b:=h.s4;have c:=h.s5;omega
theorem shades_mid (h:st=1∨st=2∨st=3):shades st=true:=by rcases h with rfl|rfl|rfl<;>rfl
theorem T3.nil (h:p.ph=2→p.at_=4∨p.at_=5∨p.at_=6→False):T3 q y D p:=⟨fun a _ b=>(h a (.inl b)).elim,fun a _ b=>(h a (.inr b)).elim⟩
theorem wR_ix (i:Nat):(wR i).ix=some i:=by simp [wR,Wd.ix]
theorem wN_ix:wN.ix=none:=by simp [wN,Wd.ix]
theorem OkW.ix (h:OkW q y w):(w=wN∧w.ix=none)∨∃ i,w=wR i∧w.ix=some i∧Al q y i:=by
 rcases h with rfl|⟨i,rfl,h⟩
 · exact .inl ⟨rfl,wN_ix⟩
 · exact .inr ⟨i,rfl,wR_ix i,h⟩
theorem opEr_ok (o:Opn) (l:Nat→Lc) (h:opEr o l=0):(o.kd=3→(l o.b).ref=true∧(l o.b).w≠wN)∧(o.kd=4→(l o.a).ref=true∧(l o.a).w≠wN)∧(o.kd=8→(l o.b).ref=true):=by
 refine ⟨fun k=>?_,fun k=>?_,fun k=>?_⟩<;>simp [opEr,must,k] at h<;>first|exact h|(split at h<;>simp_all)
theorem Inv.k0 (I:Inv nos os D q y ps) (ok:∀ t,t<2→∀ i,i<nos t→OpOk (os t i)) (ht:t<2) (own:Nat→Int) (ln:Option Rq) (ho:∀ k,k≠t→own k=q.own k) (hl:t≠0→ln=q.ln)
 (l:∀ j,j<4→LcOk q y (p'.l j)) (a:At {q with own:=own,ln:=ln} y t (nos t) (os t) p') (lnn:t=0→Ln {q with own:=own,ln:=ln} y p')
 (t3:3≤y.st→y.st≤5→T3 q y D p') (t4:4≤y.st→y.st≤5→T4 q y D p'):∃ D',Inv nos os D' {q with own:=own,ln:=ln} y (set ps t p')∧∀ i,Al {q with own:=own,ln:=ln} y i→Al q y i∨(q.t i).hd=false:=by
 have e:=ef_same (t:=t) (p0:=ps 0) own ln I.b I.c I.d3 I.s4 ho hl
 refine ⟨D,I.step ok ht e ⟨fun j hj=>(l j hj).mono e.al,a⟩ lnn (fun h h'=>?_) fun h h'=>(t4 h h').mono (e.pr h h')⟩
 have:=t3 h h'
 exact ⟨this.w4,this.w5⟩
theorem Ln.same (h:Ln q y p) (own:Nat→Int) (hp:p.ph≠3) (hp':p'.ph≠3):Ln {q with own:=own} y p':=⟨fun _=>h.no hp,fun h=>(hp' h).elim⟩
theorem lay_l (l:∀ j,j<4→LcOk q y (p.l j)) (h:LcOk q y v):∀ j,j<4→LcOk q y ((p.lay a v).1.l j):=fun j hj=>by
 show LcOk q y (set p.l a v j)
 unfold set;split
 · exact h
 · exact l j hj
theorem lay_t4 (hp:p.here) (t4:T4 q y D p) (h:p.st=3→v.ref=true→PrW q y D v.w):T4 q y D (p.lay a v).1:=by
 refine ⟨fun _ s j hj hr=>?_,fun h=>?_⟩
 · have e:(p.lay a v).1.l j=set p.l a v j:=rfl
   rw [e] at hr ⊢
   unfold set at *;split at hr
   · next h'=>rw [if_pos h'];exact h s hr
   · next h'=>rw [if_neg h'];exact t4.l hp s j hj hr
 · exact absurd (show (1:Int)=2 from h) (by decide)
theorem next_t4 (hp:p.here) (t4:T4 q y D p):T4 q y D p.next:=⟨fun _ s j hj hr=>t4.l hp s j hj hr,fun h=>absurd (show (1:Int)=2 from h) (by decide)⟩
theorem olds_ok (hk:OpOk o) (b:Base q y) (hl:∀ j,j<4→LcOk q y (p.l j)) (h3:p.at_=3) (h:Wr q y o p):Wr q y o (p.olds q.m)∧3≤(p.olds q.m).at_∧(p.olds q.m).at_≤6∧T3 q y D (p.olds q.m)∧((p.olds q.m).at_=4→OkW q y (p.olds q.m).old):=by
 obtain ⟨hr,hs⟩:=h.r3 (.inl h3)
 have hlo:=h.loc hk hl hr
 have hm:OkW q y (q.m p.ad):=by
  rcases hlo with ⟨z,f,hz,hf,e⟩|⟨g,hg,e⟩
  · rw [e];obtain ⟨_,a,c,_⟩:=b.typ z hz;rcases hf with rfl|rfl<;>assumption
  · rw [e];exact b.glo g hg
 have hw:OkW q y p.w:=by
  rw [h.w];exact (hl _ hk.b).1 (h.rf.trans hr)
 rcases hm.ix with ⟨e,ei⟩|⟨i,e,ei,ha⟩
 · have hat:(p.olds q.m).at_=behind p.w p.st:=by simp [T.olds,ei]
   rcases hw.ix with ⟨ew,wi⟩|⟨j,ew,wi,haw⟩
   · have h6:(p.olds q.m).at_=6:=by rw [hat];simp [behind,wi]
     exact ⟨⟨h.kd,h.w,h.rf,h.a4,h.a8,fun h=>by omega,fun h=>by omega,fun h=>by omega,fun _ _ _=>.inl ew⟩,by omega,by omega,⟨fun _ _ h=>by omega,fun _ _ _ _ _=>.inl e⟩,fun h=>by omega⟩
   · by_cases hb:both p.st=true
     · have h5:(p.olds q.m).at_=5:=by rw [hat];simp [behind,wi,hb]
       exact ⟨⟨h.kd,h.w,h.rf,h.a4,h.a8,fun _=>⟨hr,hs⟩,fun h=>by omega,fun _=>⟨hb,j,ew⟩,fun h=>by omega⟩,by omega,by omega,⟨fun _ _ h=>by omega,fun _ _ _ _ _=>.inl e⟩,fun h=>by omega⟩
     · have h6:(p.olds q.m).at_=6:=by rw [hat];simp [behind,hb]
       exact ⟨⟨h.kd,h.w,h.rf,h.a4,h.a8,fun h=>by omega,fun h=>by omega,fun h=>by omega,fun _ _ h=>(hb h).elim⟩,by omega,by omega,⟨fun _ _ h=>by omega,fun _ _ _ _ _=>.inl e⟩,fun h=>by omega⟩
 · have h4:(p.olds q.m).at_=4:=by simp [T.olds,ei]
   exact ⟨⟨h.kd,h.w,h.rf,h.a4,h.a8,fun _=>⟨hr,hs⟩,fun _=>⟨i,e,ha⟩,fun h=>by omega,fun h=>by omega⟩,by omega,by omega,⟨fun _ _ _ _=>rfl,fun _ _ h=>by omega⟩,fun _=>hm⟩
theorem wr_pr (hk:OpOk o) (b:Base q y) (hl:∀ j,j<4→LcOk q y (p.l j)) (s:S4 q y D) (t4:T4 q y D p) (hp:p.here) (h:Wr q y o p) (h3:p.st=3) (hr:p.rf=true):PrW q y D (q.m p.ad):=by
 rcases h.kd with k|k
 · obtain ⟨h1,z,h2,h3',h4⟩:=h.a4 k
   have hp:=t4.l hp h3 _ hk.a h1
   rw [h2] at hp
   rcases hp with e|⟨i,e,ha⟩
   · simp [wR,wN] at e
   · simp [wR] at e;subst e
     rw [hr] at h4
     have hn:o.n<2:=by simpa using h4.symm
     rw [h3'];exact s.in b ha (by omega)
 · rw [(h.a8 k).1];exact s.glo b (hk.n7 (.inr k))
end
end Sw
end Go.Proofs.YtgcmiahhkalfmaaGreat
