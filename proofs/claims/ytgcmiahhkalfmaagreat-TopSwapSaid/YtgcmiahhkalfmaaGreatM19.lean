import Derived.Test.YtgcmiahhkalfmaaGreatM18
set_option maxRecDepth 100000
set_option maxHeartbeats 8000000
set_option linter.unusedVariables false
set_option linter.unusedSimpArgs false
namespace Go.Proofs.YtgcmiahhkalfmaaGreat
variable {st:Int} {t x:Nat} {nos:Nat→Nat} {os:Nat→Nat→Opn} {D:Nat→Prop}
namespace Sw
section
variable {q q':Q} {y y':Y} {ps:Nat→T}
theorem Cy.s5 (h5:y.st=5) (hq:q.st=3) (h:y.at_=0∨y.at_=4∨y.at_=5∨y.at_=6∧y.i<24) (rs:y.at_=4→y.rs=true→y.i<24∧y.tr.hd=y.i)
 (tr:y.at_=4→Bk q y y.tr.hd∧(y.tr.pc=0∨y.tr.pc=1∧(y.tr.ws=[2,3]∨y.tr.ws=[3])∨y.tr.pc=2∧(y.tr.ws=[3]∨y.tr.ws=[])∧Al q y y.tr.nx)) (b5:y.at_=5→q.pl=[]∨q.lo=true):Cy q y:=
 ⟨by omega,fun _=>by omega,fun _=>by omega,fun _=>by omega,fun _=>by omega,fun _=>⟨hq,h⟩,fun _=>by omega,fun _=>by omega,fun _=>by omega,fun _=>by omega,fun _=>rs,fun _=>tr,fun _=>by omega,fun _=>by omega,fun _=>by omega,fun _=>by omega,fun _=>b5⟩
theorem Hs.s5' (h:Hs y t st) (e:y.st=5) (e':y'.st=5):Hs y' t st:=
 ⟨fun _=>by omega,fun _=>by omega,fun _=>by omega,fun _=>by omega,fun _=>h.s5 e,fun _=>by omega,fun _=>by omega,fun _=>by omega⟩
theorem Inv.q5 (I:Inv nos os D q y ps) (h5:y.st=5) (e:Qt q q' y y') (pl:∀ i,i∈q'.pl→i∈q.pl) (pl2:q'.pl.length≤2) (hl:q'.ln=q.ln) (c:Cy q' y')
 (src:∀ z f,Bk q y z→f=2∨f=3→¬D (z*8+f)→Src q y z f→Src q' y' z f∨BkW q y (q.m (z*8+f)))
 (t:y'.at_=4→y'.tr.pc=2→¬D (y'.tr.hd*8+(if y'.tr.ws=[3] then 2 else 3))→q.m (y'.tr.hd*8+(if y'.tr.ws=[3] then 2 else 3))=wR y'.tr.nx):Inv nos os D q' y' ps:=
 I.quiet e pl pl2 c (fun _ _ _ _ h=>h.s5' h5 (e.ys.trans h5)) (I.ln.qt e hl) (fun _ _=>src) (fun _ _ g _ _ h=>by have:=h.1;omega) (fun h=>by omega) fun _=>t
theorem follows_ok (h5:y.st=5) (hq:q.st=3) (hi:y.i<24):(y.follows cS).st=5∧(y.follows cS).sn=y.sn∧(∀ z,y.i<z→z<24→(y.follows cS).at_=6∧(y.follows cS).i≤z)∧Cy q (y.follows cS):=by
 unfold Y.follows
 have:cS.frags=24:=rfl
 rw [this]
 split
 · exact ⟨h5,rfl,fun z _ _=>by omega,.s5 h5 hq (.inl rfl) (fun h=>by simp at h) (fun h=>by simp at h) fun h=>by simp at h⟩
 · exact ⟨h5,rfl,fun z h _=>⟨rfl,by show y.i+1≤z;omega⟩,.s5 h5 hq (.inr (.inr (.inr ⟨rfl,by show y.i+1<24;omega⟩))) (fun h=>by simp at h) (fun h=>by simp at h) fun h=>by simp at h⟩
theorem traced_ok (I:Inv nos os D q y ps) (h5:y.st=5) (h4:y.at_=4) (T:Tr) (hd:T.hd=y.tr.hd) (hw:T.pc=T.on) (ws:T.ws=[2,3]∨T.ws=[3]∨T.ws=[])
 (src:∀ f,f=2∨f=3→¬D (y.tr.hd*8+f)→(y.tr.pc=0∨f∈y.tr.ws∨(y.tr.pc=2∧f=(if y.tr.ws=[3] then 2 else 3)))→f∈T.ws∨BkW q y (q.m (y.tr.hd*8+f))):Inv nos os D q (({y with tr:=T}:Y).traced cS) ps:=by
 have c:=I.c
 have q3:=(c.h5 h5).1
 have htr:=c.tr h5 h4
 by_cases he:T.ws=[]
 · have h9:T.pc=9:=by rw [hw];unfold Tr.on;rw [if_pos he]
   have src0:∀ f,f=2∨f=3→¬D (y.tr.hd*8+f)→(y.tr.pc=0∨f∈y.tr.ws∨(y.tr.pc=2∧f=(if y.tr.ws=[3] then 2 else 3)))→BkW q y (q.m (y.tr.hd*8+f)):=fun f hf hD h=>(src f hf hD h).resolve_left (by rw [he];simp)
   unfold Y.traced;rw [if_pos h9]
   show Inv nos os D q (if y.rs then ({y with tr:=T,at_:=0}:Y).follows cS else {y with tr:=T,at_:=0}) ps
   by_cases hrs:y.rs=true
   · obtain ⟨hi,hh⟩:=c.rs h5 h4 hrs
     obtain ⟨e1,e2,e3,e4⟩:=follows_ok (q:=q) (y:=({y with tr:=T,at_:=0}:Y)) h5 q3 hi
     rw [if_pos hrs]
     refine I.q5 h5 (qt_y (e1.trans h5.symm) e2) (fun _ h=>h) I.b.pl2 rfl e4 (fun z f hz hf hD h=>?_) fun h=>?_
     · rcases h with h|h|⟨_,h|⟨_,_,h⟩|⟨_,h,h'⟩⟩
       · exact .inl (.inl h)
       · exact .inl (.inr (.inl h))
       · omega
       · exact .inl (.inr (.inr ⟨e1,.inl (e3 z h hz.1)⟩))
       · subst h;exact .inr (src0 f hf hD h')
     · unfold Y.follows at h;split at h<;>simp at h
   · rw [if_neg hrs]
     refine I.q5 h5 (qt_y rfl rfl) (fun _ h=>h) I.b.pl2 rfl (.s5 h5 q3 (.inl rfl) (fun h=>by simp at h) (fun h=>by simp at h) fun h=>by simp at h) (fun z f hz hf hD h=>?_) fun h=>by simp at h
     rcases h with h|h|⟨_,h|⟨_,h,_⟩|⟨_,h,h'⟩⟩
     · exact .inl (.inl h)
     · exact .inl (.inr (.inl h))
     · omega
     · exact (hrs h).elim
     · subst h;exact .inr (src0 f hf hD h')
 · have h1:T.pc=1:=by rw [hw];unfold Tr.on;rw [if_neg he]
   unfold Y.traced
   rw [if_neg (by show ¬T.pc=9;omega)]
   refine I.q5 h5 (qt_y rfl rfl) (fun _ h=>h) I.b.pl2 rfl (.s5 h5 q3 (.inr (.inl h4)) (fun _ h=>⟨(c.rs h5 h4 h).1,hd.trans (c.rs h5 h4 h).2⟩) (fun _=>⟨by show Bk q y T.hd;rw [hd];exact htr.1,.inr (.inl ⟨h1,?_⟩)⟩) fun h=>by simp only at h;omega) (fun z f hz hf hD h=>?_) fun _ h=>by have h:T.pc=2:=h;omega
   · rcases ws with h|h|h
     · exact .inl h
     · exact .inr h
     · exact (he h).elim
   · rcases h with h|h|⟨_,h|⟨_,h,h'⟩|⟨_,h,h'⟩⟩
     · exact .inl (.inl h)
     · exact .inl (.inr (.inl h))
     · omega
     · exact .inl (.inr (.inr ⟨h5,.inr (.inl ⟨h4,h,h'⟩)⟩))
     · subst h
       exact (src f hf hD h').imp (fun h=>.inr (.inr ⟨h5,.inr (.inr ⟨h4,hd,.inr (.inl h)⟩)⟩)) id
theorem cs_inv5 (I:Inv nos os D q y ps) (ok:∀ t,t<2→∀ i,i<nos t→OpOk (os t i)) (h:CS cS q y q' y') (h5:y.st=5):∃ D',Inv nos os D' q' y' ps:=by
 have c:=I.c
 have b:=I.b
 have q3:=(c.h5 h5).1
 have s:=I.s4 (by omega) (by omega)
 have rw_:refWs cS.refs=[2,3]:=by decide
 have src4:∀ {z f},y.at_≠6→y.at_≠4→Src q y z f→z∈q.pl∨q.lo=true:=fun h6 h4 h=>by
  rcases h with h|h|⟨_,h|h|h⟩
  · exact .inl h
  · exact .inr h
  · omega
  · omega
  · omega
 cases h with
 | @next x i h1 h2 h3=>
  have hi:i∈q.pl:=by rw [h3];simp
  refine ⟨D,I.q5 h5 ⟨rfl,rfl,rfl,rfl,rfl,rfl,rfl,rfl⟩ (fun j hj=>by rw [h3];exact List.mem_append_left _ hj) (by have:=b.pl2;rw [h3] at this;simp at this ⊢;omega) rfl (.s5 h5 q3 (.inr (.inl rfl)) (fun _ h=>by simp at h) (fun _=>⟨b.pl i hi,.inl rfl⟩) fun h=>by simp at h) (fun z f hz hf hD h=>.inl ?_) fun _ h=>by simp at h⟩
  rcases src4 (by omega) (by omega) h with h|h
  · rw [h3] at h
    rcases List.mem_append.1 h with h|h
    · exact .inl h
    · simp at h;exact .inr (.inr ⟨h5,.inr (.inr ⟨rfl,h.symm,.inl rfl⟩)⟩)
  · exact .inr (.inl h)
 | next0 h1 h2 h3=>
  refine ⟨D,I.q5 h5 (qt_y rfl rfl) (fun _ h=>h) b.pl2 rfl (.s5 h5 q3 (.inr (.inr (.inl rfl))) (fun h=>by simp at h) (fun h=>by simp at h) fun _=>.inl h3) (fun z f hz hf hD h=>.inl ((src4 (by omega) (by omega) h).imp id .inl)) fun h=>by simp at h⟩
 | lost h1 h2 h3=>
  exact ⟨D,I.q5 h5 ⟨rfl,rfl,rfl,rfl,rfl,rfl,rfl,rfl⟩ (fun _ h=>h) b.pl2 rfl (.s5 h5 q3 (.inr (.inr (.inr ⟨rfl,by show (0:Nat)<24;decide⟩))) (fun h=>by simp at h) (fun h=>by simp at h) fun h=>by simp at h) (fun z f hz hf hD h=>.inl (.inr (.inr ⟨h5,.inl ⟨rfl,Nat.zero_le _⟩⟩))) fun h=>by simp at h⟩
 | found h1 h2 h3=>
  have hp:q.pl=[]:=(c.b5 h5 h2).resolve_right (by rw [h3];simp)
  have np:∀ g,¬Pend y g:=fun g h=>by have:=h.1;omega
  have now:∀ x,Pr q y D x→Bk q y x:=Pr.now (fun z f h=>by
   rcases src4 (by omega) (by omega) h with h|h
   · rw [hp] at h;simp at h
   · rw [h3] at h;simp at h) np
  have bk:∀ w,PrW q y D w→OkW q (y.to 6) w:=fun w h=>h.imp id fun ⟨i,e,h⟩=>⟨i,e,(now i h).1,(now i h).2.1,fun _ _=>(now i h).2.2⟩
  have alb:∀ i,Al q (y.to 6) i→Bk q y i:=fun i h=>⟨h.1,h.2.1,h.2.2 (by simp [Y.to]) (by simp [Y.to])⟩
  have un:∀ {t x st},Hs y t st→Un q y st x→Un q (y.to 6) st x:=fun h u=>⟨u.lt,u.us,u.hd,fun _=>u.bk (.inr (.inl (by omega))),fun h=>by simp [Y.to] at h⟩
  refine ⟨D,⟨b.tab,fun i hi=>?_,fun g hg=>bk _ (s.glo b hg),fun i hi=>by rw [hp] at hi;simp at hi,b.pl2,b.sn⟩,⟨by simp [Y.to],fun h=>by simp [Y.to] at h,fun h=>by simp [Y.to] at h,fun h=>by simp [Y.to] at h,fun h=>by simp [Y.to] at h,fun h=>by simp [Y.to] at h,fun _=>.inl ⟨.inl rfl,q3,rfl⟩,fun h=>by simp [Y.to] at h,fun h=>by simp [Y.to] at h,fun h=>by simp [Y.to] at h,fun h=>by simp [Y.to] at h,fun h=>by simp [Y.to] at h,fun h=>by simp [Y.to] at h,fun h=>by simp [Y.to] at h,fun h=>by simp [Y.to] at h,fun _=>⟨hp,h3⟩,fun h=>by simp [Y.to] at h⟩,fun t ht=>?_,⟨I.ln.no,fun h=>?_⟩,fun h=>by simp [Y.to] at h,fun _ h=>by simp [Y.to] at h,fun _ h=>by simp [Y.to] at h,fun _ h=>by simp [Y.to] at h⟩
  · have hb:=alb i hi
    obtain ⟨a1,a2,a3,a4⟩:=b.typ i hb.al
    exact ⟨a1,bk _ (s.in b (.bk hb) (.inl rfl)),bk _ (s.in b (.bk hb) (.inr rfl)),a4⟩
  · have Ti:=I.t t ht
    have t4:=I.t4 (by omega) (by omega) t ht
    have loc:(ps t).here→Hs y t (ps t).st→∀ j,j<4→LcOk q (y.to 6) ((ps t).l j):=fun hh hs j hj=>⟨fun hr=>bk _ (t4.l hh (hs.s5 h5) j hj hr),(Ti.l j hj).2⟩
    have loc0:(∀ j,j<4→((ps t).l j).ref=false)→∀ j,j<4→LcOk q (y.to 6) ((ps t).l j):=fun h j hj=>⟨fun hr=>by rw [h j hj] at hr;simp at hr,(Ti.l j hj).2⟩
    have hs6:∀ {st},Hs y t st→Hs (y.to 6) t st:=fun h=>⟨fun h=>by simp [Y.to] at h,fun h=>by simp [Y.to] at h,fun h=>by simp [Y.to] at h,fun h=>by simp [Y.to] at h,fun h=>by simp [Y.to] at h,fun _=>⟨fun _=>h.s5 h5,fun h=>by simp [Y.to] at h⟩,fun h=>by simp [Y.to] at h,fun h=>by simp [Y.to] at h⟩
    have hr6:Hr q y t (ps t) (snOf y (ps t).st)→Hr q (y.to 6) t (ps t) (snOf (y.to 6) (ps t).st):=fun h=>⟨h.own,hs6 h.hs,by rw [h.sn];unfold snOf;rw [if_neg (by omega),if_neg (by simp [Y.to])];rfl⟩
    have A:=Ti.a
    cases A with
    | out a b c=>exact ⟨loc0 fun j hj=>by rw [c j hj],.out a b c⟩
    | gone a b c=>exact ⟨loc0 c,.gone a b c⟩
    | idle a b c=>exact ⟨loc (.inl a) c.hs,.idle a b (hr6 c)⟩
    | ans a b c d=>exact absurd (b.hs.s5 h5) (by omega)
    | wait a b c d=>exact ⟨loc (.inr (.inr a)) d.hs,.wait a b c (hr6 d)⟩
    | start a b c d=>exact ⟨loc (.inr (.inl a)) d.hs,.start a b c (hr6 d)⟩
    | read a b c d e f g h=>exact ⟨loc (.inr (.inl a)) d.hs,.read a b c (hr6 d) e f g h⟩
    | writ a b c d f=>
     refine ⟨loc (.inr (.inl a)) d.hs,.writ a b c (hr6 d) ⟨f.kd,f.w,f.rf,f.a4,f.a8,f.r3,fun e=>?_,f.r5,f.r6⟩⟩
     obtain ⟨i,e1,_⟩:=f.r4 e
     rcases t4.o a (d.hs.s5 h5) e with e2|⟨j,e2,hj⟩
     · rw [e1] at e2;simp [wR,wN] at e2
     · rw [e1] at e2;simp [wR] at e2;subst e2
       exact ⟨i,e1,(now i hj).1,(now i hj).2.1,fun _ _=>(now i hj).2.2⟩
    | make a b c d f u m=>exact ⟨loc (.inr (.inl a)) d.hs,.make a b c (hr6 d) f (un d.hs u) m⟩
    | born a b c d u m=>exact ⟨loc (.inr (.inl a)) d.hs,.born a b c (hr6 d) (un d.hs u) m⟩
  · obtain ⟨r,a1,b1,c1⟩:=I.ln.is h
    exact ⟨r,a1,b1,fun h=>⟨⟨(c1 h).1.lt,(c1 h).1.us,(c1 h).1.hd,fun _=>(c1 h).1.bk (.inr (.inl (by omega))),fun h=>by simp [Y.to] at h⟩,(c1 h).2⟩⟩
 | rescan h1 h2 h3 h4=>
  have hi:y.i<24:=by have:=(c.h5 h5).2;omega
  refine ⟨D,I.q5 h5 (qt_y rfl rfl) (fun _ h=>h) b.pl2 rfl (.s5 h5 q3 (.inr (.inl rfl)) (fun _ _=>⟨hi,rfl⟩) (fun _=>⟨⟨hi,h3,?_⟩,.inl rfl⟩) fun h=>by simp at h) (fun z f hz hf hD h=>.inl ?_) fun _ h=>by simp at h⟩
  · unfold Q.blk at h4;simp at h4;exact h4.2
  · rcases h with h|h|⟨_,⟨_,h⟩|h|h⟩
    · exact .inl h
    · exact .inr (.inl h)
    · by_cases e:z=y.i
      · exact .inr (.inr ⟨h5,.inr (.inr ⟨rfl,e.symm,.inl rfl⟩)⟩)
      · exact .inr (.inr ⟨h5,.inr (.inl ⟨rfl,rfl,by show y.i<z;omega⟩)⟩)
    · omega
    · omega
 | skip h1 h2 h3=>
  have hi:y.i<24:=by have:=(c.h5 h5).2;omega
  obtain ⟨e1,e2,e3,e4⟩:=follows_ok (q:=q) h5 q3 hi
  refine ⟨D,I.q5 h5 (qt_y (e1.trans h5.symm) e2) (fun _ h=>h) b.pl2 rfl e4 (fun z f hz hf hD h=>.inl ?_) fun h=>?_⟩
  · rcases h with h|h|⟨_,⟨_,h⟩|h|h⟩
    · exact .inl h
    · exact .inr (.inl h)
    · have:z≠y.i:=fun e=>h3 (by subst e;exact ⟨hz.2.1,by unfold Q.blk;rw [b.used hz.1 hz.2.1,hz.2.2];simp⟩)
      exact .inr (.inr ⟨e1,.inl (e3 z (by omega) hz.1)⟩)
    · omega
    · omega
  · unfold Y.follows at h;split at h<;>simp at h
 | trHead h1 h2 h3=>
  exact ⟨D,traced_ok I h5 h2 _ rfl rfl (.inl rw_) fun f hf _ _=>.inl (by show f∈refWs cS.refs;rw [rw_];rcases hf with rfl|rfl<;>simp)⟩
 | @trRef k ws h h1 h2 h3 h4 h6=>
  have htr:=c.tr h5 h2
  have hws:(k=2∧ws=[3])∨(k=3∧ws=[]):=by
   rcases htr.2 with e|⟨_,e|e⟩|⟨e,_⟩
   · omega
   · rw [h4] at e;simp at e;exact .inl e
   · rw [h4] at e;simp at e;exact .inr e
   · omega
  have hk:(if ws=[3] then 2 else 3)=k:=by rcases hws with ⟨rfl,rfl⟩|⟨rfl,rfl⟩<;>rfl
  have hm:q.m (y.tr.hd*8+k)=wR h∧Al q y h:=by
   obtain ⟨_,a2,a3,_⟩:=b.typ _ htr.1.al
   have:OkW q y (q.m (y.tr.hd*8+k)):=by rcases hws with ⟨rfl,_⟩|⟨rfl,_⟩<;>assumption
   have h6:(q.m (y.tr.hd*8+k)).ix=some h:=h6
   rcases this.ix with ⟨_,e⟩|⟨j,e,ei,hj⟩
   · rw [h6] at e;simp at e
   · rw [h6] at ei;simp at ei;subst ei;exact ⟨e,hj⟩
  refine ⟨D,I.q5 h5 (qt_y rfl rfl) (fun _ h=>h) b.pl2 rfl (.s5 h5 q3 (.inr (.inl h2)) (fun _=>c.rs h5 h2) (fun _=>⟨htr.1,.inr (.inr ⟨rfl,?_,hm.2⟩)⟩) fun h=>by simp only at h;omega) (fun z f hz hf hD hs=>.inl ?_) fun _ _ _=>?_⟩
  · rcases hws with ⟨_,e⟩|⟨_,e⟩
    · exact .inl e
    · exact .inr e
  · rcases hs with hs|hs|⟨_,hs|⟨_,hs,hs'⟩|⟨_,hs,hs'⟩⟩
    · exact .inl hs
    · exact .inr (.inl hs)
    · omega
    · exact .inr (.inr ⟨h5,.inr (.inl ⟨h2,hs,hs'⟩)⟩)
    · refine .inr (.inr ⟨h5,.inr (.inr ⟨h2,hs,?_⟩)⟩)
      rcases hs' with e|e|⟨e,_⟩
      · omega
      · rw [h4] at e
        rcases List.mem_cons.1 e with e|e
        · exact .inr (.inr ⟨rfl,by show f=if ws=[3] then 2 else 3;rw [hk];exact e⟩)
        · exact .inr (.inl e)
      · omega
  · show q.m (y.tr.hd*8+(if ws=[3] then 2 else 3))=wR h
    rw [hk];exact hm.1
 | @trNone k ws h1 h2 h3 h4 h6=>
  have htr:=c.tr h5 h2
  have hws:(k=2∧ws=[3])∨(k=3∧ws=[]):=by
   rcases htr.2 with e|⟨_,e|e⟩|⟨e,_⟩
   · omega
   · rw [h4] at e;simp at e;exact .inl e
   · rw [h4] at e;simp at e;exact .inr e
   · omega
  have hm:q.m (y.tr.hd*8+k)=wN:=by
   obtain ⟨_,a2,a3,_⟩:=b.typ _ htr.1.al
   have:OkW q y (q.m (y.tr.hd*8+k)):=by rcases hws with ⟨rfl,_⟩|⟨rfl,_⟩<;>assumption
   have h6:(q.m (y.tr.hd*8+k)).ix=none:=h6
   rcases this.ix with ⟨e,_⟩|⟨j,e,ei,hj⟩
   · exact e
   · rw [h6] at ei;simp at ei
  refine ⟨D,traced_ok I h5 h2 {y.tr with ws:=ws,nx:=0,pc:=({y.tr with ws:=ws}:Tr).on} rfl rfl (hws.elim (fun e=>.inr (.inl e.2)) fun e=>.inr (.inr e.2)) fun f hf _ h=>?_⟩
  rcases h with h|h|⟨h,_⟩
  · omega
  · rw [h4] at h
    rcases List.mem_cons.1 h with h|h
    · subst h;exact .inr (.inl hm)
    · exact .inl h
  · omega
 | trGrey h1 h2 h3=>
  have htr:=c.tr h5 h2
  obtain ⟨hws,hal⟩:(y.tr.ws=[3]∨y.tr.ws=[])∧Al q y y.tr.nx:=by
   rcases htr.2 with e|⟨e,_⟩|⟨_,e,f⟩
   · omega
   · omega
   · exact ⟨e,f⟩
  obtain ⟨ef,hb⟩:=ef_grey (t:=2) (p0:=ps 0) (D:=D) b c I.d3 I.s4 hal fun _ h=>by omega
  have J:=I.ef ok ef
  refine ⟨D,traced_ok J h5 h2 {y.tr with pc:=y.tr.on} rfl rfl (.inr hws) fun f hf hD h=>?_⟩
  rcases h with h|h|⟨_,h⟩
  · omega
  · exact .inl h
  · right;subst h
    rw [(J.s4 (by omega) (by omega)).t h5 h2 h3 hD];exact .inr ⟨_,rfl,hb⟩
 | _=>exfalso;omega
end
end Sw
namespace Sw
section
variable {q q':Q} {y y':Y} {ps:Nat→T}
theorem Cy.nil (c:Cy q y) (b:Base q y) (h:y.st<2∨6≤y.st) (i:Nat):¬i∈q.pl:=by rw [(c.b6 h).1];simp
theorem Inv.late (I:Inv nos os D q y ps) (h1:6≤y.st) (h2:6≤y'.st∨y'.st=0) (e:q'.t=q.t∧q'.m=q.m∧q'.own=q.own∧q'.sn=q.sn∧q'.fr=q.fr∧q'.pl=q.pl∧q'.lo=q.lo) (en:y'.sn=y.sn) (c:Cy q' y')
 (al:∀ i,Al q y i↔Al q' y' i) (hs:∀ t,t<2→∀ st,q.own t=st→Hs y t st→Hs y' t st) (an:q'.st=q.st∨∀ t,t<2→∀ st,Hs y t st→st=q.st) (ln:Ln q' y' (ps 0)):Inv nos os D q' y' ps:=by
 obtain ⟨e1,e2,e3,e4,e5,e6,e7⟩:=e
 have al1:=fun i=>(al i).1
 have bk:∀ i,Bk q y i→Bk q' y' i:=fun i h=>by unfold Bk at *;rw [e1,en];exact h
 have c0:=c.st
 refine I.far (by omega) ⟨by rw [e1,e5];exact I.b.tab,fun i hi=>?_,fun g hg=>by rw [e2];exact (I.b.glo g hg).mono al1,fun i hi=>by rw [e6] at hi;exact bk i (I.b.pl i hi),by rw [e6];exact I.b.pl2,by rw [e4,en];exact I.b.sn⟩ c al1 (fun _=>bk) e3 e2 hs (fun t st _=>by unfold snOf;rw [if_neg (by omega),if_neg (by omega)];exact en) (fun t ht st h hn=>?_) (fun t st _ _ x u=>⟨u.lt,by rw [e1];exact u.us,by rw [e1];exact u.hd,fun _=>by rw [e1,en];exact u.bk (by omega),fun h=>by omega⟩) ln
 · rw [e2];obtain ⟨a1,a2,a3,a4⟩:=I.b.typ i ((al i).2 hi);exact ⟨a1,a2.mono al1,a3.mono al1,a4⟩
 · rcases an with h'|h'
   · exact ⟨h',en,by omega⟩
   · exact absurd (h' t ht st h) hn
theorem Ln.late {p:T} (h:Ln q y p) (h1:6≤y.st) (h2:6≤y'.st∨y'.st=0) (e:q'.t=q.t∧q'.ln=q.ln) (en:y'.sn=y.sn):Ln q' y' p:=
 ⟨fun k=>e.2.trans (h.no k),fun k=>(let ⟨r,a,b,c⟩:=h.is k;⟨r,e.2.trans a,b,fun k=>⟨⟨(c k).1.lt,by rw [e.1];exact (c k).1.us,by rw [e.1];exact (c k).1.hd,fun _=>by rw [e.1,en];exact (c k).1.bk (by omega),fun h=>by omega⟩,(c k).2⟩⟩)⟩
theorem al_to (h1:6≤y.st) (h1':y.st≤9) (h2:6≤y'.st) (h2':y'.st≤9) (en:y'.sn=y.sn) (e:q'.t=q.t) (i:Nat):Al q y i↔Al q' y' i:=by
 unfold Al;rw [e,en];simp [h1,h1',h2,h2']
theorem cs_inv6 (I:Inv nos os D q y ps) (h:CS cS q y q' y') (h6:6≤y.st) (h8:y.st≤8):∃ D',Inv nos os D' q' y' ps:=by
 have c:=I.c
 have b:=I.b
 have b6:=c.b6 (by omega)
 have e7:∀ {a:Int},({q with st:=a}:Q).t=q.t∧({q with st:=a}:Q).m=q.m∧({q with st:=a}:Q).own=q.own∧({q with st:=a}:Q).sn=q.sn∧({q with st:=a}:Q).fr=q.fr∧({q with st:=a}:Q).pl=q.pl∧({q with st:=a}:Q).lo=q.lo:=⟨rfl,rfl,rfl,rfl,rfl,rfl,rfl⟩
 have eq:q.t=q.t∧q.m=q.m∧q.own=q.own∧q.sn=q.sn∧q.fr=q.fr∧q.pl=q.pl∧q.lo=q.lo:=⟨rfl,rfl,rfl,rfl,rfl,rfl,rfl⟩
 cases h with
 | turn h1 h2=>
  have k:=c.h6 h1
  refine ⟨D,I.late h6 (.inl h6) eq rfl ⟨c.st,c.h0,fun h=>by simp only at h;omega,fun h=>by simp only at h;omega,fun h=>by simp only at h;omega,fun h=>by simp only at h;omega,fun _=>.inl ⟨.inr rfl,by omega,by show y.i=0;omega⟩,c.h7,fun h=>by simp only at h;omega,fun h=>by simp only at h;omega,fun h=>by simp only at h;omega,fun h=>by simp only at h;omega,fun h=>by simp only at h;omega,fun h=>by simp only at h;omega,fun h=>by simp only at h;omega,fun _=>b6,fun h=>by simp only at h;omega⟩ (al_to h6 (by omega) h6 (by show y.st≤9;omega) rfl rfl) (fun t ht st ho h=>⟨h.s0,fun h=>by simp only at h;omega,fun h=>by simp only at h;omega,fun h=>by simp only at h;omega,h.s5,fun k=>⟨fun _=>(h.s6 k).1 (by omega),fun h=>by simp at h⟩,h.s7,fun h=>by simp only at h;omega⟩) (.inl rfl) (I.ln.late h6 (.inl h6) ⟨rfl,rfl⟩ rfl)⟩
 | move h1 h2=>
  have k:=c.h6 h1
  refine ⟨D,I.late h6 (.inl h6) e7 rfl ⟨c.st,fun h=>by simp only at h;omega,fun h=>by simp only at h;omega,fun h=>by simp only at h;omega,fun h=>by simp only at h;omega,fun h=>by simp only at h;omega,fun _=>.inr ⟨rfl,rfl,by show y.i<2;omega⟩,fun _=>rfl,fun h=>by simp only at h;omega,fun h=>by simp only at h;omega,fun h=>by simp only at h;omega,fun h=>by simp only at h;omega,fun h=>by simp only at h;omega,fun h=>by simp only at h;omega,fun h=>by simp only at h;omega,fun _=>b6,fun h=>by simp only at h;omega⟩ (al_to h6 (by omega) h6 (by show y.st≤9;omega) rfl rfl) (fun t ht st ho h=>⟨h.s0,fun h=>by simp only at h;omega,fun h=>by simp only at h;omega,fun h=>by simp only at h;omega,h.s5,fun k'=>⟨fun h=>by simp at h,fun _=>⟨.inl ((h.s6 k').1 (by omega)),fun h=>by simp only at h;omega⟩⟩,h.s7,fun h=>by simp only at h;omega⟩) (.inr fun t _ st h=>by have:=(h.s6 h1).1 (by omega);omega) (I.ln.late h6 (.inl h6) ⟨rfl,rfl⟩ rfl)⟩
 | turns h1 h2=>
  have k:=c.h6 h1
  have hl:=polls_le q y.i
  have hs4:∀ t st,q.own t=st→Hs y t st→t<q.polls y.i→st=4:=fun t st ho h hp=>by
   rcases polled hp ho (h.ne c) with k|k
   · exact ((h.s6 h1).2 h2).2 k
   · omega
  have hth:cS.threads=2:=rfl
  simp only
  split
  · next hj=>
    refine ⟨D,I.late h6 (.inl (by simp [Y.to])) eq rfl ⟨by simp [Y.to],fun h=>by simp [Y.to] at h,fun h=>by simp [Y.to] at h,fun h=>by simp [Y.to] at h,fun h=>by simp [Y.to] at h,fun h=>by simp [Y.to] at h,fun h=>by simp [Y.to] at h,fun _=>by omega,fun h=>by simp [Y.to] at h,fun h=>by simp [Y.to] at h,fun h=>by simp [Y.to] at h,fun h=>by simp [Y.to] at h,fun h=>by simp [Y.to] at h,fun h=>by simp [Y.to] at h,fun h=>by simp [Y.to] at h,fun _=>b6,fun h=>by simp [Y.to] at h⟩ (al_to h6 (by omega) (by simp [Y.to]) (by simp [Y.to]) rfl rfl) (fun t ht st ho h=>⟨fun h=>by simp [Y.to] at h,fun h=>by simp [Y.to] at h,fun h=>by simp [Y.to] at h,fun h=>by simp [Y.to] at h,fun h=>by simp [Y.to] at h,fun h=>by simp [Y.to] at h,fun _=>hs4 t st ho h (by omega),fun h=>by simp [Y.to] at h⟩) (.inl rfl) (I.ln.late h6 (.inl (by simp [Y.to])) ⟨rfl,rfl⟩ rfl)⟩
  · next hj=>
    refine ⟨D,I.late h6 (.inl h6) eq rfl ⟨c.st,c.h0,fun h=>by simp only at h;omega,fun h=>by simp only at h;omega,fun h=>by simp only at h;omega,fun h=>by simp only at h;omega,fun _=>.inr ⟨h2,by omega,by show q.polls y.i<2;omega⟩,c.h7,fun h=>by simp only at h;omega,fun h=>by simp only at h;omega,fun h=>by simp only at h;omega,fun h=>by simp only at h;omega,fun h=>by simp only at h;omega,fun h=>by simp only at h;omega,fun h=>by simp only at h;omega,fun _=>b6,fun h=>by simp only at h;omega⟩ (al_to h6 (by omega) h6 (by show y.st≤9;omega) rfl rfl) (fun t ht st ho h=>⟨h.s0,fun h=>by simp only at h;omega,fun h=>by simp only at h;omega,fun h=>by simp only at h;omega,h.s5,fun k'=>⟨fun h=>by simp only at h;omega,fun _=>⟨((h.s6 k').2 h2).1,fun hp=>hs4 t st ho h hp⟩⟩,h.s7,fun h=>by simp only at h;omega⟩) (.inl rfl) (I.ln.late h6 (.inl h6) ⟨rfl,rfl⟩ rfl)⟩
 | haul h1 h2=>
  refine ⟨D,I.late h6 (.inl h6) eq rfl ⟨c.st,c.h0,fun h=>by simp only at h;omega,fun h=>by simp only at h;omega,fun h=>by simp only at h;omega,fun h=>by simp only at h;omega,fun h=>by simp only at h;omega,c.h7,fun h=>by simp only at h;omega,fun h=>by simp only at h;omega,fun h=>by simp only at h;omega,fun h=>by simp only at h;omega,fun h=>by simp only at h;omega,fun h=>by simp only at h;omega,fun h=>by simp only at h;omega,fun _=>b6,fun h=>by simp only at h;omega⟩ (al_to h6 (by omega) h6 (by show y.st≤9;omega) rfl rfl) (fun t ht st ho h=>⟨h.s0,fun h=>by simp only at h;omega,fun h=>by simp only at h;omega,fun h=>by simp only at h;omega,h.s5,fun h=>by simp only at h;omega,h.s7,fun h=>by simp only at h;omega⟩) (.inl rfl) (I.ln.late h6 (.inl h6) ⟨rfl,rfl⟩ rfl)⟩
 | still h1 h2=>
  have k:=c.h7 h1
  refine ⟨D,I.late h6 (.inl (by simp [Y.to])) e7 rfl ⟨by simp [Y.to],fun _=>rfl,fun h=>by simp [Y.to] at h,fun h=>by simp [Y.to] at h,fun h=>by simp [Y.to] at h,fun h=>by simp [Y.to] at h,fun h=>by simp [Y.to] at h,fun h=>by simp [Y.to] at h,fun _ _=>by simp [Y.to],fun h=>by simp [Y.to] at h,fun h=>by simp [Y.to] at h,fun h=>by simp [Y.to] at h,fun h=>by simp [Y.to] at h,fun h=>by simp [Y.to] at h,fun h=>by simp [Y.to] at h,fun _=>b6,fun h=>by simp [Y.to] at h⟩ (al_to h6 (by omega) (by simp [Y.to]) (by simp [Y.to]) rfl rfl) (fun t ht st ho h=>⟨fun h=>by simp [Y.to] at h,fun h=>by simp [Y.to] at h,fun h=>by simp [Y.to] at h,fun h=>by simp [Y.to] at h,fun h=>by simp [Y.to] at h,fun h=>by simp [Y.to] at h,fun h=>by simp [Y.to] at h,fun _=>⟨.inl (h.s7 h1),fun h=>by simp [Y.to] at h⟩⟩) (.inr fun t _ st h=>by have:=h.s7 h1;omega) (I.ln.late h6 (.inl (by simp [Y.to])) ⟨rfl,rfl⟩ rfl)⟩
 | settle h1 h2=>
  have k:=c.h8 h1 h2
  have q0:=c.h0 (by omega)
  have hl:=polls_le q y.i
  have hth:cS.threads=2:=rfl
  refine ⟨D,I.late h6 (.inl h6) eq rfl ⟨c.st,c.h0,fun h=>by simp only at h;omega,fun h=>by simp only at h;omega,fun h=>by simp only at h;omega,fun h=>by simp only at h;omega,fun h=>by simp only at h;omega,c.h7,fun _ h=>?_,fun h=>by simp only at h;omega,fun h=>by simp only at h;omega,fun h=>by simp only at h;omega,fun h=>by simp only at h;omega,fun h=>by simp only at h;omega,fun h=>by simp only at h;omega,fun _=>b6,fun h=>by simp only at h;omega⟩ (al_to h6 (by omega) h6 (by show y.st≤9;omega) rfl rfl) (fun t ht st ho h=>⟨h.s0,fun h=>by simp only at h;omega,fun h=>by simp only at h;omega,fun h=>by simp only at h;omega,h.s5,fun h=>by simp only at h;omega,h.s7,fun k'=>⟨(h.s8 k').1,fun hh=>?_⟩⟩) (.inl rfl) (I.ln.late h6 (.inl h6) ⟨rfl,rfl⟩ rfl)⟩
  · by_cases hj:q.polls y.i=2
    · simp [hj,cS] at h
    · show q.polls y.i<2;omega
  · have:t<q.polls y.i:=by
     rcases hh with hh|hh
     · by_cases hj:q.polls y.i=2
       · omega
       · simp [hj,cS] at hh
     · exact hh
    rcases polled this ho (h.ne c) with k|k
    · exact (h.s8 k').2 (.inr k)
    · omega
 | settled h1 h2=>
  have q0:=c.h0 (by omega)
  refine ⟨D,I.late h6 (.inl (by simp [Y.to])) eq rfl ⟨by simp [Y.to],fun _=>q0,fun h=>by simp [Y.to] at h,fun h=>by simp [Y.to] at h,fun h=>by simp [Y.to] at h,fun h=>by simp [Y.to] at h,fun h=>by simp [Y.to] at h,fun h=>by simp [Y.to] at h,fun h=>by simp [Y.to] at h,fun _=>by simp [Y.to],fun h=>by simp [Y.to] at h,fun h=>by simp [Y.to] at h,fun h=>by simp [Y.to] at h,fun _ i h=>by simp [Y.to] at h,fun h=>by simp [Y.to] at h,fun _=>b6,fun h=>by simp [Y.to] at h⟩ (al_to h6 (by omega) (by simp [Y.to]) (by simp [Y.to]) rfl rfl) (fun t ht st ho h=>⟨fun _=>(h.s8 h1).2 (.inl h2),fun h=>by simp [Y.to] at h,fun h=>by simp [Y.to] at h,fun h=>by simp [Y.to] at h,fun h=>by simp [Y.to] at h,fun h=>by simp [Y.to] at h,fun h=>by simp [Y.to] at h,fun h=>by simp [Y.to] at h⟩) (.inl rfl) (I.ln.late h6 (.inl (by simp [Y.to])) ⟨rfl,rfl⟩ rfl)⟩
 | _=>exfalso;omega
end
end Sw
namespace Sw
section
variable {q q':Q} {y y':Y} {ps:Nat→T}
theorem sweep_ok (I:Inv nos os D q y ps) (h9:y.st=9) (e:q'.m=q.m∧q'.own=q.own∧q'.sn=q.sn∧q'.pl=q.pl∧q'.lo=q.lo∧q'.st=q.st∧q'.ln=q.ln) (ht:∀ j,j≠y.i→q'.t j=q.t j∧q'.fr j=q.fr j)
 (hi:(q'.t y.i=q.t y.i∧q'.fr y.i=q.fr y.i∧((q.t y.i).st=2→(q.t y.i).sn=y.sn))∨(q'.t y.i=⟨0,false,false⟩∧q'.fr y.i=true∧(q.t y.i).sn≠y.sn))
 (hy:y'=if y.i+1=24 then y.to 10 else {y with i:=y.i+1}):Inv nos os D q' y' ps:=by
 obtain ⟨e2,e3,e4,e6,e7,e8,e9⟩:=e
 have c:=I.c
 have b:=I.b
 have i24:=c.h9 h9
 have b6:=c.b6 (by omega)
 have y9:y'.st=9∧y'.i=y.i+1∧y'.i<24∨y'.st=10∧y.i+1=24:=by
  rw [hy];split
  · right;exact ⟨by simp [Y.to],by omega⟩
  · left;exact ⟨h9,rfl,by show y.i+1<24;omega⟩
 have yn:y'.sn=y.sn:=by rw [hy];split<;>rfl
 have keep:∀ j,(q.t j).sn=y.sn→q'.t j=q.t j:=fun j h=>by
  by_cases ej:j=y.i
  · subst ej
    rcases hi with k|k
    · exact k.1
    · exact (k.2.2 h).elim
  · exact (ht j ej).1
 have us:∀ j,j<24→(q'.t j).st=2→q'.t j=q.t j∧(j≤y.i→(q'.t j).sn=y.sn):=fun j hj hu=>by
  by_cases ej:j=y.i
  · subst ej
    rcases hi with k|k
    · rw [k.1] at hu ⊢;exact ⟨rfl,fun _=>k.2.2 hu⟩
    · rw [k.1] at hu;simp at hu
  · rw [(ht j ej).1] at hu ⊢;exact ⟨rfl,fun h=>c.b9 h9 j (by omega) hu⟩
 have al:∀ j,Al q y j→Al q' y' j:=fun j h=>by
  have hs:=h.2.2 (by omega) (by omega)
  unfold Al;rw [keep j hs,yn];exact ⟨h.1,h.2.1,fun _ _=>hs⟩
 have hd:∀ j,j<24→(q'.t j).hd=true→(q'.t j).st=2:=fun j hj h=>by
  by_cases ej:j=y.i
  · subst ej
    rcases hi with k|k
    · rw [k.1] at h ⊢;exact b.used hj h
    · rw [k.1] at h;simp at h
  · rw [(ht j ej).1] at h ⊢;exact b.used hj h
 have al':∀ j,Al q' y' j→Al q y j:=fun j h=>by
  have hu:=hd j h.1 h.2.1
  have k:=us j h.1 hu
  have h2:=h.2.1
  rw [k.1] at h2
  refine ⟨h.1,h2,fun _ _=>?_⟩
  rcases y9 with ⟨a,a',_⟩|⟨_,a⟩
  · have:=h.2.2 (by omega) (by omega);rw [k.1,yn] at this;exact this
  · have:=k.2 (by have:=h.1;omega);rw [k.1] at this;exact this
 have bk:∀ j,Bk q y j→Bk q' y' j:=fun j h=>by unfold Bk;rw [keep j h.2.2,yn];exact h
 have un:∀ st x,Un q y st x→Un q' y' st x:=fun st x u=>by
  have hs:=u.bk (.inr (.inl (by omega)))
  have k:=keep x hs
  exact ⟨u.lt,by rw [k];exact u.us,by rw [k];exact u.hd,fun _=>by rw [k,yn];exact hs,fun h=>by omega⟩
 refine I.far (by omega) ⟨fun j hj=>?_,fun j hj=>?_,fun g hg=>by rw [e2];exact (b.glo g hg).mono al,fun j hj=>by rw [e6] at hj;exact bk j (b.pl j hj),by rw [e6];exact b.pl2,by rw [e4,yn];exact b.sn⟩
  ⟨by omega,fun _=>by rw [e8];exact c.h0 (by omega),fun h=>by omega,fun h=>by omega,fun h=>by omega,fun h=>by omega,fun h=>by omega,fun h=>by omega,fun h=>by omega,fun h=>by omega,fun h=>by omega,fun h=>by omega,fun h j hj hu=>?_,fun h j hj hu=>?_,fun h=>by omega,fun _=>by rw [e6,e7];exact b6,fun h=>by omega⟩ al (fun _=>bk) e3 e2 (fun t ht st ho h=>⟨fun _=>h.s0 (by omega),fun h=>by omega,fun h=>by omega,fun h=>by omega,fun h=>by omega,fun h=>by omega,fun h=>by omega,fun h=>by omega⟩) (fun t st _=>by unfold snOf;rw [if_neg (by omega),if_neg (by omega)];exact yn) (fun _ _ _ _ _=>⟨e8,yn,by omega⟩) (fun _ st _ _ x=>un st x) ⟨fun k=>e9.trans (I.ln.no k),fun k=>?_⟩
 · by_cases ej:j=y.i
   · subst ej
     rcases hi with k|k
     · rw [k.1,k.2.1];exact b.tab _ hj
     · left;rw [k.1,k.2.1];exact ⟨rfl,rfl,rfl⟩
   · rw [(ht j ej).1,(ht j ej).2];exact b.tab j hj
 · rw [e2];obtain ⟨a1,a2,a3,a4⟩:=b.typ j (al' j hj);exact ⟨a1,a2.mono al,a3.mono al,a4⟩
 · rw [yn];exact (us j hj hu).2 (by omega)
 · rw [yn];exact (us j (by omega) hu).2 (by omega)
 · obtain ⟨r,a1,b1,c1⟩:=I.ln.is k
   exact ⟨r,e9.trans a1,b1,fun k=>⟨un _ _ (c1 k).1,(c1 k).2⟩⟩
theorem cs_inv9 (I:Inv nos os D q y ps) (ok:∀ t,t<2→∀ i,i<nos t→OpOk (os t i)) (h:CS cS q y q' y') (h9:y.st=9∨y.st=10):∃ D',Inv nos os D' q' y' ps:=by
 have c:=I.c
 have b:=I.b
 have b6:=c.b6 (by omega)
 have e7:∀ {a},({q with ln:=a}:Q).t=q.t∧({q with ln:=a}:Q).m=q.m∧({q with ln:=a}:Q).own=q.own∧({q with ln:=a}:Q).sn=q.sn∧({q with ln:=a}:Q).fr=q.fr∧({q with ln:=a}:Q).pl=q.pl∧({q with ln:=a}:Q).lo=q.lo:=⟨rfl,rfl,rfl,rfl,rfl,rfl,rfl⟩
 have cy:∀ {a:Option Rq} {z:Y},y.st=10→z.st=10∧z.sn=y.sn→Cy {q with ln:=a} z:=fun hy h=>⟨by omega,fun _=>c.h0 (by omega),fun _=>by omega,fun _=>by omega,fun _=>by omega,fun _=>by omega,fun _=>by omega,fun _=>by omega,fun _=>by omega,fun _=>by omega,fun _=>by omega,fun _=>by omega,fun _=>by rw [h.2];exact c.b0 (by omega),fun _=>by omega,fun _=>by omega,fun _=>b6,fun _=>by omega⟩
 have hs10:∀ {z:Y},y.st=10→(z.st=10∨z.st=0)→∀ t,t<2→∀ st,q.own t=st→Hs y t st→Hs z t st:=fun hy hz t ht st ho h=>⟨fun _=>h.s0 (by omega),fun h=>by omega,fun h=>by omega,fun h=>by omega,fun h=>by omega,fun h=>by omega,fun h=>by omega,fun h=>by omega⟩
 have al10:∀ {a:Option Rq} {z:Y},y.st=10→(z.st=10∨z.st=0)→∀ i,Al q y i↔Al {q with ln:=a} z i:=fun hy hz i=>by
  unfold Al
  constructor
  · exact fun h=>⟨h.1,h.2.1,fun _ _=>by omega⟩
  · exact fun h=>⟨h.1,h.2.1,fun _ _=>by omega⟩
 cases h with
 | sweep h1 h2 h3=>
  refine ⟨D,sweep_ok I h1 ⟨rfl,rfl,rfl,rfl,rfl,rfl,rfl⟩ (fun j hj=>⟨set_ne hj,set_ne hj⟩) (.inr ⟨set_same,set_same,?_⟩) rfl⟩
  unfold Q.blk at h3;simp [h2] at h3;exact h3
 | spare h1 h2=>
  refine ⟨D,sweep_ok I h1 ⟨rfl,rfl,rfl,rfl,rfl,rfl,rfl⟩ (fun j hj=>⟨rfl,rfl⟩) (.inl ⟨rfl,rfl,fun h=>?_⟩) rfl⟩
  by_cases e:(q.t y.i).sn=y.sn
  · exact e
  · exact (h2 ⟨h,by unfold Q.blk;simp [e]⟩).elim
 | end_ h1 h2=>
  refine ⟨D,I.late (by omega) (.inl (by show 6≤y.st;omega)) e7 rfl (cy h1 ⟨h1,rfl⟩) (al10 h1 (.inl h1)) (hs10 h1 (.inl h1)) (.inl rfl) ⟨fun h=>?_,fun h=>?_⟩⟩
  · simp [I.ln.no h]
  · obtain ⟨r,a1,b1,c1⟩:=I.ln.is h
    exact ⟨{r with cy:=if r.nt&&r.st==0 then r.cy+1 else r.cy,nt:=false},by simp [a1],b1,fun h=>⟨⟨(c1 h).1.lt,(c1 h).1.us,(c1 h).1.hd,(c1 h).1.bk,(c1 h).1.wh⟩,(c1 h).2⟩⟩
 | @serve r i h1 h2 h3 h4 h5=>
  have ⟨hi,hf⟩:i<24∧q.fr i=true:=by
   have key:∀ n,topF q.fr n=some i→i<n∧q.fr i=true:=by
    intro n;induction n with
    | zero=>intro h;simp [topF] at h
    | succ n ih=>
     intro h;unfold topF at h;split at h
     · simp at h;subst h;exact ⟨by omega,by assumption⟩
     · have:=ih h;exact ⟨by omega,this.2⟩
   exact key 24 h5
  have ef:=ef_take (t:=2) (p0:=ps 0) (s:=y.sn) b c I.d3 I.s4 hi hf fun _=>rfl
  have J:=I.ef ok ef
  have p3:(ps 0).ph=3:=by
   by_cases e:(ps 0).ph=3
   · exact e
   · have:=I.ln.no e;rw [h3] at this;simp at this
  have c:=J.c
  refine ⟨D,J.late (by omega) (.inl (by omega)) ⟨rfl,rfl,rfl,rfl,rfl,rfl,rfl⟩ rfl ⟨c.st,c.h0,c.h2,c.h3,c.h4,c.h5,c.h6,c.h7,c.h8,c.h9,c.rs,c.tr,c.b0,c.b9,c.b2,c.b6,c.b5⟩ (fun i=>Iff.rfl) (fun _ _ _ _ h=>h) (.inl rfl) ⟨fun h=>(h p3).elim,fun _=>⟨_,rfl,.inr (.inl rfl),fun _=>⟨⟨hi,by simp [Q.take,set_same],by simp [Q.take,set_same],fun _=>by simp [Q.take,set_same],fun h=>by omega⟩,?_⟩⟩⟩⟩
  left
  have A:=(I.t 0 (by decide)).a
  cases A with
  | wait _ _ _ h=>exact h.hs.s0 (by omega)
  | ans _ h=>exact h.hs.s0 (by omega)
  | _=>exfalso;omega
 | @fail r h1 h2 h3 h4 h5 h6=>
  have p3:(ps 0).ph=3:=by
   by_cases e:(ps 0).ph=3
   · exact e
   · have:=I.ln.no e;rw [h3] at this;simp at this
  exact ⟨D,I.late (by omega) (.inl (by omega)) e7 rfl (cy h1 ⟨h1,rfl⟩) (al10 h1 (.inl h1)) (hs10 h1 (.inl h1)) (.inl rfl) ⟨fun h=>(h p3).elim,fun _=>⟨_,rfl,.inr (.inr rfl),fun h=>by simp at h⟩⟩⟩
 | done h1 h2 h3=>
  refine ⟨D,I.late (by omega) (.inr (by simp [Y.to])) ⟨rfl,rfl,rfl,rfl,rfl,rfl,rfl⟩ rfl ⟨by simp [Y.to],fun _=>c.h0 (by omega),fun h=>by simp [Y.to] at h,fun h=>by simp [Y.to] at h,fun h=>by simp [Y.to] at h,fun h=>by simp [Y.to] at h,fun h=>by simp [Y.to] at h,fun h=>by simp [Y.to] at h,fun h=>by simp [Y.to] at h,fun h=>by simp [Y.to] at h,fun h=>by simp [Y.to] at h,fun h=>by simp [Y.to] at h,fun _=>c.b0 (by omega),fun h=>by simp [Y.to] at h,fun h=>by simp [Y.to] at h,fun _=>b6,fun h=>by simp [Y.to] at h⟩ (al10 (a:=q.ln) h1 (.inr (by simp [Y.to]))) (hs10 h1 (.inr (by simp [Y.to]))) (.inl rfl) (I.ln.late (by omega) (.inr (by simp [Y.to])) ⟨rfl,rfl⟩ rfl)⟩
 | _=>exfalso;omega
end
end Sw
end Go.Proofs.YtgcmiahhkalfmaaGreat
