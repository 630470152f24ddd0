import Derived.Test.YtgcmiahhkalfmaaGreatM16
set_option maxRecDepth 100000
set_option maxHeartbeats 8000000
set_option linter.unusedVariables false
set_option linter.unusedSimpArgs false
namespace Go.Proofs.YtgcmiahhkalfmaaGreat
variable {no t:Nat} {nos:Nat→Nat} {os:Nat→Nat→Opn} {o:Nat→Opn} {D:Nat→Prop}
namespace Sw
section
variable {q q':Q} {y:Y} {ps:Nat→T} {p':T} {rs:Rs}
structure St0 (q:Q) (y:Y) (t no:Nat) (o:Nat→Opn) (p:T):Prop where
 ph:p.ph=2
 at_:p.at_=0
 nx:p.nx<no
 h:Hr q y t p (snOf y p.st)
theorem At.start0 {p:T} (h:At q y t no o p) (h1:p.ph=2) (h2:p.at_=0):St0 q y t no o p:=by
 cases h with
 | start a b c d=>exact ⟨a,b,c,d⟩
 | _=>exfalso;omega
theorem Hr.next {p:T} {no:Nat} {o:Nat→Opn} {own:Nat→Int} {ln:Option Rq} (h:Hr q y t p (snOf y p.st)) (ho:own=q.own):At {q with own:=own,ln:=ln} y t no o p.next:=by
 subst ho;exact .idle rfl (.inl rfl) ⟨h.own,h.hs,h.sn⟩
theorem ts_inv (I:Inv nos os D q y ps) (ok:∀ t,t<2→∀ i,i<nos t→OpOk (os t i)) (mk:∀ t i,t<2→i<nos t→(os t i).kd=1→t=0) (ht:t<2) (h:TS cS t (nos t) (os t) q (ps t) q' p' rs):∃ D',Inv nos os D' q' y (set ps t p')∧∀ i,Al q' y i→Al q y i∨(q.t i).hd=false:=by
 have Ti:=I.t t ht
 have A:=Ti.a
 have L:=Ti.l
 have e0:∀ k,k≠t→q.own k=q.own k:=fun _ _=>rfl
 have l0:t≠0→q.ln=q.ln:=fun _=>rfl
 have lnk:(ps t).ph≠3→t=0→∀ {own:Nat→Int} {x:T},x.ph≠3→Ln {q with own:=own} y x:=fun h e own x hx=>by subst e;exact I.ln.same own h hx
 have t3n:∀ {x:T},x.ph≠2→3≤y.st→y.st≤5→T3 q y D x:=fun h _ _=>.nil fun h'=>(h h').elim
 have hr:∀ {x:T},Hr q y t (ps t) (snOf y (ps t).st)→x.st=(ps t).st→x.sn=(ps t).sn→Hr q y t x (snOf y x.st):=fun h a b=>⟨by rw [a];exact h.own,by rw [a];exact h.hs,by rw [b,a];exact h.sn⟩
 have he:(ps t).ph=2→(ps t).here:=fun h=>.inr (.inl h)
 have mid:∀ {sn},Hr q y t (ps t) sn→3≤y.st→y.st≤5→shades (ps t).st=true:=fun h a b=>shades_mid (h.hs.mid a b)
 have st5:∀ {sn},Hr q y t (ps t) sn→y.st=5→(ps t).st=3:=fun h a=>h.hs.s5 a
 have alloc:Hr q y t (ps t) (snOf y (ps t).st)→(y.st≤1∨5≤y.st∨(y.st=4∧(ps t).st=3)→((ps t).sn != both (ps t).st)=y.sn)∧(y.st=2∨y.st=3→((ps t).sn != both (ps t).st)=!y.sn):=fun h=>by
  have hs:=h.hs
  have c:=I.c.st
  rw [h.sn];unfold snOf
  constructor
  · intro h
    have:both (ps t).st=false:=by
     have a:=hs.s0;have b:=hs.s4;have c:=hs.s5;have d:=hs.s6;have e:=hs.s7;have f:=hs.s8
     unfold both
     simp;omega
    rw [if_neg (by omega),this];simp
  · intro h
    have a:=hs.s2;have b:=hs.s3
    by_cases e:y.st=2∧(ps t).st=0
    · rw [if_pos e,e.2];simp [both]
    · rw [if_neg e]
      have:both (ps t).st=true:=by unfold both;simp;omega
      rw [this];cases y.sn<;>rfl
 cases h with
 | out h1=>
  cases A with
  | out a b c=>
   refine I.k0 ok ht _ q.ln (fun k hk=>set_ne hk) l0 L (.idle rfl (.inl rfl) ⟨set_same,I.c.hs,I.c.sns I.b⟩) (fun e=>lnk (by omega) e (by show (1:Int)≠3;decide)) (t3n (by show (1:Int)≠2;decide)) fun _ _=>⟨fun _ _ j hj hr=>?_,fun h=>absurd h (by show (1:Int)≠2;decide)⟩
   have:=c j hj
   rw [show ({ps t with ph:=1,pc:=0,st:=q.st,sn:=q.sn}:T).l j=(ps t).l j from rfl,this] at hr;simp at hr
  | _=>exfalso;omega
 | go h1 h2 h3 h4=>
  cases A with
  | idle a b c=>exact I.k0 ok ht q.own q.ln e0 l0 L (.start rfl rfl h4 (hr c rfl rfl)) (fun e=>lnk (by omega) e (by show (2:Int)≠3;decide)) (fun _ _=>.nil fun _ h=>absurd h (by show ¬((0:Int)=4∨(0:Int)=5∨(0:Int)=6);decide)) fun h h'=>⟨fun _=>(I.t4 h h' t ht).l (.inl a),fun _ _ h=>absurd h (by show (0:Int)≠4;decide)⟩
  | _=>exfalso;omega
 | quit h1 h2 h3 h4=>
  cases A with
  | idle a b c=>exact I.k0 ok ht q.own q.ln e0 l0 L (.idle a (.inr (.inl rfl)) (hr c rfl rfl)) (fun e=>lnk (by omega) e (by show (ps t).ph≠3;omega)) (t3n (by show (ps t).ph≠2;omega)) fun h h'=>⟨(I.t4 h h' t ht).l,(I.t4 h h' t ht).o⟩
  | _=>exfalso;omega
 | look h1 h2 h3=>
  have key:Hr q y t (ps t) (snOf y (ps t).st)→((ps t).ph=1∨(ps t).ph=3∧Mk t (nos t) (os t) (ps t))→∃ D',(Inv nos os D' q y (set ps t {ps t with seen:=q.st,sn:=if q.st=1 then q.sn else (ps t).sn,grey:=if q.st=3 then greys cS.locals (ps t).l else [],pc:=if q.st=3∧greys cS.locals (ps t).l≠[] then 1 else 2}))∧∀ i,Al q y i→Al q y i∨(q.t i).hd=false:=fun hh hm=>by
   have gm:∀ i,i∈greys cS.locals (ps t).l↔∃ j,j<4∧((ps t).l j).ref=true∧((ps t).l j).w.ix=some i:=by
    intro i;unfold greys;simp [cS]
   refine I.k0 ok ht q.own q.ln e0 l0 L (.ans (hm.imp id fun ⟨a,b⟩=>⟨a,⟨b.t,b.nx,b.kd⟩⟩) ⟨hh.own,hh.hs,?_⟩ rfl (Ne.symm h3) ?_ ?_ ?_) (fun e=>?_) (t3n (by show (ps t).ph≠2;omega)) fun h h'=>⟨(I.t4 h h' t ht).l,(I.t4 h h' t ht).o⟩
   · show (if q.st=1 then q.sn else (ps t).sn)=y.sn
     split
     · exact I.b.sn
     · rw [hh.sn];unfold snOf;rw [if_neg];rintro ⟨a,b⟩;have:=(I.c.h2 a).1;omega
   · show (if q.st=3∧greys cS.locals (ps t).l≠[] then (1:Int) else 2)=1∧q.st=3∧(if q.st=3 then greys cS.locals (ps t).l else [])≠[]∨(if q.st=3∧greys cS.locals (ps t).l≠[] then (1:Int) else 2)=2∧(if q.st=3 then greys cS.locals (ps t).l else [])=[]
     by_cases a:q.st=3
     · by_cases b:greys cS.locals (ps t).l=[]<;>simp [a,b]
     · simp [a]
   · intro i hi
     have hi:i∈(if q.st=3 then greys cS.locals (ps t).l else []):=hi
     split at hi
     · obtain ⟨j,hj,hr,hx⟩:=(gm i).1 hi
       rcases ((L j hj).1 hr).ix with ⟨_,e⟩|⟨k,_,e,hk⟩
       · rw [hx] at e;simp at e
       · rw [hx] at e;simp at e;exact e▸hk
     · simp at hi
   · intro h3 j hj hr
     have h3:q.st=3:=h3
     rcases ((L j hj).1 hr).ix with ⟨e,_⟩|⟨k,e,ex,hk⟩
     · exact .inl (.inl e)
     · refine .inr ⟨k,e,?_⟩
       show k∈(if q.st=3 then greys cS.locals (ps t).l else [])
       rw [if_pos h3];exact (gm k).2 ⟨j,hj,hr,ex⟩
   · subst e
     refine ⟨I.ln.no,fun h=>?_⟩
     obtain ⟨r,a,b,c⟩:=I.ln.is h
     exact ⟨r,a,b,fun h=>⟨(c h).1,(c h).2.imp id fun ⟨_,h⟩=>by omega⟩⟩
  cases A with
  | idle a b c=>exact key c (.inl a)
  | wait a b c d=>exact key d (.inr ⟨a,c⟩)
  | _=>exfalso;omega
 | @grey i g h1 h2 h3=>
  cases A with
  | ans a b c d e ga gr=>
   have hi:Al q y i:=ga i (by rw [h3];simp)
   have h5:y.st=5→y.at_=5→Pr q y D i:=fun h _=>by have:=b.hs.s5 h;have:=(I.c.h5 h).1;omega
   rw [show q.grey cS i (ps t).sn=q.grey cS i y.sn by rw [b.sn]]
   obtain ⟨ef,hb⟩:=ef_grey (t:=t) (p0:=ps 0) I.b I.c I.d3 I.s4 hi h5
   have hsn:({ps t with grey:=g,pc:=if g=[] then 2 else 1}:T).sn=y.sn:=b.sn
   refine ⟨D,I.step ok ht ef ⟨fun j hj=>(L j hj).mono ef.al,.ans (a.imp id fun ⟨a,b⟩=>⟨a,⟨b.t,b.nx,b.kd⟩⟩) ⟨?_,b.hs,hsn⟩ (c.trans ef.st.symm) (ef.st▸d) ?_ (fun k hk=>ef.al k (ga k (by rw [h3];exact List.mem_cons_of_mem _ hk))) fun s j hj hr=>?_⟩ (fun e=>?_) (fun h h'=>?_) fun h h'=>?_⟩
   · have:(q.grey cS i y.sn).own=q.own:=by unfold Q.grey;split<;>rfl
     rw [this];exact b.own
   · have h3':(ps t).seen=3:=by rcases e with ⟨_,e,_⟩|⟨e,_⟩<;>omega
     by_cases hg:g=[]
     · exact .inr ⟨by show (if g=[] then (2:Int) else 1)=2;rw [if_pos hg],hg⟩
     · exact .inl ⟨by show (if g=[] then (2:Int) else 1)=1;rw [if_neg hg],h3',hg⟩
   · rcases gr s j hj hr with h|⟨k,h,hk⟩
     · exact .inl (h.mono ef.bk)
     · rw [h3] at hk
       rcases List.mem_cons.1 hk with rfl|hk
       · exact .inl (.inr ⟨_,h,hb⟩)
       · exact .inr ⟨k,h,hk⟩
   · subst e
     have hl:(q.grey cS i y.sn).ln=q.ln:=by unfold Q.grey;split<;>rfl
     refine ⟨fun h=>hl.trans (I.ln.no h),fun h=>?_⟩
     obtain ⟨r,a1,b1,c1⟩:=I.ln.is h
     refine ⟨r,hl.trans a1,b1,fun h=>⟨(c1 h).1.mono ?_,(c1 h).2.imp id fun ⟨_,h⟩=>by omega⟩⟩
     unfold Q.grey;split
     · exact set_ne fun e=>by have:=(c1 h).1.hd;rw [e,hi.2.1] at this;simp at this
     · rfl
   · exact .nil fun h=>by have h:(ps t).ph=2:=h;omega
   · exact ⟨fun hp hs j hj hr=>((I.t4 h h' t ht).l hp hs j hj hr).mono (ef.pr h h'),fun h=>by have h:(ps t).ph=2:=h;omega⟩
  | _=>exfalso;omega
 | answer h1 h2=>
  cases A with
  | ans a b c d e ga gr=>
   have eg:(ps t).grey=[]:=by rcases e with ⟨e,_⟩|⟨_,e⟩;{omega};{exact e}
   have hh:Hr {q with own:=set q.own t (ps t).seen} y t {ps t with st:=(ps t).seen,pc:=if (ps t).ph=1 then 0 else 5} (snOf y (ps t).seen):=⟨set_same,by rw [show ({ps t with st:=(ps t).seen,pc:=if (ps t).ph=1 then 0 else 5}:T).st=q.st from c];exact I.c.hs,by rw [c];exact b.sn.trans (I.b.sn.symm.trans (I.c.sns I.b))⟩
   refine I.k0 ok ht _ q.ln (fun k hk=>set_ne hk) l0 L ?_ (fun e=>?_) (t3n (by show (ps t).ph≠2;omega)) fun _ _=>⟨fun _ s j hj hr=>?_,fun h=>by have h:(ps t).ph=2:=h;omega⟩
   · rcases a with a|⟨a,m⟩
     · exact .idle a (.inl (by show (if (ps t).ph=1 then (0:Int) else 5)=0;rw [if_pos a])) hh
     · exact .wait a (.inr (by show (if (ps t).ph=1 then (0:Int) else 5)=5;rw [if_neg (by omega)])) ⟨m.t,m.nx,m.kd⟩ hh
   · subst e
     refine ⟨I.ln.no,fun h=>?_⟩
     have hp3:(ps 0).ph=3:=h
     obtain ⟨r,a1,b1,c1⟩:=I.ln.is h
     refine ⟨r,a1,b1,fun h=>?_⟩
     obtain ⟨u,hu⟩:=c1 h
     have hs:=b.hs
     have y2:y.st=2:=by
      have c0:=I.c.st;have k0:=hs.s0;have k3:=hs.s3;have k4:=hs.s4;have k5:=hs.s5;have k6:=hs.s6;have k7:=hs.s7
      have i0:=I.c.h0
      omega
     have q1:=(I.c.h2 y2).1
     refine ⟨⟨u.lt,u.us,u.hd,fun h=>?_,u.wh⟩,.inr ⟨by show (ps 0).seen=1;omega,by show (if (ps 0).ph=1 then (0:Int) else 5)=5;rw [if_neg (by omega)]⟩⟩
     omega
   · rcases gr s j hj hr with h|⟨k,_,h⟩
     · exact h.pr
     · rw [eg] at h;simp at h
  | _=>exfalso;omega
 | drain h1 h2=>
  cases A with
  | idle a b c=>exact I.k0 ok ht q.own q.ln e0 l0 L (.idle a (.inr (.inr rfl)) (hr c rfl rfl)) (fun e=>lnk (by omega) e (by show (ps t).ph≠3;omega)) (t3n (by show (ps t).ph≠2;omega)) fun h h'=>⟨(I.t4 h h' t ht).l,(I.t4 h h' t ht).o⟩
  | _=>exfalso;omega
 | leave h1 h2=>
  cases A with
  | idle a b c=>
   exact I.k0 ok ht _ q.ln (fun k hk=>set_ne hk) l0 (fun j hj=>⟨fun h=>by simp at h,fun _=>.inl rfl⟩) (.gone rfl set_same fun _ _=>rfl) (fun e=>lnk (by omega) e (by show (4:Int)≠3;decide)) (t3n (by show (4:Int)≠2;decide)) fun _ _=>⟨fun _ _ j hj hr=>by simp at hr,fun h=>absurd h (by show (4:Int)≠2;decide)⟩
  | _=>exfalso;omega
 | gone h1=>
  cases A with
  | gone a b c=>
   exact I.k0 ok ht q.own q.ln e0 l0 L (.gone a b c) (fun e=>lnk (by omega) e (by omega)) (t3n (by omega)) fun h h'=>I.t4 h h' t ht
  | _=>exfalso;omega
 | err h1 h2 h3=>
  have s:=A.start0 h1 h2
  exact I.k0 ok ht q.own q.ln e0 l0 L (s.h.next rfl) (fun e=>lnk (by omega) e (by show (1:Int)≠3;decide)) (t3n (by show (1:Int)≠2;decide)) fun h h'=>next_t4 (he h1) (I.t4 h h' t ht)
 | num h1 h2 h3=>
  have s:=A.start0 h1 h2
  have hz:=(ok t ht _ s.nx).z h3
  exact I.k0 ok ht q.own q.ln e0 l0 (lay_l L ⟨fun h=>by simp at h,fun _=>.inr hz⟩) (.idle rfl (.inl rfl) ⟨s.h.own,s.h.hs,s.h.sn⟩) (fun e=>lnk (by omega) e (by show (1:Int)≠3;decide)) (t3n (by show (1:Int)≠2;decide)) fun h h'=>lay_t4 (he h1) (I.t4 h h' t ht) fun _ h=>by simp at h
 | clear h1 h2 h3=>
  have s:=A.start0 h1 h2
  exact I.k0 ok ht q.own q.ln e0 l0 (lay_l L ⟨fun _=>.inl rfl,fun h=>by simp at h⟩) (.idle rfl (.inl rfl) ⟨s.h.own,s.h.hs,s.h.sn⟩) (fun e=>lnk (by omega) e (by show (1:Int)≠3;decide)) (t3n (by show (1:Int)≠2;decide)) fun h h'=>lay_t4 (he h1) (I.t4 h h' t ht) fun _ _=>.inl rfl
 | kind h1 h2 h3 h4=>
  have s:=A.start0 h1 h2
  have:=(ok t ht _ s.nx).kd;omega
 | @ask i h1 h2 h3 h4=>
  have s:=A.start0 h1 h2
  obtain rfl:=mk t _ ht s.nx h3
  have ⟨hi,hf⟩:i<24∧q.fr i=true:=by
   have key:∀ n,topF q.fr n=some i→i<n∧q.fr i=true:=by
    intro n;induction n with
    | zero=>intro h;simp [topF] at h
    | succ n ih=>
     intro h;unfold topF at h;split at h
     · simp at h;subst h;exact ⟨by omega,by assumption⟩
     · have:=ih h;exact ⟨by omega,this.2⟩
   exact key 24 h4
  obtain ⟨c1,c2⟩:=alloc s.h
  have ef:=ef_take (t:=0) (p0:=ps 0) (s:=(ps 0).sn != both (ps 0).st) I.b I.c I.d3 I.s4 hi hf fun h=>c1 (by omega)
  refine ⟨D,I.step ok ht ef ⟨fun j hj=>(L j hj).mono ef.al,.make h1 rfl ⟨rfl,s.nx,h3⟩ ⟨s.h.own,s.h.hs,s.h.sn⟩ (by show (0:Nat)<8;decide) ⟨hi,by simp [Q.take,set_same],by simp [Q.take,set_same],fun h=>?_,fun h=>?_⟩ fun k hk=>absurd hk (Nat.not_lt_zero k)⟩ (fun _=>⟨fun _=>I.ln.no (by omega),fun h=>by have h:(ps 0).ph=3:=h;omega⟩) (fun _ _=>.nil fun _ h=>absurd h (by show ¬((7:Int)=4∨(7:Int)=5∨(7:Int)=6);decide)) fun h h'=>⟨fun hp hs j hj hr=>((I.t4 h h' 0 ht).l hp hs j hj hr).mono (ef.pr h h'),fun _ _ h=>absurd h (by show (7:Int)≠4;decide)⟩⟩
  · simp [Q.take,set_same];simpa using c1 h
  · simp [Q.take,set_same];simpa using c2 h
 | wait h1 h2 h3 h4=>
  have s:=A.start0 h1 h2
  obtain rfl:=mk t _ ht s.nx h3
  exact I.k0 ok ht q.own _ e0 (fun h=>(h rfl).elim) L (.wait rfl (.inr rfl) ⟨rfl,s.nx,h3⟩ ⟨s.h.own,s.h.hs,s.h.sn⟩) (fun _=>⟨fun h=>absurd rfl h,fun _=>⟨_,rfl,.inl rfl,fun h=>by simp at h⟩⟩) (t3n (by show (3:Int)≠2;decide)) fun h h'=>⟨fun hp=>(I.t4 h h' 0 ht).l (he h1),fun h=>absurd h (by show (3:Int)≠2;decide)⟩
 | @load z h1 h2 h3 h4 h5=>
  have s:=A.start0 h1 h2
  have O:=ok t ht _ s.nx
  have hn:=O.n3 h3
  refine I.k0 ok ht q.own q.ln e0 l0 L (.read h1 rfl s.nx ⟨s.h.own,s.h.hs,s.h.sn⟩ h3 (by rw [hn];rfl) ((opEr_ok _ _ h4).1 h3).1 ⟨z,h5,by rw [hn];rfl⟩) (fun e=>lnk (by omega) e (by show (ps t).ph≠3;omega)) (fun _ _=>.nil fun _ h=>absurd h (by show ¬((2:Int)=4∨(2:Int)=5∨(2:Int)=6);decide)) fun h h'=>⟨(I.t4 h h' t ht).l,fun _ _ h=>absurd h (by show (2:Int)≠4;decide)⟩
 | storeK h1 h2 h3 h4 h5=>
  have s:=A.start0 h1 h2
  exact I.k0 ok ht q.own q.ln e0 l0 L (s.h.next rfl) (fun e=>lnk (by omega) e (by show (1:Int)≠3;decide)) (t3n (by show (1:Int)≠2;decide)) fun h h'=>next_t4 (he h1) (I.t4 h h' t ht)
 | @store z h1 h2 h3 h4 h5 h6=>
  have s:=A.start0 h1 h2
  have O:=ok t ht _ s.nx
  have hn:=O.n4 h3
  have hrf:cS.refs.getD (os t (ps t).nx).n false=decide ((os t (ps t).nx).n<2):=by
   have:(os t (ps t).nx).n=0∨(os t (ps t).nx).n=1∨(os t (ps t).nx).n=2:=by omega
   rcases this with e|e|e<;>rw [e]<;>rfl
  obtain ⟨x,hx⟩:∃ x,x=(({ps t with ad:=cS.fw z (2+(os t (ps t).nx).n),rf:=cS.refs.getD (os t (ps t).nx).n false}:T).chooses (os t (ps t).nx)):=⟨_,rfl⟩
  have xr:x.rf=cS.refs.getD (os t (ps t).nx).n false:=by rw [hx];rfl
  have xa:x.at_=if x.rf&&shades (ps t).st then 3 else 6:=by rw [xr,hx];rfl
  have xl:x.l=(ps t).l:=by rw [hx];rfl
  have xp:x.ph=2:=by rw [hx];exact h1
  have xn:x.nx=(ps t).nx:=by rw [hx];rfl
  have xs:x.st=(ps t).st∧x.sn=(ps t).sn:=by rw [hx];exact ⟨rfl,rfl⟩
  have W:Wr q y (os t x.nx) x:=by
   rw [xn]
   refine ⟨.inl h3,by rw [hx];rfl,by rw [xl,xr];exact h5,fun _=>⟨by rw [xl];exact ((opEr_ok _ _ h4).2.1 h3).1,z,by rw [xl];exact h6,by rw [hx];rfl,by rw [xr];exact hrf⟩,fun h=>by omega,fun h=>?_,fun h=>?_,fun h=>?_,fun h h' hb=>?_⟩
   all_goals (rw [xa] at h)
   · split at h
     · next h'=>simp at h';rw [xs.1];exact h'
     · omega
   · split at h<;>omega
   · split at h<;>omega
   · rw [xs.1] at hb
     have:shades (ps t).st=true:=by unfold both at hb;unfold shades;rw [hb];rfl
     rw [h',this] at h;simp at h
  have x36:3≤x.at_∧x.at_≤6:=by rw [xa];split<;>omega
  rw [←hx]
  refine I.k0 ok ht q.own q.ln e0 l0 (by rw [xl];exact L) (.writ xp x36 (by rw [xn];exact s.nx) (hr s.h xs.1 xs.2) W) (fun e=>lnk (by omega) e (by omega)) (fun h h'=>?_) fun h h'=>⟨fun _ hs=>?_,fun _ _ h=>by rw [xa] at h;split at h<;>omega⟩
  · have hsh:=mid s.h h h'
    rw [hsh] at xa;simp at xa
    refine ⟨fun _ _ h=>by rw [xa] at h;split at h<;>omega,fun _ _ h hr=>by rw [xa,hr] at h;simp at h⟩
  · rw [xl];exact (I.t4 h h' t ht).l (he h1) (xs.1▸hs)
 | see h1 h2 h3=>
  have s:=A.start0 h1 h2
  have O:=ok t ht _ s.nx
  exact I.k0 ok ht q.own q.ln e0 l0 (lay_l L ⟨fun _=>I.b.glo _ (O.n7 (.inl h3)),fun h=>by simp at h⟩) (.idle rfl (.inl rfl) ⟨s.h.own,s.h.hs,s.h.sn⟩) (fun e=>lnk (by omega) e (by show (1:Int)≠3;decide)) (t3n (by show (1:Int)≠2;decide)) fun h h'=>lay_t4 (he h1) (I.t4 h h' t ht) fun _ _=>(I.s4 h h').glo I.b (O.n7 (.inl h3))
 | setOld h1 h2 h3 h4 h5=>
  have s:=A.start0 h1 h2
  have O:=ok t ht _ s.nx
  obtain ⟨x,hx⟩:∃ x,x=({ps t with ad:=cS.gw (os t (ps t).nx).n,rf:=true,w:=((ps t).l (os t (ps t).nx).b).w,at_:=3}:T):=⟨_,rfl⟩
  have hxo:(({ps t with ad:=cS.gw (os t (ps t).nx).n,rf:=true,w:=((ps t).l (os t (ps t).nx).b).w}:T).olds q.m)=x.olds q.m:=by subst hx;rfl
  rw [hxo]
  have W:Wr q y (os t (ps t).nx) x:=by
   subst hx
   exact ⟨.inr h3,rfl,(opEr_ok _ _ h4).2.2 h3,fun h=>by omega,fun _=>⟨by simp [cS,Cf.gw],rfl⟩,fun _=>⟨rfl,h5⟩,fun h=>absurd h (by show (3:Int)≠4;decide),fun h=>absurd h (by show (3:Int)≠5;decide),fun h=>absurd h (by show (3:Int)≠6;decide)⟩
  have xl:x.l=(ps t).l:=by subst hx;rfl
  have x3:x.at_=3:=by subst hx;rfl
  have xh:x.here:=by subst hx;exact .inr (.inl h1)
  have xs:(x.olds q.m).st=(ps t).st∧(x.olds q.m).sn=(ps t).sn∧(x.olds q.m).nx=(ps t).nx∧(x.olds q.m).ph=2∧(x.olds q.m).l=(ps t).l∧x.rf=true∧x.st=(ps t).st:=by subst hx;exact ⟨rfl,rfl,rfl,h1,rfl,rfl,rfl⟩
  obtain ⟨W',a3,a6,k3,k4⟩:=olds_ok O I.b (by rw [xl];exact L) x3 W
  refine I.k0 ok ht q.own q.ln e0 l0 (by rw [xs.2.2.2.2.1];exact L) (.writ xs.2.2.2.1 ⟨a3,a6⟩ (by rw [xs.2.2.1];exact s.nx) (hr s.h xs.1 xs.2.1) (by rw [xs.2.2.1];exact W')) (fun e=>lnk (by omega) e (by rw [xs.2.2.2.1];decide)) (fun _ _=>k3) fun h h'=>⟨fun _ hs=>?_,fun _ hs _=>?_⟩
  · rw [xs.2.2.2.2.1];exact (I.t4 h h' t ht).l (he h1) (xs.1▸hs)
  · have t4:T4 q y D x:=⟨fun _ hs=>by rw [xl];exact (I.t4 h h' t ht).l (he h1) (xs.2.2.2.2.2.2▸hs),fun _ _ h=>by omega⟩
    exact wr_pr O I.b (by rw [xl];exact L) (I.s4 h h') t4 xh W (by rw [xs.2.2.2.2.2.2,←xs.1];exact hs) xs.2.2.2.2.2.1
 | setNow h1 h2 h3 h4 h5=>
  have s:=A.start0 h1 h2
  have O:=ok t ht _ s.nx
  have nm:¬(3≤y.st∧y.st≤5):=fun ⟨a,b⟩=>by rw [mid s.h a b] at h5;simp at h5
  have hb:=(opEr_ok _ _ h4).2.2 h3
  have ef:=ef_write (t:=t) (p0:=ps 0) (u:=((ps t).l (os t (ps t).nx).b).w) I.b I.c I.d3 I.s4 (.inr ⟨_,O.n7 (.inr h3),rfl⟩) ((L _ O.b).1 hb) (fun h=>by omega) fun h h'=>by omega
  exact ⟨_,I.step ok ht ef ⟨fun j hj=>(L j hj).mono ef.al,.idle rfl (.inl rfl) ⟨s.h.own,s.h.hs,s.h.sn⟩⟩ (fun e=>⟨fun _=>by subst e;exact I.ln.no (by omega),fun h=>absurd h (by show (1:Int)≠3;decide)⟩) (fun h h'=>by omega) fun h h'=>by omega⟩
 | read h1 h2=>
  cases A with
  | read a b c d k rf r ad=>
   obtain ⟨z,hz,hd⟩:=ad
   have O:=ok t ht _ c
   have hnum:NumW (q.m (ps t).ad):=by
    rw [hd]
    rcases (L _ O.b).1 r with e|⟨i,e,ha⟩
    · rw [hz] at e;simp [wR,wN] at e
    · rw [hz] at e;simp [wR] at e;subst e;exact (I.b.typ _ ha).2.2.2
   exact I.k0 ok ht q.own q.ln e0 l0 (lay_l L ⟨fun h=>by rw [rf] at h;simp at h,fun _=>hnum⟩) (.idle rfl (.inl rfl) ⟨d.own,d.hs,d.sn⟩) (fun e=>lnk (by omega) e (by show (1:Int)≠3;decide)) (t3n (by show (1:Int)≠2;decide)) fun h h'=>lay_t4 (he h1) (I.t4 h h' t ht) fun _ h=>by rw [rf] at h;simp at h
  | _=>exfalso;omega
 | old h1 h2=>
  cases A with
  | writ a b c d W=>
   have O:=ok t ht _ c
   obtain ⟨W',a3,a6,k3,k4⟩:=olds_ok O I.b L h2 W
   have r3:=W.r3 (.inl h2)
   exact I.k0 ok ht q.own q.ln e0 l0 L (.writ a ⟨a3,a6⟩ c (hr d rfl rfl) W') (fun e=>lnk (by omega) e (by show (ps t).ph≠3;omega)) (fun _ _=>k3) fun h h'=>⟨(I.t4 h h' t ht).l,fun _ hs _=>wr_pr O I.b L (I.s4 h h') (I.t4 h h' t ht) (he h1) W hs r3.1⟩
  | _=>exfalso;omega
 | @greyOld i h1 h2 h3=>
  cases A with
  | writ a b c d W=>
   have O:=ok t ht _ c
   have r3:=W.r3 (.inr (.inl h2))
   have hi:Al q y i:=by obtain ⟨j,e,hj⟩:=W.r4 h2;rw [h3] at e;simp [wR] at e;subst e;exact hj
   have hp:∀ h:4≤y.st,∀ h':y.st≤5,(ps t).st=3→Pr q y D i:=fun h h' hs=>by
    rcases (I.t4 h h' t ht).o h1 hs h2 with e|⟨j,e,hj⟩
    · rw [h3] at e;simp [wR,wN] at e
    · rw [h3] at e;simp [wR] at e;subst e;exact hj
   have hs2:(ps t).st≠0:=by have:=r3.2;unfold shades at this;intro e;rw [e] at this;simp at this
   have hsn:(ps t).sn=y.sn:=by rw [d.sn];unfold snOf;rw [if_neg];exact fun h=>hs2 h.2
   rw [show q.grey cS i (ps t).sn=q.grey cS i y.sn by rw [hsn]]
   obtain ⟨ef,hb⟩:=ef_grey (t:=t) (p0:=ps 0) I.b I.c I.d3 I.s4 hi fun h _=>hp (by omega) (by omega) (d.hs.s5 h)
   have go:(q.grey cS i y.sn).own=q.own:=by unfold Q.grey;split<;>rfl
   have gl:(q.grey cS i y.sn).ln=q.ln:=by unfold Q.grey;split<;>rfl
   have gm:(q.grey cS i y.sn).m=q.m:=by unfold Q.grey;split<;>rfl
   have hw:=(L _ O.b).1 (W.rf.trans r3.1)
   rw [←W.w] at hw
   have hbe:behind (ps t).w (ps t).st=5∧both (ps t).st=true∧(∃ j,(ps t).w=wR j)∨behind (ps t).w (ps t).st=6∧(both (ps t).st=true→(ps t).w=wN):=by
    unfold behind
    rcases hw.ix with ⟨e,ei⟩|⟨j,e,ei,_⟩
    · right;rw [ei];exact ⟨rfl,fun _=>e⟩
    · rw [ei]
      cases hbb:both (ps t).st with
      | true=>left;exact ⟨rfl,rfl,j,e⟩
      | false=>right;exact ⟨rfl,fun h=>by simp at h⟩
   refine ⟨D,I.step ok ht ef ⟨fun j hj=>(L j hj).mono ef.al,.writ a (by show 3≤behind _ _∧behind _ _≤6;omega) c ⟨by rw [go];exact d.own,d.hs,d.sn⟩ ⟨W.kd,W.w,W.rf,W.a4,W.a8,fun _=>r3,fun h=>?_,fun h=>?_,fun h _ hb=>?_⟩⟩ (fun e=>⟨fun _=>by subst e;exact gl.trans (I.ln.no (by omega)),fun h=>by have h:(ps t).ph=3:=h;omega⟩) (fun h h'=>⟨fun _ _ h=>?_,fun a b _ _ hD=>?_⟩) fun h h'=>⟨fun x y j hj hr=>((I.t4 h h' t ht).l x y j hj hr).mono (ef.pr h h'),fun _ _ h=>?_⟩⟩
   · have h:behind _ _=4:=h;omega
   · have h:behind _ _=5:=h
     rcases hbe with ⟨_,b,c⟩|⟨h',_⟩
     · exact ⟨b,c⟩
     · omega
   · have h:behind _ _=6:=h
     rcases hbe with ⟨h',_⟩|⟨_,h'⟩
     · omega
     · exact .inl (h' hb)
   · have h:behind _ _=4:=h;omega
   · rw [gm]
     show BkW _ y (q.m (ps t).ad)
     rw [(I.t3 h h' t ht).w4 h1 b h2 hD,h3];exact .inr ⟨i,rfl,hb⟩
   · have h:behind _ _=4:=h;omega
  | _=>exfalso;omega
 | @greyNew i h1 h2 h3=>
  cases A with
  | writ a b c d W=>
   have O:=ok t ht _ c
   have r3:=W.r3 (.inr (.inr h2))
   have r5:=W.r5 h2
   have hi:Al q y i:=by
    have hw:=(L _ O.b).1 (W.rf.trans r3.1)
    rw [←W.w,h3] at hw
    rcases hw with e|⟨j,e,hj⟩
    · simp [wR,wN] at e
    · simp [wR] at e;subst e;exact hj
   have hs2:(ps t).st≠0:=by have:=r3.2;unfold shades at this;intro e;rw [e] at this;simp at this
   have hsn:(ps t).sn=y.sn:=by rw [d.sn];unfold snOf;rw [if_neg];exact fun h=>hs2 h.2
   rw [show q.grey cS i (ps t).sn=q.grey cS i y.sn by rw [hsn]]
   obtain ⟨ef,hb⟩:=ef_grey (t:=t) (p0:=ps 0) (D:=D) I.b I.c I.d3 I.s4 hi fun h _=>by have:=r5.1;rw [d.hs.s5 h] at this;simp [both] at this
   have go:(q.grey cS i y.sn).own=q.own:=by unfold Q.grey;split<;>rfl
   have gl:(q.grey cS i y.sn).ln=q.ln:=by unfold Q.grey;split<;>rfl
   have gm:(q.grey cS i y.sn).m=q.m:=by unfold Q.grey;split<;>rfl
   refine ⟨D,I.step ok ht ef ⟨fun j hj=>(L j hj).mono ef.al,.writ a (by show (3:Int)≤6∧(6:Int)≤6;decide) c ⟨by rw [go];exact d.own,d.hs,d.sn⟩ ⟨W.kd,W.w,W.rf,W.a4,W.a8,fun _=>r3,fun h=>absurd h (by show (6:Int)≠4;decide),fun h=>absurd h (by show (6:Int)≠5;decide),fun _ _ _=>.inr ⟨i,h3,hb⟩⟩⟩ (fun e=>⟨fun _=>by subst e;exact gl.trans (I.ln.no (by omega)),fun h=>by have h:(ps t).ph=3:=h;omega⟩) (fun h h'=>⟨fun _ _ h=>absurd h (by show (6:Int)≠4;decide),fun a b _ rf hD=>?_⟩) fun h h'=>⟨fun x y j hj hr=>((I.t4 h h' t ht).l x y j hj hr).mono (ef.pr h h'),fun _ _ h=>absurd h (by show (6:Int)≠4;decide)⟩⟩
   rw [gm];exact ((I.t3 h h' t ht).w5 h1 b (.inl h2) rf hD).mono ef.bk
  | _=>exfalso;omega
 | write h1 h2=>
  cases A with
  | writ a b c d W=>
   have O:=ok t ht _ c
   cases hrf:(ps t).rf with
   | true=>
    have hw:=(L _ O.b).1 (W.rf.trans hrf)
    rw [←W.w] at hw
    have b12:(ps t).st=1∨(ps t).st=2→BkW q y (ps t).w:=fun h=>W.r6 h2 hrf (by unfold both;simp;exact h)
    have ef:=ef_write (t:=t) (p0:=ps 0) (D:=D) I.b I.c I.d3 I.s4 (W.loc O L hrf) hw (fun h=>b12 (d.hs.s3 h).1) fun h h'=>by
     have hst:(ps t).st=2∨(ps t).st=3:=by have x:=d.hs.s4;have z:=d.hs.s5;omega
     refine ⟨?_,(I.t3 (by omega) h' t ht).w5 h1 (by omega) (.inr h2) hrf⟩
     rcases hst with e|e
     · exact (b12 (.inr e)).pr
     · rw [W.w];exact (I.t4 h h' t ht).l (he h1) e _ O.b (W.rf.trans hrf)
    exact ⟨_,I.step ok ht ef ⟨fun j hj=>(L j hj).mono ef.al,.idle rfl (.inl rfl) ⟨d.own,d.hs,d.sn⟩⟩ (fun e=>⟨fun _=>by subst e;exact I.ln.no (by omega),fun h=>absurd h (by show (1:Int)≠3;decide)⟩) (fun _ _=>.nil fun h=>absurd h (by show (1:Int)≠2;decide)) fun h h'=>(next_t4 (he h1) (I.t4 h h' t ht)).mono (ef.pr h h')⟩
   | false=>
    have k4:(os t (ps t).nx).kd=4:=by
     rcases W.kd with k|k
     · exact k
     · rw [(W.a8 k).2] at hrf;simp at hrf
    obtain ⟨hr1,z,hz,had,hn⟩:=W.a4 k4
    have hn2:(os t (ps t).nx).n=2:=by
     rw [hrf] at hn;have:=O.n4 k4;simp at hn;omega
    rw [hn2] at had
    have hz4:Al q y z:=by
     rcases (L _ O.a).1 hr1 with e|⟨i,e,ha⟩
     · rw [hz] at e;simp [wR,wN] at e
     · rw [hz] at e;simp [wR] at e;subst e;exact ha
    have hnum:NumW (ps t).w:=by rw [W.w];exact (L _ O.b).2 (W.rf.trans hrf)
    have hz24:=hz4.1
    have ef:=ef_far (t:=t) (p0:=ps 0) (a:=(ps t).ad) (u:=(ps t).w) (D:=D) I.b I.c I.d3 I.s4 (fun x hx=>by rcases hx with ⟨i,f,hi,hf,rfl⟩|⟨g,hg,rfl⟩<;>omega) (fun i _=>by omega) (fun _ _ _=>hnum) fun _ st x hx k hk e=>by
     have:x=z:=by have:=hx.lt;omega
     subst this
     have:=hx.hd;rw [hz4.2.1] at this;simp at this
    exact ⟨_,I.step ok ht ef ⟨fun j hj=>(L j hj).mono ef.al,.idle rfl (.inl rfl) ⟨d.own,d.hs,d.sn⟩⟩ (fun e=>⟨fun _=>by subst e;exact I.ln.no (by omega),fun h=>absurd h (by show (1:Int)≠3;decide)⟩) (fun _ _=>.nil fun h=>absurd h (by show (1:Int)≠2;decide)) fun h h'=>(next_t4 (he h1) (I.t4 h h' t ht)).mono (ef.pr h h')⟩
  | _=>exfalso;omega
 | make h1 h2 h3=>
  cases A with
  | make a b c d wk u m=>
   obtain rfl:=c.t
   have ul:=u.lt
   have ef:=ef_far (t:=0) (p0:=ps 0) (a:=cS.fw (ps 0).got (ps 0).wk) (u:=plW cS.refs (ps 0).wk) (D:=D) I.b I.c I.d3 I.s4 (fun x hx=>hx.far I.b ul u.hd h3) (fun i hi e=>by
    have:i=(ps 0).got:=by unfold Cf.fw at e;omega
    have:=u.hd;have h:=hi.2.1;simp_all) (fun i hi e=>by
    have:i=(ps 0).got:=by unfold Cf.fw at e;omega
    have:=u.hd;have h:=hi.2.1;simp_all) fun h=>(h rfl).elim
   have m':∀ k,k<(ps 0).wk+1→set q.m (cS.fw (ps 0).got (ps 0).wk) (plW cS.refs (ps 0).wk) ((ps 0).got*8+k)=plW cS.refs k:=fun k hk=>by
    by_cases e:k=(ps 0).wk
    · subst e;exact set_same
    · rw [set_ne (by unfold Cf.fw;omega)];exact m k (by omega)
   refine ⟨_,I.step ok ht ef ⟨fun j hj=>(L j hj).mono ef.al,?_⟩ (fun _=>⟨fun _=>I.ln.no (by omega),fun h=>by have h:(ps 0).ph=3:=h;omega⟩) (fun _ _=>.nil fun _ h=>?_) fun h h'=>⟨fun x y j hj hr=>((I.t4 h h' 0 ht).l x y j hj hr).mono (ef.pr h h'),fun _ _ h=>?_⟩⟩
   · by_cases e:(ps 0).wk+1=8
     · exact .born h1 (by simp [e]) ⟨c.t,c.nx,c.kd⟩ ⟨d.own,d.hs,d.sn⟩ ⟨u.lt,u.us,u.hd,u.bk,u.wh⟩ fun k hk=>m' k (by omega)
     · exact .make h1 (by simp [e]) ⟨c.t,c.nx,c.kd⟩ ⟨d.own,d.hs,d.sn⟩ (by show (ps 0).wk+1<8;omega) ⟨u.lt,u.us,u.hd,u.bk,u.wh⟩ m'
   · simp only at h;split at h<;>omega
   · simp only at h;split at h<;>omega
  | _=>exfalso;omega
 | born h1 h2=>
  cases A with
  | born a b c d u m=>
   obtain rfl:=c.t
   obtain ⟨ef,hal⟩:=ef_born (p0:=ps 0) (D:=D) I.b I.c I.d3 I.s4 u m
   refine ⟨_,I.step ok ht ef ⟨lay_l (fun j hj=>(L j hj).mono ef.al) ⟨fun _=>.inr ⟨_,rfl,hal⟩,fun h=>by simp at h⟩,.idle rfl (.inl rfl) ⟨d.own,d.hs,d.sn⟩⟩ (fun _=>⟨fun _=>I.ln.no (by omega),fun h=>absurd h (by show (1:Int)≠3;decide)⟩) (fun _ _=>.nil fun h=>absurd h (by show (1:Int)≠2;decide)) fun h h'=>lay_t4 (he h1) ((I.t4 h h' 0 ht).mono (ef.pr h h')) fun hs _=>.inr ⟨_,rfl,.bk ⟨u.lt,by simp [set_same],?_⟩⟩⟩
   simp [set_same];exact u.bk (by omega)
  | _=>exfalso;omega
 | same h1 h2 h3=>
  cases A with
  | wait a b c d=>
   refine I.k0 ok ht q.own q.ln e0 l0 L (.wait a (.inr rfl) ⟨c.t,c.nx,c.kd⟩ (hr d rfl rfl)) (fun e=>?_) (t3n (by show (ps t).ph≠2;omega)) fun h h'=>⟨(I.t4 h h' t ht).l,(I.t4 h h' t ht).o⟩
   subst e
   refine ⟨I.ln.no,fun h=>?_⟩
   obtain ⟨r,a1,b1,c1⟩:=I.ln.is h
   exact ⟨r,a1,b1,fun h=>⟨(c1 h).1,(c1 h).2.imp id fun ⟨h,_⟩=>⟨h,rfl⟩⟩⟩
  | ans a b c d=>exfalso;omega
  | _=>exfalso;omega
 | @still r h1 h2 h3 h4=>
  cases A with
  | wait a b c d=>
   refine I.k0 ok ht q.own q.ln e0 l0 L (.wait a (.inl rfl) ⟨c.t,c.nx,c.kd⟩ (hr d rfl rfl)) (fun e=>?_) (t3n (by show (ps t).ph≠2;omega)) fun h h'=>⟨(I.t4 h h' t ht).l,(I.t4 h h' t ht).o⟩
   subst e
   exact ⟨I.ln.no,fun h=>⟨r,h3,.inl h4,fun h=>by omega⟩⟩
  | _=>exfalso;omega
 | @granted r h1 h2 h3 h4=>
  cases A with
  | wait a b c d=>
   obtain rfl:=c.t
   obtain ⟨r',a1,b1,c1⟩:=I.ln.is h1
   obtain rfl:r=r':=by rw [h3] at a1;simpa using a1
   refine I.k0 ok ht q.own none e0 (fun h=>(h rfl).elim) L (.make rfl rfl ⟨rfl,c.nx,c.kd⟩ ⟨d.own,d.hs,d.sn⟩ (by show (0:Nat)<8;decide) ?_ fun k hk=>absurd hk (Nat.not_lt_zero k)) (fun _=>⟨fun _=>rfl,fun h=>absurd h (by show (2:Int)≠3;decide)⟩) (fun _ _=>.nil fun _ h=>absurd h (by show ¬((7:Int)=4∨(7:Int)=5∨(7:Int)=6);decide)) fun h h'=>⟨fun _=>(I.t4 h h' 0 ht).l (.inr (.inr h1)),fun _ _ h=>absurd h (by show (7:Int)≠4;decide)⟩
   have u:=(c1 h4).1
   exact ⟨u.lt,u.us,u.hd,u.bk,u.wh⟩
  | _=>exfalso;omega
 | failed h1 h2 h3 h4=>
  cases A with
  | wait a b c d=>
   obtain rfl:=c.t
   exact I.k0 ok ht q.own none e0 (fun h=>(h rfl).elim) L (d.next rfl) (fun _=>⟨fun _=>rfl,fun h=>absurd h (by show (1:Int)≠3;decide)⟩) (t3n (by show (1:Int)≠2;decide)) fun h h'=>next_t4 (.inr (.inr h1)) (I.t4 h h' 0 ht)
  | _=>exfalso;omega
end
end Sw
end Go.Proofs.YtgcmiahhkalfmaaGreat
