import Derived.Test.YtgcmiahhkalfmaaGreatM30
import Derived.Laws.RangeString
set_option maxRecDepth 100000
set_option maxHeartbeats 8000000
set_option linter.unusedVariables false
set_option linter.unusedSimpArgs false
namespace Go.Proofs.YtgcmiahhkalfmaaGreat
section
open Go.RowKit
variable {A:CA} {c:Cf} {i no t:Nat} {o:Nat→Opn} {S:Nat→Prop} {q q':Sw.Q} {rs:Sw.Rs} {p p':Sw.T} {a:TA} {x y:Tc} {w w':World}
section
theorem ix_some (u:Sw.Wd):u.ix.isSome=ixB u.k u.i:=by
 unfold Sw.Wd.ix ixB
 by_cases h1:u.i=1<;>by_cases h2:1≤u.k<;>simp [h1,h2]
theorem behind_is (u:Sw.Wd) (st:Int):bhd u.k u.i st=Sw.behind u st:=by
 unfold bhd Sw.behind;rw [ix_some];rfl
theorem kY (ok:eH p x) (h1:p'.ph=1) (h2:p'.st=p.st) (h3:p'.sn=p.sn) (h4:p'.nx=p.nx+1) (h5:p'.pc=0) (e1:y.st=x.st) (e2:y.sn=x.sn) (e3:y.nx=x.nx):
 eH p' y.next∧ThK c p' y.next=Emp:=
 ⟨⟨h1.symm,by rw [h2,←ok.st,←e1];rfl,by rw [h3,←ok.sn,←e2];rfl,by rw [h4,←ok.nx,←e3];rfl,h5.symm,by simp [h5],by simp [h1],by simp [h1],by simp [h1],by simp [h1]⟩,bB (by simp [h1]) (by simp [h5])⟩
theorem at_ok (ok:eH p x) (h1:p'={p with at_:=p'.at_,old:=p'.old}) (e:y={x with at_:=p'.at_,o1:=y.o1,o2:=y.o2}) (hph:p.ph=2) (ha:3≤p.at_∧p.at_≤6)
 (h4:p'.at_=4→y.o1=fl p'.old.k∧y.o2=fl p'.old.i) (h7:p'.at_≠7) (h8:p'.at_≠8):eH p' y∧ThK c p' y=Emp:=by
 rw [h1,e]
 exact ⟨⟨ok.ph,ok.st,ok.sn,ok.nx,ok.pc,ok.seen,fun _=>rfl,fun h _ _=>ok.ad h (by omega) (by omega),fun h _ _=>ok.w h ha.1 ha.2,fun _ h=>h4 h⟩,bB (by rintro ⟨_,h|h⟩;exact h7 h;exact h8 h) (by simp [hph])⟩
theorem ts_read (P:dB c q p t no o) (hph:p.ph=2) (hat:p.at_=2) (hn:p.nx<no) (had:p.ad<c.words) (hk:(q.m p.ad).k≤63) (hi:(q.m p.ad).i≤63) (hr:p.rf=true→(q.m p.ad).i=1):
 bG A c a t no o q p q (p.lay (o p.nx).a ⟨p.rf,(q.m p.ad).k,(q.m p.ad).i⟩).1 (p.lay (o p.nx).a ⟨p.rf,(q.m p.ad).k,(q.m p.ad).i⟩).2:=
 bQ hph hn (.inr (.inl ⟨hat,rfl,rfl⟩)) fun x ok S w hx=>by
  rw [bB (by simp [hat]) (by simp [hph])] at hx
  obtain ⟨e1,e2⟩:=ok.ad hph (by omega) (by omega)
  refine (act_reads (x:=x) (o:=(o p.nx).r) P.hc e1 had rfl hk hi (by rw [e2];exact hr) (P.ho _ hn).a P.hc.locals.2 (by rw [ok.ph,hph]) (by rw [ok.nx];have:=P.hno;omega) hx).mono ?_
  rintro e w' ⟨he,hg⟩
  refine ⟨(x.next,Emp),⟨x.own,?_⟩,kY ok rfl rfl rfl rfl rfl rfl rfl rfl,?_⟩
  · rw [he,ok.nx,e2];rfl
  · rw [e2] at hg;exact hg
theorem ts_old (P:dB c q p t no o) (hph:p.ph=2) (hat:p.at_=3) (hn:p.nx<no) (had:p.ad<c.words) (hk:(q.m p.ad).k≤63) (hi:(q.m p.ad).i=1) (hw:p.w.k≤63∧p.w.i≤63):
 bG A c a t no o q p q (p.olds q.m) Sw.rs0:=
 bQ hph hn (.inr (.inr (.inl ⟨hat,rfl,rfl⟩))) fun x ok S w hx=>by
  rw [bB (by simp [hat]) (by simp [hph])] at hx
  obtain ⟨e1,e2⟩:=ok.ad hph (by omega) (by omega)
  obtain ⟨w1,w2⟩:=ok.w hph (by omega) (by omega)
  have hv:q.m p.ad=⟨(q.m p.ad).k,1⟩:=by rw [←hi]
  refine (iV (x:=x) P.hc (by rw [ok.at_ hph,hat]) e1 had hv hk hw.1 hw.2 w1 w2 hx).mono ?_
  rintro e w' ⟨he,hg⟩
  have ea:olA (q.m p.ad).k p.w.k p.w.i x.st=(p.olds q.m).at_:=by
   unfold olA Sw.T.olds
   simp only [ix_some,behind_is,hi,ok.st]
  rw [ea] at hg
  have e46:(p.olds q.m).at_≠7∧(p.olds q.m).at_≠8:=by
   unfold Sw.T.olds Sw.behind;simp only;constructor<;>(split<;>(try split)<;>omega)
  refine ⟨(_,Emp),⟨0,?_⟩,at_ok ok rfl rfl hph (by omega) (fun _=>⟨rfl,?_⟩) e46.1 e46.2,hg⟩
  · rw [he];unfold rsV Rs.v Sw.rs0 Sw.w0;simp only [fl0];rfl
  · show fl 1=fl (q.m p.ad).i
    rw [hi]
theorem ts_greyOld (P:dB c q p t no o) (hph:p.ph=2) (hat:p.at_=4) (hn:p.nx<no) (ho:p.old=Sw.wR i) (hi:i<c.frags) (hw:p.w.k≤63∧p.w.i≤63):
 bG A c a t no o q p (q.grey c i p.sn) {p with at_:=Sw.behind p.w p.st} Sw.rs0:=
 bQ hph hn (.inr (.inr (.inr (.inl ⟨hat,rfl,rfl⟩)))) fun x ok S w hx=>by
  rw [bB (by simp [hat]) (by simp [hph])] at hx
  obtain ⟨w1,w2⟩:=ok.w hph (by omega) (by omega)
  obtain ⟨o1,o2⟩:=ok.old hph hat
  rw [ho] at o1 o2
  have hF:=P.fr
  refine (kI (x:=x) P.hc hi (P.hu i hi) P.pl (by omega) hw.1 hw.2 (by rw [ok.at_ hph,hat]) o1 o2 w1 w2 hx).mono ?_
  rintro e w' ⟨he,hg⟩
  rw [show q.grey c i x.sn=q.grey c i p.sn by rw [ok.sn],show bhd p.w.k p.w.i x.st=Sw.behind p.w p.st by rw [behind_is,ok.st]] at hg
  have e56:Sw.behind p.w p.st=5∨Sw.behind p.w p.st=6:=by unfold Sw.behind;split<;>simp
  refine ⟨(_,Emp),⟨0,?_⟩,at_ok ok rfl rfl hph (by omega) (fun h=>?_) (by simp only;omega) (by simp only;omega),hg⟩
  · rw [he];unfold rsV Rs.v Sw.rs0 Sw.w0;simp only [fl0];rfl
  · simp only at h;omega
theorem ts_greyNew (P:dB c q p t no o) (hph:p.ph=2) (hat:p.at_=5) (hn:p.nx<no) (hw:p.w=Sw.wR i) (hi:i<c.frags):
 bG A c a t no o q p (q.grey c i p.sn) {p with at_:=6} Sw.rs0:=
 bQ hph hn (.inr (.inr (.inr (.inr (.inl ⟨hat,rfl,rfl⟩))))) fun x ok S w hx=>by
  rw [bB (by simp [hat]) (by simp [hph])] at hx
  obtain ⟨w1,w2⟩:=ok.w hph (by omega) (by omega)
  rw [hw] at w1 w2
  have hF:=P.fr
  refine (act_stores_grey (x:=x) P.hc hi (P.hu i hi) P.pl (by omega) (by rw [ok.at_ hph,hat]) w1 w2 hx).mono ?_
  rintro e w' ⟨he,hg⟩
  rw [show q.grey c i x.sn=q.grey c i p.sn by rw [ok.sn]] at hg
  refine ⟨(_,Emp),⟨0,?_⟩,at_ok ok rfl rfl hph (by omega) (fun h=>?_) (by simp) (by simp),hg⟩
  · rw [he];unfold rsV Rs.v Sw.rs0 Sw.w0;simp only [fl0];rfl
  · simp at h
theorem ts_write (P:dB c q p t no o) (hph:p.ph=2) (hat:p.at_=6) (hn:p.nx<no) (had:p.ad<c.words):
 bG A c a t no o q p {q with m:=Sw.set q.m p.ad p.w} p.ends.1 p.ends.2:=
 bQ hph hn (.inr (.inr (.inr (.inr (.inr (.inl ⟨hat,rfl,rfl⟩)))))) fun x ok S w hx=>by
  rw [bB (by simp [hat]) (by simp [hph])] at hx
  obtain ⟨e1,e2⟩:=ok.ad hph (by omega) (by omega)
  obtain ⟨w1,w2⟩:=ok.w hph (by omega) (by omega)
  refine (gM (x:=x) P.hc (by rw [ok.at_ hph,hat]) e1 had w1 w2 (by rw [ok.ph,hph]) (by rw [ok.nx];have:=P.hno;omega) hx).mono ?_
  rintro e w' ⟨he,hg⟩
  refine ⟨(x.next,Emp),⟨x.own,?_⟩,kY ok rfl rfl rfl rfl rfl rfl rfl rfl,hg⟩
  rw [he,ok.nx];unfold rsV Rs.v Sw.T.ends Sw.w0;simp only [fl0]
theorem wd_cons (F:Nat) (y:Nat→Nat) (k n:Nat) (h:n≠0):wd F y k n=.int .i64 ((F*8+k:Nat):Int)::.complex .f64 (fl 0) (y k)::wd F y (k+1) (n-1):=by
 cases n with
 | zero=>exact absurd rfl h
 | succ n=>rfl
theorem fB (P:dB c q p t no o) (hph:p.ph=2) (hat:p.at_=7) (hn:p.nx<no) (hg0:p.got<c.frags) (hwk:p.wk<8):
 bG A c a t no o q p {q with m:=Sw.set q.m (c.fw p.got p.wk) (Sw.plW c.refs p.wk)} {p with wk:=p.wk+1,at_:=if p.wk+1=8 then 8 else 7} Sw.rs0:=
 bQ hph hn (.inr (.inr (.inr (.inr (.inr (.inr (.inl ⟨hat,rfl,rfl⟩))))))) fun x ok S w hx=>by
  have eK:ThK c p x=Sep (Got x.got p.got) (Seq 2 x.wr (8-p.wk) (wd p.got (yl c.refs) p.wk (8-p.wk))):=by unfold ThK;rw [if_pos hph,if_pos hat]
  rw [eK,wd_cons _ _ _ _ (by omega)] at hx
  have had:p.got*8+p.wk<c.words:=by unfold Cf.words;omega
  have hx2:=aB.assoc' (th_out hx)
  have hx3:=aB.rot hx2
  have e9:Sw.set q.m (c.fw p.got p.wk) (Sw.plW c.refs p.wk)=Sw.set q.m (p.got*8+p.wk) ⟨0,plB c.refs p.wk⟩:=by rw [plW_is];rfl
  by_cases h8:p.wk=7
  · have hx3:(Sep (Sep (Sep (aE A c q) (aT a.b t (a.ov no) a.lg c.locals x p.l (Ops (a.ov no) no o))) (Seq 2 x.wr 1 (.int .i64 ((p.got*8+p.wk:Nat):Int)::.complex .f64 (fl 0) (yl c.refs p.wk)::[]))) (Got x.got p.got)).at_ S w:=by
     have e1:8-p.wk=1:=by omega
     rw [e1] at hx3;exact hx3
    have H:=aA.callx (aA.begin hx3) (O':=fun v'=>Sep (Sep (aE A c {q with m:=Sw.set q.m (p.got*8+p.wk) ⟨0,plB c.refs p.wk⟩}) (aT a.b t (a.ov no) a.lg c.locals {x with wr:=v',at_:=8} p.l (Ops (a.ov no) no o))) (Got x.got p.got))
     (R:=fun (_:Value) e=>e=.returned (Rs.v ⟨0,0,0,false,0,0,false⟩)) (aN.l (fun S h=>act_makes_last (x:=x) ⟨0,plB c.refs p.wk⟩ P.hc rfl had h))
    refine H.mono ?_
    rintro e w' ⟨v',he,hg⟩
    refine ⟨({x with wr:=v',at_:=8},Got x.got p.got),⟨0,?_⟩,⟨⟨ok.ph,ok.st,ok.sn,ok.nx,ok.pc,ok.seen,?_,?_,?_,?_⟩,?_⟩,?_⟩
    · rw [he];unfold rsV Rs.v Sw.rs0 Sw.w0;simp only [fl0];rfl
    · intro _;simp [h8]
    · simp [h8]
    · simp [h8]
    · simp [h8]
    · unfold ThK;simp [hph,h8]
    · rw [e9];exact hg.conv fun S w h=>th_in h
  · obtain ⟨r,hr⟩:∃ r,r+2=8-p.wk:=⟨8-p.wk-2,by omega⟩
    have e7:8-p.wk-1=r+1:=by omega
    rw [e7] at hx3
    have H:=aA.callx (aA.begin hx3) (O':=fun v'=>Sep (Sep (Sep (aE A c {q with m:=Sw.set q.m (p.got*8+p.wk) ⟨0,plB c.refs p.wk⟩}) (aT a.b t (a.ov no) a.lg c.locals {x with wr:=v'} p.l (Ops (a.ov no) no o))) (Seq 2 v' (r+1) (wd p.got (yl c.refs) (p.wk+1) (r+1)))) (Got x.got p.got))
     (R:=fun (_:Value) e=>e=.returned (Rs.v ⟨0,0,0,false,0,0,false⟩)) (aN.l (fun S h=>act_makes_on (x:=x) (by omega) hr ⟨0,plB c.refs p.wk⟩ P.hc rfl had h))
    refine H.mono ?_
    rintro e w' ⟨v',he,hg⟩
    refine ⟨({x with wr:=v'},Sep (Got x.got p.got) (Seq 2 v' (r+1) (wd p.got (yl c.refs) (p.wk+1) (r+1)))),⟨0,?_⟩,⟨⟨ok.ph,ok.st,ok.sn,ok.nx,ok.pc,ok.seen,?_,?_,?_,?_⟩,?_⟩,?_⟩
    · rw [he];unfold rsV Rs.v Sw.rs0 Sw.w0;simp only [fl0];rfl
    · intro _;simp [h8,ok.at_ hph,hat]
    · simp [h8]
    · simp [h8]
    · simp [h8]
    · unfold ThK;simp only;rw [if_pos hph,if_pos (by rw [if_neg (by omega)]),show 8-(p.wk+1)=r+1 by omega]
    · rw [e9];exact hg.conv fun S w h=>th_in (aB.assoc (aB.rot h))
theorem ts_born (P:dB c q p t no o) (hph:p.ph=2) (hat:p.at_=8) (hn:p.nx<no) (hg0:p.got<c.frags) (h2:(q.t p.got).st=2) (hd:(q.t p.got).hd=false):
 bG A c a t no o q p {q with t:=Sw.set q.t p.got {q.t p.got with hd:=true}} (p.lay (o p.nx).a ⟨true,p.got+1,1⟩).1 (p.lay (o p.nx).a ⟨true,p.got+1,1⟩).2:=
 bQ hph hn (.inr (.inr (.inr (.inr (.inr (.inr (.inr ⟨hat,rfl,rfl⟩))))))) fun x ok S w hx=>by
  have eK:ThK c p x=Got x.got p.got:=by unfold ThK;rw [if_pos hph,if_neg (by omega),if_pos hat]
  rw [eK] at hx
  have hF:=P.fr
  refine (act_bears (x:=x) (o:=(o p.nx).r) (by omega) hg0 h2 hd rfl (P.ho _ hn).a P.hc.locals.2 (by rw [ok.ph,hph]) (by rw [ok.nx];have:=P.hno;omega) (th_out hx)).mono ?_
  rintro e w' ⟨he,hg⟩
  refine ⟨(x.next,Emp),⟨x.own,?_⟩,kY ok rfl rfl rfl rfl rfl rfl rfl rfl,hg.conv fun S w h=>th_emp h⟩
  rw [he,ok.nx];rfl
end
end
section
attribute [local go_sem] aF aI aO aV
open Go.Proofs.Tryz
open Go.RowKit
variable {A:CA} {c:Cf} {ll:List Bool} {Fr b lg n t:Nat} {l:Nat→Lc} {S U:Nat→Prop} {o:OpR} {q:Sw.Q} {x:Tc} {G R V X:aC} {lv ov v:Value} {w w':World}
section
theorem aB.pull {Cf T:aC} (h:(Sep (Sep (Sep V (Sep Cf R)) T) G).at_ U w):(Sep (Sep Cf G) (Sep T (Sep V R))).at_ U w:=by
 have h1:(Sep (Sep (Sep Cf (Sep V R)) T) G).at_ U w:=aB.monoL (fun _ h=>aB.monoL (fun _ h=>aB.assoc (aB.monoL (fun _ h=>aB.swap h) (aB.assoc' h))) h) h
 have h2:(Sep Cf (Sep (Sep V R) (Sep T G))).at_ U w:=aB.assoc (aB.assoc h1)
 exact aB.assoc' (aB.monoR (fun _ h=>aB.assoc (aB.monoL (fun _ h=>aB.swap h) (aB.swap h))) h2)
theorem aB.push {Cf T:aC} (h:(Sep (Sep Cf G) (Sep T (Sep V R))).at_ U w):(Sep (Sep (Sep V (Sep Cf R)) T) G).at_ U w:=by
 have h1:(Sep Cf (Sep (Sep V R) (Sep T G))).at_ U w:=aB.monoR (fun _ h=>aB.swap (aB.monoL (fun _ h=>aB.swap h) (aB.assoc' h))) (aB.assoc h)
 have h2:(Sep (Sep (Sep Cf (Sep V R)) T) G).at_ U w:=aB.assoc' (aB.assoc' h1)
 exact aB.monoL (fun _ h=>aB.monoL (fun _ h=>aB.assoc (aB.monoL (fun _ h=>aB.swap h) (aB.assoc' h))) h) h2
theorem core_object {T:aC} (hc:c.ok) (hFr:Fr<c.frags) (hs:c.shapes[0]? = some (false,ll)) (w:World):aN prog 241 #[cfV c A.g A.cap,.int .i64 0,v] w (Sep (Sep (aE A c q) T) (Got v Fr)) (fun u e=>e=.returned (.tuple #[u,.int .i64 0])) (fun u=>Sep (Sep (Sep (aE A c q) T) (Got v Fr)) (cQ 289 2 u 8 (wc Fr (yl ll) 8))):=by
 have h0:aN prog 241 #[cfV c A.g A.cap,.int .i64 0,v] w (Sep (aZ c A.g A.cap) (Got v Fr)) (fun u e=>e=.returned (.tuple #[u,.int .i64 0])) (fun u=>Sep (Sep (aZ c A.g A.cap) (Got v Fr)) (cQ 289 2 u 8 (wc Fr (yl ll) 8))):=fun S h=>plan_object hc hFr hs h
 exact (h0.lX).conv (fun S w h=>aB.pull h) fun y e he=>⟨y,he,fun S w h=>aB.monoL (fun S h=>aB.push h) h⟩
theorem act_takes (hc:c.ok) (hFr:Fr<c.frags) (hs:c.shapes[0]? = some (false,ll)) (hk:o.kd=1) (hb:o.b=0) (h:(Sep (Sep (aE A c q) (Thr b t ov lv x X)) (Got v Fr)).at_ S w):
 Calls prog 158 #[.pointer (some ⟨b,0,none⟩),.pointer (some ⟨A.b,0,none⟩),.agg (opc o),.agg #[.int .i64 1,v,.int .i64 (-1)]] w fun e w'=>∃ u,e=.returned (.bool true)∧aA (Sep (Sep (Sep (aE A c q) (Thr b t ov lv {x with wr:=u,got:=v,ph:=2,at_:=7} X)) (Got v Fr)) (Seq 2 u 8 (wc Fr (yl ll) 8))) S w w':=by
 obtain ⟨gs,go,cp,rfl,h1,h2⟩:=bN (aA.begin h).r.is
 obtain ⟨kd,a,bb,cc,nn,zz1,zz2⟩:=o
 simp only at hk hb
 subst hk hb
 generalize ho:(⟨1,a,0,cc,nn,zz1,zz2⟩:OpR)=o
 have hoc:opc o=#[.int .i64 1,.int .i64 (o.a:Int),.int .i64 0,.int .i64 (o.c:Int),.int .i64 (o.n:Int),.complex .f64 o.z1 o.z2]:=by rw [←ho];rfl
 rw [hoc]
 have g0:=((aA.begin h).moreSt (St.fresh #[.int .i64 1,.int .i64 (o.a:Int),.int .i64 0,.int .i64 (o.c:Int),.int .i64 (o.n:Int),.complex .f64 o.z1 o.z2] 27)).moreSt (St.fresh #[.int .i64 1,.slice (some ⟨gs,go,none⟩) 1 cp,.int .i64 (-1)] 233)
 rw [World.size_alloc] at g0
 obtain ⟨vb,hvb⟩:∃ k,w.heap.size=k:=⟨_,rfl⟩
 obtain ⟨gb,hgb⟩:∃ k,vb+1=k:=⟨_,rfl⟩
 rw [hvb,hgb] at g0
 have v0:=g0.l.r.vi 0 1
 have g1:=g0.drew_
 have HL:=zz ((core_object (A:=A) (q:=q) (T:=Thr b t ov lv x X) (v:=.slice (some ⟨gs,go,none⟩) 1 cp) hc hFr hs _).lX.lX.on g1)
 unfold cfV at HL
 clear h g0 hoc ho hc hs
 go_enter func158,ntmps158
 go_upto_region 1 with fail
 generalize (w.alloc _).alloc _=w1 at*
 go_wp2_with fail
 refine wp_region_held_drew (S:=(fun w'=>w'.cell? ⟨A.b,0,none⟩=some (.int .i64 c.frags)∧w'.cell? ⟨A.b,1,none⟩=some (.int .i64 c.spine)∧w'.cell? ⟨A.b,2,none⟩=some (.int .i64 c.globals)∧w'.cell? ⟨A.b,3,none⟩=some (.int .i64 c.threads)∧w'.cell? ⟨A.b,4,none⟩=some (.int .i64 c.locals)∧w'.cell? ⟨A.b,5,none⟩=some (.int .i64 0)∧w'.cell? ⟨A.b,6,none⟩=some (.int .i64 c.stack)∧w'.cell? ⟨A.b,7,none⟩=some (.int .i64 c.low)∧w'.cell? ⟨A.b,8,none⟩=some (.slice (some ⟨A.g,0,none⟩) c.shapes.length A.cap)∧w'.cell? ⟨vb,2,none⟩=some (.int .i64 0)∧w'.cell? ⟨gb,1,none⟩=some (.slice (some ⟨gs,go,none⟩) 1 cp))) (by kernel_rfl) ⟨g1.l.l.l.l.c 0 rfl,g1.l.l.l.l.c 1 rfl,g1.l.l.l.l.c 2 rfl,g1.l.l.l.l.c 3 rfl,g1.l.l.l.l.c 4 rfl,g1.l.l.l.l.c 5 rfl,g1.l.l.l.l.c 6 rfl,g1.l.l.l.l.c 7 rfl,g1.l.l.l.l.c 8 rfl,g1.l.r.vi 2 0,g1.r.vC 1 (.slice (some ⟨gs,go,none⟩) 1 cp)⟩ (fun hHeld=>?_)
 generalize w1.drew=wd at*
 refine tk 0 ?_
 refine tk 1 ?_
 refine tk 2 ?_
 refine tk 3 ?_
 refine tk 4 ?_
 refine tk 5 ?_
 refine tk 6 ?_
 refine tk 7 ?_
 refine tk 8 ?_
 refine rdy 9 fun K hK=>?_
 go_simp
 with_reducible refine HL.out.mono ?_
 rintro e w3 ⟨u,rfl,hgx⟩
 obtain ⟨_,hrow⟩:=hgx.r.is.1
 rcases hrow with ⟨_,hbad⟩|⟨ug,uc,ucur,rfl,_,_,huc1,huc2,_⟩
 · simp at hbad
 have hg0:aA (Sep (Sep (Sep (Sep (Sep (aE A c q) (Thr b t ov lv x X)) (Got (.slice (some ⟨gs,go,none⟩) 1 cp) Fr)) (Var vb #[.int .i64 1,.int .i64 (o.a:Int),.int .i64 0,.int .i64 (o.c:Int),.int .i64 (o.n:Int),.complex .f64 o.z1 o.z2] 27)) (Var gb #[.int .i64 1,.slice (some ⟨gs,go,none⟩) 1 cp,.int .i64 (-1)] 233)) (cQ 289 2 (.slice (some ⟨ug,0,none⟩) 8 uc) 8 (wc Fr (yl ll) 8))) S w w3:=hgx
 clear HL hHeld hgx g1
 go_wp2_with fail
 refine hon hK ⟨hg0.l.l.l.l.l.c 0 rfl,hg0.l.l.l.l.l.c 1 rfl,hg0.l.l.l.l.l.c 2 rfl,hg0.l.l.l.l.l.c 3 rfl,hg0.l.l.l.l.l.c 4 rfl,hg0.l.l.l.l.l.c 5 rfl,hg0.l.l.l.l.l.c 6 rfl,hg0.l.l.l.l.l.c 7 rfl,hg0.l.l.l.l.l.c 8 rfl,hg0.l.l.r.vi 2 0,hg0.l.r.vC 1 (.slice (some ⟨gs,go,none⟩) 1 cp)⟩ fun hHeld=>?_
 clear hK K
 refine tk 10 ?_
 refine tk 11 ?_
 refine tk 12 ?_
 refine tk 13 ?_
 refine tk 14 ?_
 refine tk 15 ?_
 have d18:=hg0.l.l.l.l.r.cC 18 x.wr
 have f18:=hg0.l.l.l.l.r.fr 18
 have hg1:aA (Sep (Sep (Sep (Sep (Sep (aE A c q) (Thr b t ov lv {x with wr:=.slice (some ⟨ug,0,none⟩) 8 uc} X)) (Got (.slice (some ⟨gs,go,none⟩) 1 cp) Fr)) (Var vb #[.int .i64 1,.int .i64 (o.a:Int),.int .i64 0,.int .i64 (o.c:Int),.int .i64 (o.n:Int),.complex .f64 o.z1 o.z2] 27)) (Var gb #[.int .i64 1,.slice (some ⟨gs,go,none⟩) 1 cp,.int .i64 (-1)] 233)) (cQ 289 2 (.slice (some ⟨ug,0,none⟩) 8 uc) 8 (wc Fr (yl ll) 8))) S w _:=hg0.then (aG (aG (aG (aG (fun S h=>aH (B':=Thr b t ov lv {x with wr:=.slice (some ⟨ug,0,none⟩) 8 uc} X) (fun S h=>(aA.begin h).put 18 (.slice (some ⟨ug,0,none⟩) 8 uc) (cs':=aM t ov lv {x with wr:=.slice (some ⟨ug,0,none⟩) 8 uc}) rfl) S h)))))
 refine rdy 16 fun K hK=>?_
 go_simp
 refine hK.out _ _ ⟨hg1.l.l.l.l.l.c 0 rfl,hg1.l.l.l.l.l.c 1 rfl,hg1.l.l.l.l.l.c 2 rfl,hg1.l.l.l.l.l.c 3 rfl,hg1.l.l.l.l.l.c 4 rfl,hg1.l.l.l.l.l.c 5 rfl,hg1.l.l.l.l.l.c 6 rfl,hg1.l.l.l.l.l.c 7 rfl,hg1.l.l.l.l.l.c 8 rfl,hg1.l.l.r.vi 2 0,hg1.l.r.vC 1 (.slice (some ⟨gs,go,none⟩) 1 cp)⟩ (fun hHeld=>?_)
 clear hK K hg0 d18 f18 hHeld
 generalize World.setCell _ _ _=w4 at*
 try simp only [Act.put,List.setIfInBounds_toArray,List.set_cons_zero,List.set_cons_succ]
 refine rdy 17 fun K hK=>?_
 go_simp
 refine hon hK ⟨hg1.l.l.l.l.l.c 0 rfl,hg1.l.l.l.l.l.c 1 rfl,hg1.l.l.l.l.l.c 2 rfl,hg1.l.l.l.l.l.c 3 rfl,hg1.l.l.l.l.l.c 4 rfl,hg1.l.l.l.l.l.c 5 rfl,hg1.l.l.l.l.l.c 6 rfl,hg1.l.l.l.l.l.c 7 rfl,hg1.l.l.l.l.l.c 8 rfl,hg1.l.l.r.vi 2 0,hg1.l.r.vC 1 (.slice (some ⟨gs,go,none⟩) 1 cp)⟩ fun hHeld=>?_
 clear hK K
 refine wpAnyH_done (by kernel_rfl) ?_ _
 have e1:=hg1.l.r.vC 1 (.slice (some ⟨gs,go,none⟩) 1 cp)
 have d17:=hg1.l.l.l.l.r.cC 17 x.got
 have f17:=hg1.l.l.l.l.r.fr 17
 have hg2:aA (Sep (Sep (Sep (Sep (Sep (aE A c q) (Thr b t ov lv {x with wr:=.slice (some ⟨ug,0,none⟩) 8 uc,got:=.slice (some ⟨gs,go,none⟩) 1 cp} X)) (Got (.slice (some ⟨gs,go,none⟩) 1 cp) Fr)) (Var vb #[.int .i64 1,.int .i64 (o.a:Int),.int .i64 0,.int .i64 (o.c:Int),.int .i64 (o.n:Int),.complex .f64 o.z1 o.z2] 27)) (Var gb #[.int .i64 1,.slice (some ⟨gs,go,none⟩) 1 cp,.int .i64 (-1)] 233)) (cQ 289 2 (.slice (some ⟨ug,0,none⟩) 8 uc) 8 (wc Fr (yl ll) 8))) S w _:=hg1.then (aG (aG (aG (aG (fun S h=>aH (B':=Thr b t ov lv {x with wr:=.slice (some ⟨ug,0,none⟩) 8 uc,got:=.slice (some ⟨gs,go,none⟩) 1 cp} X) (fun S h=>(aA.begin h).put 17 (.slice (some ⟨gs,go,none⟩) 1 cp) (cs':=aM t ov lv {x with wr:=.slice (some ⟨ug,0,none⟩) 8 uc,got:=.slice (some ⟨gs,go,none⟩) 1 cp}) rfl) S h)))))
 have d3:=hg2.l.l.l.l.r.ci 3 x.ph
 have f3:=hg2.l.l.l.l.r.fr 3
 have hg3:aA (Sep (Sep (Sep (Sep (Sep (aE A c q) (Thr b t ov lv {x with wr:=.slice (some ⟨ug,0,none⟩) 8 uc,got:=.slice (some ⟨gs,go,none⟩) 1 cp,ph:=2} X)) (Got (.slice (some ⟨gs,go,none⟩) 1 cp) Fr)) (Var vb #[.int .i64 1,.int .i64 (o.a:Int),.int .i64 0,.int .i64 (o.c:Int),.int .i64 (o.n:Int),.complex .f64 o.z1 o.z2] 27)) (Var gb #[.int .i64 1,.slice (some ⟨gs,go,none⟩) 1 cp,.int .i64 (-1)] 233)) (cQ 289 2 (.slice (some ⟨ug,0,none⟩) 8 uc) 8 (wc Fr (yl ll) 8))) S w _:=hg2.then (aG (aG (aG (aG (fun S h=>aH (B':=Thr b t ov lv {x with wr:=.slice (some ⟨ug,0,none⟩) 8 uc,got:=.slice (some ⟨gs,go,none⟩) 1 cp,ph:=2} X) (fun S h=>(aA.begin h).put 3 (.int .i64 2) (cs':=aM t ov lv {x with wr:=.slice (some ⟨ug,0,none⟩) 8 uc,got:=.slice (some ⟨gs,go,none⟩) 1 cp,ph:=2}) rfl) S h)))))
 have d11:=hg3.l.l.l.l.r.ci 11 x.at_
 have f11:=hg3.l.l.l.l.r.fr 11
 have hg4:aA (Sep (Sep (Sep (Sep (Sep (aE A c q) (Thr b t ov lv {x with wr:=.slice (some ⟨ug,0,none⟩) 8 uc,got:=.slice (some ⟨gs,go,none⟩) 1 cp,ph:=2,at_:=7} X)) (Got (.slice (some ⟨gs,go,none⟩) 1 cp) Fr)) (Var vb #[.int .i64 1,.int .i64 (o.a:Int),.int .i64 0,.int .i64 (o.c:Int),.int .i64 (o.n:Int),.complex .f64 o.z1 o.z2] 27)) (Var gb #[.int .i64 1,.slice (some ⟨gs,go,none⟩) 1 cp,.int .i64 (-1)] 233)) (cQ 289 2 (.slice (some ⟨ug,0,none⟩) 8 uc) 8 (wc Fr (yl ll) 8))) S w _:=hg3.then (aG (aG (aG (aG (fun S h=>aH (B':=Thr b t ov lv {x with wr:=.slice (some ⟨ug,0,none⟩) 8 uc,got:=.slice (some ⟨gs,go,none⟩) 1 cp,ph:=2,at_:=7} X) (fun S h=>(aA.begin h).put 11 (.int .i64 7) (cs':=aM t ov lv {x with wr:=.slice (some ⟨ug,0,none⟩) 8 uc,got:=.slice (some ⟨gs,go,none⟩) 1 cp,ph:=2,at_:=7}) rfl) S h)))))
 have hgf:=(hg4.drop (aU.both (aU.trans (aU.left _ _) (aU.left _ _)) (aU.refl _))).conv fun S w h=>aB.monoR (fun S h=>cX h (by decide)) h
 have HF:=zz hgf
 clear hg1 hg2 hg3 hg4 hgf
 go_wp2_with fail
 go_ret
 exact ⟨_,rfl,HF.out⟩
end
theorem op_words1 (w:World):Calls prog 267 #[.int .i64 1] w fun e w'=>e=.returned (.tuple #[.string ⟨#[110,101,119]⟩,.string ⟨#[97,107]⟩])∧Below w.heap.size w w':=by
 go_enter func267,ntmps267
 go_wp2_with fail
 go_quiet (fail)
 go_wp2_with fail
 go_ret2
 exact ⟨rfl,below_drewN ((Below.refl _ _).alloc (Nat.le_refl _) _) _⟩
theorem op_words3 (w:World):Calls prog 267 #[.int .i64 3] w fun e w'=>e=.returned (.tuple #[.string ⟨#[108,111,97,100]⟩,.string ⟨#[97,98,110]⟩])∧Below w.heap.size w w':=by
 go_enter func267,ntmps267
 go_wp2_with fail
 go_quiet (fail)
 go_wp2_with fail
 go_ret2
 exact ⟨rfl,below_drewN ((Below.refl _ _).alloc (Nat.le_refl _) _) _⟩
theorem op_words4 (w:World):Calls prog 267 #[.int .i64 4] w fun e w'=>e=.returned (.tuple #[.string ⟨#[115,116,111,114,101]⟩,.string ⟨#[97,110,98]⟩])∧Below w.heap.size w w':=by
 go_enter func267,ntmps267
 go_wp2_with fail
 go_quiet (fail)
 go_wp2_with fail
 go_ret2
 exact ⟨rfl,below_drewN ((Below.refl _ _).alloc (Nat.le_refl _) _) _⟩
theorem op_words7 (w:World):Calls prog 267 #[.int .i64 7] w fun e w'=>e=.returned (.tuple #[.string ⟨#[108,111,111,107]⟩,.string ⟨#[97,103]⟩])∧Below w.heap.size w w':=by
 go_enter func267,ntmps267
 go_wp2_with fail
 go_quiet (fail)
 go_wp2_with fail
 go_ret2
 exact ⟨rfl,below_drewN ((Below.refl _ _).alloc (Nat.le_refl _) _) _⟩
theorem op_words8 (w:World):Calls prog 267 #[.int .i64 8] w fun e w'=>e=.returned (.tuple #[.string ⟨#[115,101,116]⟩,.string ⟨#[103,98]⟩])∧Below w.heap.size w w':=by
 go_enter func267,ntmps267
 go_wp2_with fail
 go_quiet (fail)
 go_wp2_with fail
 go_ret2
 exact ⟨rfl,below_drewN ((Below.refl _ _).alloc (Nat.le_refl _) _) _⟩
theorem op_words11 (w:World):Calls prog 267 #[.int .i64 11] w fun e w'=>e=.returned (.tuple #[.string ⟨#[107,105,110,100]⟩,.string ⟨#[97,98]⟩])∧Below w.heap.size w w':=by
 go_enter func267,ntmps267
 go_wp2_with fail
 go_quiet (fail)
 go_wp2_with fail
 go_ret2
 exact ⟨rfl,below_drewN ((Below.refl _ _).alloc (Nat.le_refl _) _) _⟩
theorem op_words12 (w:World):Calls prog 267 #[.int .i64 12] w fun e w'=>e=.returned (.tuple #[.string ⟨#[110,117,109,98,101,114]⟩,.string ⟨#[97,122]⟩])∧Below w.heap.size w w':=by
 go_enter func267,ntmps267
 go_wp2_with fail
 go_quiet (fail)
 go_wp2_with fail
 go_ret2
 exact ⟨rfl,below_drewN ((Below.refl _ _).alloc (Nat.le_refl _) _) _⟩
theorem op_words13 (w:World):Calls prog 267 #[.int .i64 13] w fun e w'=>e=.returned (.tuple #[.string ⟨#[99,108,101,97,114]⟩,.string ⟨#[97]⟩])∧Below w.heap.size w w':=by
 go_enter func267,ntmps267
 go_wp2_with fail
 go_quiet (fail)
 go_wp2_with fail
 go_ret2
 exact ⟨rfl,below_drewN ((Below.refl _ _).alloc (Nat.le_refl _) _) _⟩
theorem dT (ob:Nat) (w:World):Calls prog 268 #[.pointer (some ⟨ob,0,none⟩),.int .i32 97] w fun e w'=>e=.returned (.pointer (some ⟨ob,1,none⟩))∧w=w':=by
 go_enter func268,ntmps268
 go_wp2_with fail
 go_ret
 exact ⟨rfl,rfl⟩
theorem hM (ob:Nat) (w:World):Calls prog 268 #[.pointer (some ⟨ob,0,none⟩),.int .i32 98] w fun e w'=>e=.returned (.pointer (some ⟨ob,2,none⟩))∧w=w':=by
 go_enter func268,ntmps268
 go_wp2_with fail
 go_ret
 exact ⟨rfl,rfl⟩
theorem op_field_g (ob:Nat) (w:World):Calls prog 268 #[.pointer (some ⟨ob,0,none⟩),.int .i32 103] w fun e w'=>e=.returned (.pointer (some ⟨ob,4,none⟩))∧w=w':=by
 go_enter func268,ntmps268
 go_wp2_with fail
 go_ret
 exact ⟨rfl,rfl⟩
end
end Go.Proofs.YtgcmiahhkalfmaaGreat
