import Derived.Test.YtgcmiahhkalfmaaGreatM43
import Derived.Test.YtgcmiahhkalfmaaGreatM44
set_option maxRecDepth 100000
set_option maxHeartbeats 8000000
set_option linter.unusedVariables false
set_option linter.unusedSimpArgs false
namespace Go.Proofs.YtgcmiahhkalfmaaGreat
section
open Go.Proofs.Tryz
open Go.RowKit
variable {A:CA} {c:Cf} {v:Lc} {l:List Bool} {Fr h i j k no t:Nat} {o:Nat→Opn} {S:Nat→Prop} {u:Opn} {q q':Sw.Q} {rs:Sw.Rs} {p p':Sw.T} {a:TA} {x:Tc} {X:aC} {ov:Value} {w w':World}
section
variable {b lg n:Nat} {l:Nat→Lc}
theorem eA (k:Nat) (h:u.kd=k):(u.r.kd:Int)=(k:Int):=by rw [←h];rfl
theorem lJ (hc:c.ok) (hs:c.shapes[0]? = some (false,c.refs)) (h:OpIn c u):CkOk A c u.r:=by
 intro S w hS
 have ha:=h.a
 have hb:=h.b
 have e:∀ k,u.kd=k→opc u.r=#[.int .i64 (k:Int),.int .i64 (u.a:Int),.int .i64 (u.b:Int),.int .i64 (u.c:Int),.int .i64 (u.n:Int),.complex .f64 (fl u.zk) (fl u.zi)]:=fun k hk=>by rw [←hk];rfl
 rcases h.kd with k|k|k|k|k|k|k|k<;>rw [e _ k]
 · rw [h.b1 k];exact op_check1 hc ha hs hS
 · exact op_check3 hc ha hb hS
 · exact op_check4 hc ha hb hS
 · exact op_check7 hc ha (h.n (.inl k)) hS
 · exact op_check8 hc hb (h.n (.inr k)) hS
 · exact op_check11 hc ha hb hS
 · exact op_check12 hc ha hS
 · exact op_check13 hc ha hS
theorem opE_is (v:Lc):opE v=if v.ref=false then 4 else if v.w=Sw.wN then 3 else 0:=by
 unfold opE Lc.w Sw.wN
 cases v.ref with
 | false=>simp
 | true=>
  by_cases h1:v.k=0<;>by_cases h2:v.i=1<;>simp [h1,h2]
theorem hJ (h:OpIn c u) (hl:LocS n l) (hn:n=c.locals):OpOk (aT b t ov lg n x l X) b u.r (Sw.opEr u l):=by
 intro S w hS
 have ha:u.a<n:=hn▸h.a
 have hb:u.b<n:=hn▸h.b
 unfold Sw.opEr Sw.must
 rcases h.kd with k|k|k|k|k|k|k|k
 · simp only [k];exact eR (eA _ k) (.inl rfl) hS
 · simp only [k]
   have:=jP (j:=u.b) (eA _ k) (.inl rfl) rfl hb (hl _ hb) hS
   rw [opE_is] at this;simpa using this
 · simp only [k]
   have:=act_operands4 (o:=u.r) (j:=u.a) k rfl ha (hl _ ha) hS
   rw [opE_is] at this;simpa using this
 · simp only [k];exact eR (eA _ k) (.inr (.inl rfl)) hS
 · simp only [k]
   have:=act_operands8 (o:=u.r) (j:=u.b) k rfl hb (hl _ hb) hS
   cases hr:(l u.b).ref<;>rw [hr] at this<;>simpa [hr] using this
 · simp only [k]
   have:=jP (j:=u.b) (eA _ k) (.inr rfl) rfl hb (hl _ hb) hS
   rw [opE_is] at this;simpa using this
 · simp only [k];exact eR (eA _ k) (.inr (.inr (.inl rfl))) hS
 · simp only [k];exact eR (eA _ k) (.inr (.inr (.inr rfl))) hS
theorem pl_no (h:u.kd=1∨u.kd=3∨u.kd=4∨u.kd=7∨u.kd=8∨u.kd=11):PlOk (aT b t ov lg n x l X) b u.r false 0 0 false:=by
 intro S w hS
 rcases h with k|k|k|k|k|k<;>exact act_plainN (eA _ k) (by simp) hS
theorem pl_12 (k:u.kd=12):PlOk (aT b t ov lg n x l X) b u.r false (fl u.zk) (fl u.zi) true:=fun S w hS=>act_plain12 (o:=u.r) k hS
theorem pl_13 (k:u.kd=13):PlOk (aT b t ov lg n x l X) b u.r true (fl 0) (fl 1) true:=fun S w hS=>by
 have:=act_plain13 (o:=u.r) k hS
 rw [←cx01] at this;exact this
theorem kO (hph:p.ph=2) (hat:p.at_=0) (ok:eH p x):ThK c p x=Emp:=bB (by simp [hat]) (by simp [hph])
theorem ts_err (P:dB c q p t no o) (hph:p.ph=2) (hat:p.at_=0) (hn:p.nx<no) (he:Sw.opEr (o p.nx) p.l≠0):
 bG A c a t no o q p q (p.er (Sw.opEr (o p.nx) p.l)).1 (p.er (Sw.opEr (o p.nx) p.l)).2:=
 bQ hph hn (.inl ⟨hat,rfl,rfl⟩) fun x ok S w hx=>by
  rw [kO hph hat ok] at hx
  refine (act_startsF (x:=x) (o:=(o p.nx).r) rfl he (lJ P.hc P.sh (P.ho _ hn)) (hJ (P.ho _ hn) P.l rfl) (by rw [ok.ph,hph];decide) (by rw [ok.nx];have:=P.hno;omega) hx).mono ?_
  rintro e w' ⟨he,hg⟩
  refine ⟨(x.next,Emp),⟨x.own,?_⟩,kY ok rfl rfl rfl rfl rfl rfl rfl rfl,hg⟩
  rw [he,ok.nx];unfold rsV Rs.v Sw.T.er Sw.w0;simp only [fl0]
theorem ts_plain (P:dB c q p t no o) (hph:p.ph=2) (hat:p.at_=0) (hn:p.nx<no) (h0:Sw.opEr (o p.nx) p.l=0) (hP:∀ x X,PlOk (aT a.b t (a.ov no) a.lg c.locals x p.l X) a.b (o p.nx).r v.ref (fl v.k) (fl v.i) true):
 bG A c a t no o q p q (p.lay (o p.nx).a v).1 (p.lay (o p.nx).a v).2:=
 bQ hph hn (.inl ⟨hat,rfl,rfl⟩) fun x ok S w hx=>by
  rw [kO hph hat ok] at hx
  refine (act_startsP (x:=x) (o:=(o p.nx).r) rfl (lJ P.hc P.sh (P.ho _ hn)) (h0▸hJ (P.ho _ hn) P.l rfl) (hP _ _) (P.ho _ hn).a P.hc.locals.2 (by rw [ok.ph,hph]) (by rw [ok.nx];have:=P.hno;omega) hx).mono ?_
  rintro e w' ⟨he,hg⟩
  refine ⟨(x.next,Emp),⟨x.own,?_⟩,kY ok rfl rfl rfl rfl rfl rfl rfl rfl,hg⟩
  rw [he,ok.nx];rfl
theorem opEr0 (h:u.kd=1∨u.kd=7∨u.kd=12∨u.kd=13):Sw.opEr u l=0:=by
 unfold Sw.opEr Sw.must;rcases h with k|k|k|k<;>simp [k]
theorem ts_num (P:dB c q p t no o) (hph:p.ph=2) (hat:p.at_=0) (hn:p.nx<no) (hk:(o p.nx).kd=12):
 bG A c a t no o q p q (p.lay (o p.nx).a ⟨false,(o p.nx).zk,(o p.nx).zi⟩).1 (p.lay (o p.nx).a ⟨false,(o p.nx).zk,(o p.nx).zi⟩).2:=
 ts_plain P hph hat hn (opEr0 (by simp [hk])) fun x X=>pl_12 hk
theorem ts_clear (P:dB c q p t no o) (hph:p.ph=2) (hat:p.at_=0) (hn:p.nx<no) (hk:(o p.nx).kd=13):
 bG A c a t no o q p q (p.lay (o p.nx).a ⟨true,0,1⟩).1 (p.lay (o p.nx).a ⟨true,0,1⟩).2:=
 ts_plain P hph hat hn (opEr0 (by simp [hk])) fun x X=>pl_13 hk
theorem ix_ref (e:v.w=Sw.wR h):ixI v.k v.i=h:=by
 have e1:v.k=h+1:=congrArg Sw.Wd.k e
 have e2:v.i=1:=congrArg Sw.Wd.i e
 rw [e1,e2];simp [ixI,ixB]
theorem ts_kind (P:dB c q p t no o) (hph:p.ph=2) (hat:p.at_=0) (hn:p.nx<no) (hk:(o p.nx).kd=11) (h0:Sw.opEr (o p.nx) p.l=0) (hw:(p.l (o p.nx).b).w=Sw.wR h) (hh:h<c.frags) (hm:q.m (h*8+1)=⟨0,1⟩):
 bG A c a t no o q p q (p.lay (o p.nx).a ⟨false,0,0⟩).1 (p.lay (o p.nx).a ⟨false,0,0⟩).2:=
 bQ hph hn (.inl ⟨hat,rfl,rfl⟩) fun x ok S w hx=>by
  rw [kO hph hat ok] at hx
  have hI:=P.ho _ hn
  refine (act_startsC (α:=Unit) (rs:=fun _=>⟨x.nx,x.own,0,false,fl 0,fl 0,true⟩) (O':=fun _=>Sep (aE A c q) (aT a.b t (a.ov no) a.lg c.locals x.next (jL p.l (o p.nx).a ⟨false,0,0⟩) (Sep (Ops (a.ov no) no o) Emp))) (x:=x) (o:=(o p.nx).r) (eA _ hk) (.inr ⟨rfl,rfl⟩) (lJ P.hc P.sh hI) (h0▸hJ hI P.l rfl) (pl_no (by simp [hk]))
   (fun w=>aN.ofGoes (v:=Rs.v ⟨x.nx,x.own,0,false,fl 0,fl 0,true⟩) fun S hS=>act_tells (x:=x) (o:=(o p.nx).r) P.hc hh P.sh hm hk rfl hI.b (P.l _ hI.b) (ix_ref hw) hI.a P.hc.locals.2 (by rw [ok.ph,hph]) (by rw [ok.nx];have:=P.hno;omega) hS) hx).mono ?_
  rintro e w' ⟨_,he,hg⟩
  refine ⟨(x.next,Emp),⟨x.own,?_⟩,kY ok rfl rfl rfl rfl rfl rfl rfl rfl,hg⟩
  rw [he,ok.nx];rfl
theorem asks_all (P:dB c q p 0 no o) (hph:p.ph=2) (hat:p.at_=0) (hn:p.nx<no) (hk:(o p.nx).kd=1) (hl:q.ln=none) (ok:eH p x) (hx:(Sep (aE A c q) (ThP c a 0 no o x p.l (ThK c p x))).at_ S w):
 Calls prog 149 #[.pointer (some ⟨a.b,0,none⟩),.pointer (some ⟨A.b,0,none⟩),.agg (opc (o p.nx).r)] w fun e w'=>∃ y:Value×Value,e=.returned (Rs.v ⟨0,0,0,false,0,0,false⟩)∧
  aA (askO2 A c q (p.sn != Sw.both p.st) (fun x=>Thr a.b 0 (a.ov no) (.slice (some ⟨a.lg,0,none⟩) c.locals c.locals) x (Sep (bV a.lg (c.locals*2) 39 (cG p.l)) (Sep (Ops (a.ov no) no o) Emp))) x y.1 y.2) S w w':=by
 rw [kO hph hat ok] at hx
 have hI:=P.ho _ hn
 have es:(p.sn != Sw.both p.st)=!(x.sn==bth x.st):=by rw [ok.sn,ok.st];rfl
 rw [es]
 exact act_startsC (α:=Value×Value) (rs:=fun _=>⟨0,0,0,false,0,0,false⟩) (O':=fun y=>askO2 A c q (!(x.sn==bth x.st)) (fun x=>Thr a.b 0 (a.ov no) (.slice (some ⟨a.lg,0,none⟩) c.locals c.locals) x (Sep (bV a.lg (c.locals*2) 39 (cG p.l)) (Sep (Ops (a.ov no) no o) Emp))) x y.1 y.2) (x:=x) (o:=(o p.nx).r) (eA _ hk) (.inl ⟨rfl,rfl⟩) (lJ P.hc P.sh hI)
  ((opEr0 (u:=o p.nx) (l:=p.l) (.inl hk))▸hJ hI P.l rfl) (pl_no (.inl hk))
  (fun w S hS=>(act_asks (x:=x) (o:=(o p.nx).r) P.hc P.sh hk (hI.b1 hk) hI.a hl hS).mono fun e w' ⟨v,u,he,hg⟩=>⟨(v,u),he,hg⟩) hx
theorem ts_ask (P:dB c q p 0 no o) (hph:p.ph=2) (hat:p.at_=0) (hn:p.nx<no) (hk:(o p.nx).kd=1) (hl:q.ln=none) (hi:Sw.topF q.fr c.frags=some i):
 bG A c a 0 no o q p (q.take i (p.sn != Sw.both p.st)) {p with at_:=7,got:=i,wk:=0} Sw.rs0:=
 bQ hph hn (.inl ⟨hat,rfl,rfl⟩) fun x ok S w hx=>by
  refine (asks_all P hph hat hn hk hl ok hx).mono ?_
  rintro e w' ⟨⟨v,u⟩,he,hg⟩
  unfold askO2 at hg
  rw [hi] at hg
  refine ⟨({x with wr:=u,got:=v,ph:=2,at_:=7},Sep (Got v i) (Seq 2 u 8 (wd i (yl c.refs) 0 8))),⟨0,?_⟩,⟨⟨hph.symm,ok.st,ok.sn,ok.nx,ok.pc,ok.seen,fun _=>rfl,?_,?_,?_⟩,?_⟩,?_⟩
  · rw [he];unfold rsV Rs.v Sw.rs0 Sw.w0;simp only [fl0];rfl
  · simp
  · simp
  · simp
  · simp [ThK,hph]
  · rw [←wd_all]
    exact hg.conv fun S w h=>th_in (aB.assoc (aB.monoL (fun _ h=>aB.monoL (fun _ h=>fU (th_out h)) h) h))
theorem ts_wait (P:dB c q p 0 no o) (hph:p.ph=2) (hat:p.at_=0) (hn:p.nx<no) (hk:(o p.nx).kd=1) (hl:q.ln=none) (hi:Sw.topF q.fr c.frags=none):
 bG A c a 0 no o q p {q with ln:=some ⟨0,0,false,0⟩} {p with ph:=3,pc:=5} Sw.rs0:=
 bQ hph hn (.inl ⟨hat,rfl,rfl⟩) fun x ok S w hx=>by
  refine (asks_all P hph hat hn hk hl ok hx).mono ?_
  rintro e w' ⟨⟨v,u⟩,he,hg⟩
  unfold askO2 at hg
  rw [hi] at hg
  refine ⟨({x with ph:=3,pc:=5},Emp),⟨0,?_⟩,⟨⟨rfl,ok.st,ok.sn,ok.nx,rfl,?_,?_,?_,?_,?_⟩,bB (by simp) (by simp)⟩,hg⟩
  · rw [he];unfold rsV Rs.v Sw.rs0 Sw.w0;simp only [fl0];rfl
  all_goals simp
theorem getD_some {l:List Bool} (h:k<l.length):l[k]? = some (l.getD k false):=by
 rw [List.getD_eq_getElem?_getD];simp [h]
theorem prog_ok (P:dB c q p t no o) (hn:p.nx<no) (hk:(o p.nx).kd=3∧(o p.nx).b=j∨(o p.nx).kd=4∧(o p.nx).a=j) (hw:(p.l j).w=Sw.wR Fr) (hF:Fr<c.frags) (w:World):
 aN prog 223 #[.pointer (some ⟨A.b,0,none⟩),.agg (opc (o p.nx).r),.func (.func 224) #[.pointer (some ⟨b,0,none⟩)] #[]] w (Sep (aE A c q) (aT b t ov lg c.locals x p.l X)) (fun (y:Nat×Nat×Nat) e=>e=.returned (.pointer (some ⟨y.1,0,none⟩)))
  (fun y=>Sep (Sep (aE A c q) (aT b t ov lg c.locals x p.l X)) (dK y.1 c y.2.1 y.2.2 ⟨Fr,(o p.nx).r.n,0,-1,false,0⟩)):=by
 intro S hS
 have hI:=P.ho _ hn
 have hix:(ixI (p.l j).k (p.l j).i:Int)=(Fr:Int):=by rw [ix_ref hw]
 rcases hk with ⟨k,kj⟩|⟨k,kj⟩
 · have hj:j<c.locals:=kj▸hI.b
   exact (act_program3 (x:=x) (o:=(o p.nx).r) P.hc hF k kj hj (P.l _ hj) hix hS).mono fun e w' ⟨fb,g',cap',he,hg⟩=>⟨(fb,g',cap'),he,hg⟩
 · have hj:j<c.locals:=kj▸hI.a
   exact (act_program4 (x:=x) (o:=(o p.nx).r) P.hc hF k kj hj (P.l _ hj) hix hS).mono fun e w' ⟨fb,g',cap',he,hg⟩=>⟨(fb,g',cap'),he,hg⟩
theorem ts_load (P:dB c q p t no o) (hph:p.ph=2) (hat:p.at_=0) (hn:p.nx<no) (hk:(o p.nx).kd=3) (h0:Sw.opEr (o p.nx) p.l=0) (hw:(p.l (o p.nx).b).w=Sw.wR h) (hh:h<c.frags) (hm:q.m (h*8+1)=⟨0,1⟩):
 bG A c a t no o q p q {p with ad:=c.fw h (2+(o p.nx).n),rf:=c.refs.getD (o p.nx).n false,at_:=2} Sw.rs0:=
 bQ hph hn (.inl ⟨hat,rfl,rfl⟩) fun x ok S w hx=>by
  rw [kO hph hat ok] at hx
  have hI:=P.ho _ hn
  refine (act_startsS (Fr:=h) (rv:=⟨0,0,0,false,0,0,false⟩) (O2:=fun fb=>Sep (aE A c q) (aT a.b t (a.ov no) a.lg c.locals {x with f:=.pointer (some ⟨fb,0,none⟩),at_:=2,addr:=((h*8+(2+(o p.nx).n):Nat):Int),ref:=c.refs.getD (o p.nx).n false} p.l (Sep (Ops (a.ov no) no o) Emp))) (x:=x) (o:=(o p.nx).r) (eA _ hk) (.inl rfl) (lJ P.hc P.sh hI) (h0▸hJ hI P.l rfl) (pl_no (by simp [hk]))
   (prog_ok P hn (.inl ⟨hk,rfl⟩) hw hh) (fun fb g' cap' w S hS=>act_finds3 (x:={x with f:=.pointer (some ⟨fb,0,none⟩)}) (o:=(o p.nx).r) P.hc hh P.sh (getD_some (hI.n3 (.inl hk))) hm hk rfl hS) hx).mono ?_
  rintro e w' ⟨fb,he,hg⟩
  refine ⟨({x with f:=.pointer (some ⟨fb,0,none⟩),at_:=2,addr:=((h*8+(2+(o p.nx).n):Nat):Int),ref:=c.refs.getD (o p.nx).n false},Emp),⟨0,?_⟩,⟨⟨ok.ph,ok.st,ok.sn,ok.nx,ok.pc,ok.seen,fun _=>rfl,fun _ _ _=>⟨rfl,rfl⟩,?_,?_⟩,bB (by simp) (by simp [hph])⟩,hg⟩
  · rw [he];unfold rsV Rs.v Sw.rs0 Sw.w0;simp only [fl0];rfl
  · simp
  · simp
theorem ts_store (P:dB c q p t no o) (hph:p.ph=2) (hat:p.at_=0) (hn:p.nx<no) (hk:(o p.nx).kd=4) (h0:Sw.opEr (o p.nx) p.l=0) (hr:(p.l (o p.nx).b).ref=c.refs.getD (o p.nx).n false) (hw:(p.l (o p.nx).a).w=Sw.wR h) (hh:h<c.frags) (hm:q.m (h*8+1)=⟨0,1⟩):
 bG A c a t no o q p q (({p with ad:=c.fw h (2+(o p.nx).n),rf:=c.refs.getD (o p.nx).n false}:Sw.T).chooses (o p.nx)) Sw.rs0:=
 bQ hph hn (.inl ⟨hat,rfl,rfl⟩) fun x ok S w hx=>by
  rw [kO hph hat ok] at hx
  have hI:=P.ho _ hn
  obtain ⟨av,hav⟩:∃ av:Int,(if c.refs.getD (o p.nx).n false&&shd x.st then (3:Int) else 6)=av:=⟨_,rfl⟩
  have hav2:(({p with ad:=c.fw h (2+(o p.nx).n),rf:=c.refs.getD (o p.nx).n false}:Sw.T).chooses (o p.nx)).at_=av:=by rw [←hav,ok.st];rfl
  have h36:av=3∨av=6:=by rw [←hav];split<;>simp
  refine (act_startsS (Fr:=h) (rv:=⟨0,0,0,false,0,0,false⟩) (O2:=fun fb=>Sep (aE A c q) (aT a.b t (a.ov no) a.lg c.locals {x with f:=.pointer (some ⟨fb,0,none⟩),at_:=av,addr:=((h*8+(2+(o p.nx).n):Nat):Int),ref:=c.refs.getD (o p.nx).n false,w1:=fl (p.l (o p.nx).b).k,w2:=fl (p.l (o p.nx).b).i} p.l (Sep (Ops (a.ov no) no o) Emp))) (x:=x) (o:=(o p.nx).r) (eA _ hk) (.inr rfl) (lJ P.hc P.sh hI) (h0▸hJ hI P.l rfl) (pl_no (by simp [hk]))
   (prog_ok P hn (.inr ⟨hk,rfl⟩) hw hh) (fun fb g' cap' w S hS=>by rw [←hav];exact act_finds4 (x:={x with f:=.pointer (some ⟨fb,0,none⟩)}) (o:=(o p.nx).r) P.hc hh P.sh (getD_some (hI.n3 (.inr hk))) hm hk hI.b hr rfl hS) hx).mono ?_
  rintro e w' ⟨fb,he,hg⟩
  refine ⟨({x with f:=.pointer (some ⟨fb,0,none⟩),at_:=av,addr:=((h*8+(2+(o p.nx).n):Nat):Int),ref:=c.refs.getD (o p.nx).n false,w1:=fl (p.l (o p.nx).b).k,w2:=fl (p.l (o p.nx).b).i},Emp),⟨0,?_⟩,⟨⟨ok.ph,ok.st,ok.sn,ok.nx,ok.pc,ok.seen,fun _=>hav2.symm,fun _ _ _=>⟨rfl,rfl⟩,fun _ _ _=>⟨rfl,rfl⟩,?_⟩,bB (by rw [hav2];omega) (by rw [show (({p with ad:=c.fw h (2+(o p.nx).n),rf:=c.refs.getD (o p.nx).n false}:Sw.T).chooses (o p.nx)).ph=p.ph from rfl];simp [hph])⟩,hg⟩
  · rw [he];unfold rsV Rs.v Sw.rs0 Sw.w0;simp only [fl0];rfl
  · rw [hav2];intro _ h4;omega
theorem ts_see (P:dB c q p t no o) (hph:p.ph=2) (hat:p.at_=0) (hn:p.nx<no) (hk:(o p.nx).kd=7) (h63:(q.m (c.gw (o p.nx).n)).k≤63) (h1:(q.m (c.gw (o p.nx).n)).i=1):
 bG A c a t no o q p q (p.lay (o p.nx).a ⟨true,(q.m (c.gw (o p.nx).n)).k,(q.m (c.gw (o p.nx).n)).i⟩).1 (p.lay (o p.nx).a ⟨true,(q.m (c.gw (o p.nx).n)).k,(q.m (c.gw (o p.nx).n)).i⟩).2:=
 bQ hph hn (.inl ⟨hat,rfl,rfl⟩) fun x ok S w hx=>by
  rw [kO hph hat ok] at hx
  have hI:=P.ho _ hn
  have hg:=hI.n (.inl hk)
  have had:c.gw (o p.nx).n<c.words:=by unfold Cf.gw Cf.words;omega
  refine (iW (O2:=Emp) (rv:=⟨x.nx,x.own,0,true,fl (q.m (c.gw (o p.nx).n)).k,fl (q.m (c.gw (o p.nx).n)).i,true⟩) (x:=x) (o:=(o p.nx).r) (eA _ hk) P.hc hg (lJ P.hc P.sh hI) ((opEr0 (u:=o p.nx) (l:=p.l) (.inr (.inl hk)))▸hJ hI P.l rfl) (pl_no (by simp [hk]))
   (.inl ⟨rfl,fun w S hS=>act_reads (x:={x with addr:=((c.gw (o p.nx).n:Nat):Int),ref:=true}) (o:=(o p.nx).r) P.hc rfl had rfl h63 (by omega) (fun _=>h1) hI.a P.hc.locals.2 (by rw [←hph];exact ok.ph) (by have:=P.hno;have:=ok.nx;simp only;omega) hS⟩) hx).mono ?_
  rintro e w' ⟨he,hg⟩
  refine ⟨(Tc.next {x with addr:=((c.gw (o p.nx).n:Nat):Int),ref:=true},Emp),⟨x.own,?_⟩,kY ok rfl rfl rfl rfl rfl rfl rfl rfl,hg⟩
  rw [he,ok.nx];rfl
theorem ts_setOld (P:dB c q p t no o) (hph:p.ph=2) (hat:p.at_=0) (hn:p.nx<no) (hk:(o p.nx).kd=8) (h0:Sw.opEr (o p.nx) p.l=0) (hs:Sw.shades p.st=true) (h63:(q.m (c.gw (o p.nx).n)).k≤63) (h1:(q.m (c.gw (o p.nx).n)).i=1):
 bG A c a t no o q p q (({p with ad:=c.gw (o p.nx).n,rf:=true,w:=(p.l (o p.nx).b).w}:Sw.T).olds q.m) Sw.rs0:=
 bQ hph hn (.inl ⟨hat,rfl,rfl⟩) fun x ok S w hx=>by
  rw [kO hph hat ok] at hx
  have hI:=P.ho _ hn
  have hgn:=hI.n (.inr hk)
  have hl:=P.l _ hI.b
  have had:c.gw (o p.nx).n<c.words:=by unfold Cf.gw Cf.words;omega
  have hv:q.m (c.gw (o p.nx).n)=⟨(q.m (c.gw (o p.nx).n)).k,1⟩:=by rw [←h1]
  have hsx:shd x.st=true:=by rw [ok.st];exact hs
  have ea:olA (q.m (c.gw (o p.nx).n)).k (p.l (o p.nx).b).k (p.l (o p.nx).b).i x.st=(({p with ad:=c.gw (o p.nx).n,rf:=true,w:=(p.l (o p.nx).b).w}:Sw.T).olds q.m).at_:=by
   have e1:=behind_is (p.l (o p.nx).b).w p.st
   unfold olA Sw.T.olds
   simp only [ix_some,h1,ok.st,←e1];rfl
  have e46:(({p with ad:=c.gw (o p.nx).n,rf:=true,w:=(p.l (o p.nx).b).w}:Sw.T).olds q.m).at_≠7∧(({p with ad:=c.gw (o p.nx).n,rf:=true,w:=(p.l (o p.nx).b).w}:Sw.T).olds q.m).at_≠8:=by
   unfold Sw.T.olds Sw.behind;simp only;constructor<;>(split<;>(try split)<;>omega)
  refine (iW (O2:=Sep (aE A c q) (aT a.b t (a.ov no) a.lg c.locals {x with addr:=((c.gw (o p.nx).n:Nat):Int),ref:=true,at_:=3,w1:=fl (p.l (o p.nx).b).k,w2:=fl (p.l (o p.nx).b).i} p.l (Sep (Ops (a.ov no) no o) Emp))) (rv:=⟨0,0,0,false,0,0,false⟩) (x:=x) (o:=(o p.nx).r) (eA _ hk) P.hc hgn (lJ P.hc P.sh hI) (h0▸hJ hI P.l rfl) (pl_no (by simp [hk]))
   (.inr ⟨rfl,fun w=>aJ.r fun S hS=>?_,fun w S hS=>iV (x:={x with addr:=((c.gw (o p.nx).n:Nat):Int),ref:=true,at_:=3,w1:=fl (p.l (o p.nx).b).k,w2:=fl (p.l (o p.nx).b).i}) P.hc rfl rfl had hv h63 hl.1 hl.2 rfl rfl hS⟩) hx).mono ?_
  · have:=iX (x:={x with addr:=((c.gw (o p.nx).n:Nat):Int),ref:=true}) (o:=(o p.nx).r) rfl hI.b hS
    simp only [hsx,Bool.and_self,if_true] at this
    exact this
  · rintro e w' ⟨he,hg⟩
    refine ⟨({x with addr:=((c.gw (o p.nx).n:Nat):Int),ref:=true,at_:=olA (q.m (c.gw (o p.nx).n)).k (p.l (o p.nx).b).k (p.l (o p.nx).b).i x.st,w1:=fl (p.l (o p.nx).b).k,w2:=fl (p.l (o p.nx).b).i,o1:=fl (q.m (c.gw (o p.nx).n)).k,o2:=fl 1},Emp),⟨0,?_⟩,⟨⟨ok.ph,ok.st,ok.sn,ok.nx,ok.pc,ok.seen,fun _=>ea,fun _ _ _=>⟨rfl,rfl⟩,fun _ _ _=>⟨rfl,rfl⟩,fun _ _=>⟨rfl,?_⟩⟩,bB (by rintro ⟨_,h|h⟩;exact e46.1 h;exact e46.2 h) (by rw [show (({p with ad:=c.gw (o p.nx).n,rf:=true,w:=(p.l (o p.nx).b).w}:Sw.T).olds q.m).ph=p.ph from rfl];simp [hph])⟩,hg⟩
    · rw [he];unfold rsV Rs.v Sw.rs0 Sw.w0;simp only [fl0];rfl
    · show fl 1=fl (q.m (c.gw (o p.nx).n)).i
      rw [h1]
theorem ts_setNow (P:dB c q p t no o) (hph:p.ph=2) (hat:p.at_=0) (hn:p.nx<no) (hk:(o p.nx).kd=8) (h0:Sw.opEr (o p.nx) p.l=0) (hs:Sw.shades p.st=false):
 bG A c a t no o q p {q with m:=Sw.set q.m (c.gw (o p.nx).n) (p.l (o p.nx).b).w} p.ends.1 p.ends.2:=
 bQ hph hn (.inl ⟨hat,rfl,rfl⟩) fun x ok S w hx=>by
  rw [kO hph hat ok] at hx
  have hI:=P.ho _ hn
  have hgn:=hI.n (.inr hk)
  have had:c.gw (o p.nx).n<c.words:=by unfold Cf.gw Cf.words;omega
  have hsx:shd x.st=false:=by rw [ok.st];exact hs
  refine (iW (O2:=Sep (aE A c q) (aT a.b t (a.ov no) a.lg c.locals {x with addr:=((c.gw (o p.nx).n:Nat):Int),ref:=true,at_:=6,w1:=fl (p.l (o p.nx).b).k,w2:=fl (p.l (o p.nx).b).i} p.l (Sep (Ops (a.ov no) no o) Emp))) (rv:=⟨x.nx,x.own,0,false,0,0,true⟩) (x:=x) (o:=(o p.nx).r) (eA _ hk) P.hc hgn (lJ P.hc P.sh hI) (h0▸hJ hI P.l rfl) (pl_no (by simp [hk]))
   (.inr ⟨rfl,fun w=>aJ.r fun S hS=>?_,fun w S hS=>gM (x:={x with addr:=((c.gw (o p.nx).n:Nat):Int),ref:=true,at_:=6,w1:=fl (p.l (o p.nx).b).k,w2:=fl (p.l (o p.nx).b).i}) P.hc rfl rfl had rfl rfl (by rw [←hph];exact ok.ph) (by have:=P.hno;have:=ok.nx;simp only;omega) hS⟩) hx).mono ?_
  · have:=iX (x:={x with addr:=((c.gw (o p.nx).n:Nat):Int),ref:=true}) (o:=(o p.nx).r) rfl hI.b hS
    simp only [hsx,Bool.and_false] at this
    exact this
  · rintro e w' ⟨he,hg⟩
    refine ⟨(Tc.next {x with addr:=((c.gw (o p.nx).n:Nat):Int),ref:=true,at_:=6,w1:=fl (p.l (o p.nx).b).k,w2:=fl (p.l (o p.nx).b).i},Emp),⟨x.own,?_⟩,kY ok rfl rfl rfl rfl rfl rfl rfl rfl,hg⟩
    rw [he,ok.nx];unfold rsV Rs.v Sw.T.ends Sw.w0;simp only [fl0]
end
end
section
open Go.RowKit
open Sw
variable {st:Int} {v:Lc} {j no t:Nat} {l:Nat→Lc} {nos:Nat→Nat} {os:Nat→Nat→Opn} {o:Nat→Opn} {D:Nat→Prop} {ps:Nat→Sw.T} {rs:Sw.Rs} {p p':Sw.T}
section
variable {q:Q} {y:Y} {w:Wd}
theorem cS_ok:cS.ok:=by
 refine ⟨by decide,by decide,by decide,by decide,by decide,by decide,by decide,by decide,?_⟩
 intro s hs
 simp [cS] at hs
 rcases hs with rfl|rfl|rfl<;>simp
theorem OkW.bd (h:OkW q y w):w.i=1∧w.k≤24:=by
 rcases h with rfl|⟨i,rfl,h⟩
 · exact ⟨rfl,by decide⟩
 · have:=h.1;exact ⟨rfl,by simp [wR];omega⟩
theorem NumW.bd (h:NumW w):w.i≤1∧w.k≤60:=by
 rcases h with rfl|h
 · decide
 · omega
theorem lcs_of (h:∀ j,j<4→LcOk q y (p.l j)):LocS cS.locals p.l:=by
 intro j hj
 have h:=h j hj
 cases hr:(p.l j).ref with
 | true=>have:=OkW.bd (h.1 hr);simp [Lc.w] at this;omega
 | false=>have:=NumW.bd (h.2 hr);simp [Lc.w] at this;omega
theorem opin_of {o:Opn} (h:Sw.OpOk o):OpIn cS o where
 kd:=by have:=h.kd;omega
 a:=h.a
 b:=h.b
 b1:=h.b1
 n:=h.n7
 n3:=fun k=>k.elim (fun k=>by rw [h.n3 k];decide) h.n4
theorem inv_pre (I:Sw.Inv nos os D q y ps) (ok:∀ t,t<2→∀ i,i<nos t→Sw.OpOk (os t i)) (ht:t<2) (hno:nos t≤1000):dB cS q (ps t) t (nos t) (os t) where
 hc:=cS_ok
 sh:=rfl
 ht:=ht
 fr:=by decide
 hno:=hno
 l:=lcs_of (I.t t ht).l
 hu:=fun i hi hd=>by
  rcases I.b.tab i hi with h|h
  · rw [h.2.2] at hd;simp at hd
  · exact h.1
 pl:=I.b.pl2
 ho:=fun i hi=>opin_of (ok t ht i hi)
theorem st_nn (C:Cy q y) (H:Hs y t st):0≤st∧st≤4:=by
 have h:=C.st
 have h0:=H.s0;have h2:=H.s2;have h3:=H.s3;have h4:=H.s4;have h5:=H.s5;have h6:=H.s6;have h7:=H.s7;have h8:=H.s8
 have:y.st=0∨y.st=1∨y.st=2∨y.st=3∨y.st=4∨y.st=5∨y.st=6∨y.st=7∨y.st=8∨y.st=9∨y.st=10:=by omega
 rcases this with e|e|e|e|e|e|e|e|e|e|e
 · have:=h0 (by omega);omega
 · have:=h0 (by omega);omega
 · have:=(h2 e).1;omega
 · have:=(h3 e).1;omega
 · have:=(h4 e).1;omega
 · have:=h5 e;omega
 · by_cases ha:y.at_=1
   · have:=((h6 e).2 ha).1;omega
   · have:=(h6 e).1 ha;omega
 · have:=h7 e;omega
 · have:=(h8 e).1;omega
 · have:=h0 (by omega);omega
 · have:=h0 (by omega);omega
theorem qst_nn (C:Cy q y):0≤q.st∧q.st≤4:=by
 have h:=C.st
 have h0:=C.h0;have h2:=C.h2;have h3:=C.h3;have h4:=C.h4;have h5:=C.h5;have h6:=C.h6;have h7:=C.h7
 have:y.st=0∨y.st=1∨y.st=2∨y.st=3∨y.st=4∨y.st=5∨y.st=6∨y.st=7∨y.st=8∨y.st=9∨y.st=10:=by omega
 rcases this with e|e|e|e|e|e|e|e|e|e|e
 · have:=h0 (by omega);omega
 · have:=h0 (by omega);omega
 · have:=(h2 e).1;omega
 · have:=(h3 e).1;omega
 · have:=(h4 e).1;omega
 · have:=(h5 e).1;omega
 · rcases h6 e with h|h<;>omega
 · have:=h7 e;omega
 · have:=h0 (by omega);omega
 · have:=h0 (by omega);omega
 · have:=h0 (by omega);omega
theorem lc_ref (h:LcOk q y v) (hr:v.ref=true) (hn:v.w≠wN):∃ i,v.w=wR i∧Al q y i:=by
 rcases h.1 hr with h|h
 · exact absurd h hn
 · exact h
theorem opEr_ref {o:Opn} (he:opEr o l=0) (hm:must o=some (j,true)):(l j).ref=true∧(l j).w≠wN:=by
 unfold opEr at he
 rw [hm] at he
 simp only at he
 cases hr:(l j).ref with
 | false=>rw [if_pos hr] at he;simp at he
 | true=>
  rw [if_neg (by simp [hr])] at he
  exact ⟨rfl,fun hw=>by rw [if_pos (by simp [hw])] at he;simp at he⟩
def Can (t no:Nat) (o:Nat→Opn) (q:Q) (p:Sw.T):Prop:=
 ∃ q' p' rs,TS cS t no o q p q' p' rs∧∀ A a,bG A cS a t no o q p q' p' rs
theorem Can.mk {q q':Q} (h:TS cS t no o q p q' p' rs) (h2:∀ A a,bG A cS a t no o q p q' p' rs):Can t no o q p:=⟨q',p',rs,h,h2⟩
theorem can_look (P:dB cS q p t no o) (h:p.ph=1∨p.ph=3) (hpc:p.pc=0) (hst:q.st≠p.st):Can t no o q p:=
 .mk (.look h hpc hst) fun A a=>h.elim (fun h=>ts_look1 P h hpc hst) fun h=>ts_look3 P h hpc hst
theorem can_start (B:Base q y) (P:dB cS q p t no o) (L:∀ j,j<4→LcOk q y (p.l j)) (O:Sw.OpOk (o p.nx)) (hph:p.ph=2) (hat:p.at_=0) (hn:p.nx<no) (hln:(o p.nx).kd=1→q.ln=none∧t=0)
 (hK:(o p.nx).kd=4→opEr (o p.nx) p.l=0→(p.l (o p.nx).b).ref=cS.refs.getD (o p.nx).n false):Can t no o q p:=by
 have hI:=P.ho _ hn
 by_cases he:opEr (o p.nx) p.l=0
 rotate_left
 · exact .mk (.err hph hat he) fun A a=>ts_err P hph hat hn he
 have href:∀ j,j<4→(p.l j).ref=true→(p.l j).w≠wN→∃ h,(p.l j).w=wR h∧h<24∧q.m (h*8+1)=⟨0,1⟩:=fun j hj hr hw=>by
  obtain ⟨h,e,ha⟩:=lc_ref (L j hj) hr hw
  exact ⟨h,e,ha.1,(B.typ h ha).1⟩
 have hb:=O.b
 have ha:=O.a
 have hgl:∀ g,g<2→(q.m (cS.gw g)).k≤63∧(q.m (cS.gw g)).i=1:=fun g hg=>by
  have:=OkW.bd (B.glo g hg)
  have e:cS.gw g=312+g:=rfl
  rw [e];omega
 rcases O.kd with k|k|k|k|k|k|k
 · obtain ⟨l0,rfl⟩:=hln k
   cases hT:topF q.fr cS.frags with
   | some i=>exact .mk (.ask hph hat k hT) fun A a=>ts_ask P hph hat hn k l0 hT
   | none=>exact .mk (.wait hph hat k hT) fun A a=>ts_wait P hph hat hn k l0 hT
 · have hr:=opEr_ref (j:=(o p.nx).b) he (by unfold must;rw [if_pos (.inl k)])
   obtain ⟨h,e,h24,hm⟩:=href _ hb hr.1 hr.2
   exact .mk (.load hph hat k he e) fun A a=>ts_load P hph hat hn k he e h24 hm
 · have hr:=opEr_ref (j:=(o p.nx).a) he (by unfold must;rw [if_neg (by omega),if_pos k])
   obtain ⟨h,e,h24,hm⟩:=href _ ha hr.1 hr.2
   exact .mk (.store hph hat k he (hK k he) e) fun A a=>ts_store P hph hat hn k he (hK k he) e h24 hm
 · have hg:=hgl _ (O.n7 (.inl k))
   exact .mk (.see hph hat k) fun A a=>ts_see P hph hat hn k hg.1 hg.2
 · have hg:=hgl _ (O.n7 (.inr k))
   cases hs:shades p.st with
   | true=>exact .mk (.setOld hph hat k he hs) fun A a=>ts_setOld P hph hat hn k he hs hg.1 hg.2
   | false=>exact .mk (.setNow hph hat k he hs) fun A a=>ts_setNow P hph hat hn k he hs
 · exact .mk (.num hph hat k) fun A a=>ts_num P hph hat hn k
 · exact .mk (.clear hph hat k) fun A a=>ts_clear P hph hat hn k
theorem can_writ (B:Base q y) (P:dB cS q p t no o) (L:∀ j,j<4→LcOk q y (p.l j)) (O:Sw.OpOk (o p.nx)) (hph:p.ph=2) (hat:3≤p.at_∧p.at_≤6) (hn:p.nx<no) (W:Wr q y (o p.nx) p):Can t no o q p:=by
 have hb:=O.b
 have hl:=P.l _ hb
 have hw:p.w.k≤63∧p.w.i≤63:=by rw [W.w];exact hl
 have had:p.ad<cS.words∧(p.rf=true→OkW q y (q.m p.ad)):=by
  rcases W.kd with k|k
  · obtain ⟨hr,h,e,e2,e3⟩:=W.a4 k
    have ha:Al q y h:=by
     rcases (L _ O.a).1 hr with h0|⟨i,h0,hA⟩
     · rw [e] at h0;simp [wR,wN] at h0
     · rw [e] at h0;simp [wR] at h0;subst h0;exact hA
    have hn3:=O.n4 k
    have h24:=ha.1
    have ht:=B.typ h ha
    refine ⟨by rw [e2];show _<314;omega,fun hrf=>?_⟩
    rw [e3] at hrf
    have hn2:(o p.nx).n<2:=by simpa using hrf
    rw [e2]
    have:(o p.nx).n=0∨(o p.nx).n=1:=by omega
    rcases this with e|e<;>rw [e]
    · exact ht.2.1
    · exact ht.2.2.1
  · obtain ⟨e,e2⟩:=W.a8 k
    have:=O.n7 (.inr k)
    exact ⟨by rw [e];show _<314;omega,fun _=>by rw [e];exact B.glo _ this⟩
 have:p.at_=3∨p.at_=4∨p.at_=5∨p.at_=6:=by omega
 rcases this with e|e|e|e
 · have:=OkW.bd (had.2 (W.r3 (.inl e)).1)
   exact .mk (.old hph e) fun A a=>ts_old P hph e hn had.1 (by omega) this.1 hw
 · obtain ⟨i,hi,hA⟩:=W.r4 e
   exact .mk (.greyOld hph e hi) fun A a=>ts_greyOld P hph e hn hi hA.1 hw
 · obtain ⟨_,i,hi⟩:=W.r5 e
   have hA:i<24:=by
    have hrf:=(W.r3 (.inr (.inr e))).1
    have h0:=(L _ hb).1 (by rw [W.rf];exact hrf)
    rw [←W.w,hi] at h0
    rcases h0 with h0|⟨j,h0,hA⟩
    · simp [wR,wN] at h0
    · simp [wR] at h0;subst h0;exact hA.1
   exact .mk (.greyNew hph e hi) fun A a=>ts_greyNew P hph e hn hi hA
 · exact .mk (.write hph e) fun A a=>ts_write P hph e hn had.1
theorem can_all (I:Sw.Inv nos os D q y ps) (ok:∀ t,t<2→∀ i,i<nos t→Sw.OpOk (os t i)) (mk:∀ t i,t<2→i<nos t→(os t i).kd=1→t=0) (ht:t<2) (hno:nos t≤1000)
 (hK:(ps t).ph=2→(os t (ps t).nx).kd=4→opEr (os t (ps t).nx) (ps t).l=0→((ps t).l (os t (ps t).nx).b).ref=cS.refs.getD (os t (ps t).nx).n false):Can t (nos t) (os t) q (ps t):=by
 have P:=inv_pre I ok ht hno
 have T:=I.t t ht
 have hq:=qst_nn I.c
 have hown:∀ sn,Hr q y t (ps t) sn→q.own t≠-1:=fun sn H=>by
  have:=st_nn I.c H.hs;rw [H.own];omega
 have hln:(ps t).ph=2→(os t (ps t).nx).kd=1→(ps t).nx<nos t→q.ln=none∧t=0:=fun hph k hn=>by
  have h0:=mk t _ ht hn k
  subst h0
  exact ⟨I.ln.no (by omega),rfl⟩
 cases T.a with
 | out ph own _=>exact .mk (.out ph) fun A a=>ts_out P ph own
 | gone ph _ _=>exact .mk (.gone ph) fun A a=>ts_gone ph
 | idle ph pc h=>
  rcases pc with pc|pc|pc
  · by_cases e:q.st=(ps t).st
    · by_cases hn:(ps t).nx<nos t
      · exact .mk (.go ph pc e hn) fun A a=>ts_go ph pc e hn
      · exact .mk (.quit ph pc e (by omega)) fun A a=>ts_quit ph pc e (by omega)
    · exact can_look P (.inl ph) pc e
  · exact .mk (.drain ph pc) fun A a=>ts_drain P ph pc
  · exact .mk (.leave ph pc) fun A a=>ts_leave P ph pc (hown _ h)
 | ans ph h seen st pc ga gr=>
  have ph':(ps t).ph=1∨(ps t).ph=3:=ph.imp id fun h=>h.1
  rcases pc with ⟨pc,_,hg⟩|⟨pc,hg⟩
  · cases e:(ps t).grey with
    | nil=>exact absurd e hg
    | cons i g=>
     have hi:i<24:=(ga i (by rw [e];simp)).1
     exact .mk (.grey ph' pc e) fun A a=>ph'.elim (fun h=>ts_grey1 P h pc e hi) fun h=>ts_grey3 P h pc e hi
  · refine .mk (.answer ph' pc) fun A a=>?_
    rcases ph' with h1|h1
    · rw [if_pos h1];exact ts_answer1 P h1 pc (hown _ h) (by omega) (by omega)
    · rw [if_neg (by omega)];exact ts_answer3 P h1 pc (hown _ h) (by omega) (by omega)
 | wait ph pc k h=>
  have k0:=k.t
  rcases pc with pc|pc
  · by_cases e:q.st=(ps t).st
    · exact .mk (.same ph pc e) fun A a=>ts_same P ph pc e
    · exact can_look P (.inr ph) pc e
  · subst k0
    obtain ⟨r,hr,hs,hg⟩:=I.ln.is ph
    rcases hs with hs|hs|hs
    · exact .mk (.still ph pc hr hs) fun A a=>ts_still P ph pc k.nx k.kd hr hs
    · exact .mk (.granted ph pc hr hs) fun A a=>ts_granted P ph pc k.nx k.kd hr hs (hg hs).1.lt
    · exact .mk (.failed ph pc hr hs) fun A a=>ts_failed P ph pc k.nx k.kd hr hs
 | start ph at_ nx h=>exact can_start I.b P T.l (ok t ht _ nx) ph at_ nx (fun k=>hln ph k nx) (hK ph)
 | read ph at_ nx h kd rf r ad=>
  obtain ⟨i,e,e2⟩:=ad
  have hA:Al q y i:=by
   rcases (T.l _ (ok t ht _ nx).b).1 r with h0|⟨j,h0,hA⟩
   · rw [e] at h0;simp [wR,wN] at h0
   · rw [e] at h0;simp [wR] at h0;subst h0;exact hA
  have hb:=NumW.bd (I.b.typ i hA).2.2.2
  have h24:=hA.1
  rw [←e2] at hb
  exact .mk (.read ph at_) fun A a=>ts_read P ph at_ nx (by rw [e2];show _<314;omega) (by omega) (by omega) (by rw [rf];simp)
 | writ ph at_ nx h w=>exact can_writ I.b P T.l (ok t ht _ nx) ph at_ nx w
 | make ph at_ k h wk u m=>exact .mk (.make ph at_ wk) fun A a=>fB P ph at_ k.nx u.lt wk
 | born ph at_ k h u m=>exact .mk (.born ph at_) fun A a=>ts_born P ph at_ k.nx u.lt u.us u.hd
end
end
end Go.Proofs.YtgcmiahhkalfmaaGreat
