import Derived.Test.YtgcmiahhkalfmaaGreatM48
set_option maxRecDepth 100000
set_option maxHeartbeats 8000000
set_option linter.unusedVariables false
set_option linter.unusedSimpArgs false
namespace Go.Proofs.YtgcmiahhkalfmaaGreat
section
open Go.RowKit
open Sw
variable {r:Bool} {m v:Lc} {i k:Nat} {go jo:Nat→Bool} {ids:Nat→Int} {o:Nat→Opn} {ps:Nat→Sw.T} {rs:Sw.Rs} {p p':Sw.T}
structure Wok (n:Nat) (q:Q) (y:Y) (ps:Nat→Sw.T) (ids:Nat→Int) (g:Gr) (jo go:Nat→Bool):Prop where
 m:Mok n q y ps ids g
 nx:∀ t,t<2→(ps t).nx≤6*n
 len:6*g.len≤(ps 0).nx+5
 j:∀ t,t<2→(jo t=true↔(ps t).ph≠0)
 e:∀ t,t<2→(go t=true↔(ps t).ph=4)
section
variable {q q':Q} {y y':Y} {t n no:Nat} {g:Gr}
theorem Lc.eq (h1:v.ref=r) (h2:v.w=⟨k,i⟩):v=⟨r,k,i⟩:=by
 obtain ⟨a,b,c⟩:=v
 simp [Lc.w] at h1 h2
 simp [h1,h2]
theorem vl_of (R:Rel ids g q y ps) (hl:g.len≤60) (h:MnL ids v m) (o:LcOk q y v):VlOk ids v m:=by
 obtain ⟨h1,h2,h3⟩:=h
 cases hr:v.ref with
 | true=>
  have hm:m.ref=true:=h1▸hr
  rcases h2 hr with ⟨a,b⟩|⟨i,d,a,b,c⟩
  · exact .inl ⟨Lc.eq hr a,Lc.eq hm b⟩
  · rcases o.1 hr with e|⟨j,e,hA⟩
    · rw [a] at e;exact absurd e (wN_R i)
    · rw [a] at e
      obtain rfl:i=j:=by simpa [wR] using e
      obtain ⟨d',e1,e2⟩:=R.id i hA
      rw [b] at e1
      exact .inr (.inl ⟨i,d,hA.1,by omega,b,Lc.eq hr a,Lc.eq hm c⟩)
 | false=>
  have hm:m.ref=false:=h1▸hr
  have hw:=h3 hr
  have hb:=NumW.bd (o.2 hr)
  refine .inr (.inr ⟨v.k,v.i,?_,?_,Lc.eq hr rfl,Lc.eq hm hw.symm⟩)
  · have:v.w.k≤60:=hb.2
    have:v.k≤60:=this
    omega
  · have:v.w.i≤1:=hb.1
    have:v.i≤1:=this
    omega
theorem glc_of (R:Rel ids g q y ps) (h:MnL ids v m) (o:LcOk q y v):GLc g m:=by
 obtain ⟨h1,h2,h3⟩:=h
 refine ⟨fun hr=>?_,fun hr=>?_⟩
 · have hv:v.ref=true:=h1▸hr
   rcases h2 hv with ⟨a,b⟩|⟨i,d,a,b,c⟩
   · exact .inl b
   · rcases o.1 hv with e|⟨j,e,hA⟩
     · rw [a] at e;exact absurd e (wN_R i)
     · rw [a] at e
       obtain rfl:i=j:=by simpa [wR] using e
       obtain ⟨d',e1,e2⟩:=R.id i hA
       rw [b] at e1
       exact .inr ⟨d,c,by omega⟩
 · have hv:v.ref=false:=h1▸hr
   rw [←h3 hv];exact o.2 hv
theorem rs_lc (h:TS cS t no o q p q' p' rs) (ha:(o p.nx).a<4) (hd:rs.d=true) (hl:∀ j,j<4→LcOk q' y (p'.l j)):LcOk q' y (lcOf rs.r rs.z):=by
 have hz:LcOk q' y (lcOf false w0):=⟨fun h=>by simp [lcOf] at h,fun _=>.inl rfl⟩
 have hv:=hl _ ha
 cases h with
 | num|clear|kind|see|read|born=>simp only [Sw.T.lay,Sw.set,if_pos] at hv;exact hv
 | err|storeK|failed=>exact hz
 | setNow|write=>exact hz
 | _=>simp [Sw.rs0] at hd
theorem ts_ph (h:TS cS t no o q p q' p' rs):p'.ph≠0∧p'.nx=p.nx+(if rs.d then 1 else 0)∧(rs.d=true→p'.ph≠4)∧(p.ph=0→p'.ph=1)∧(p.ph=4→p'.ph=4∧rs.d=false):=by
 cases h<;>simp_all [Sw.T.lay,Sw.T.er,Sw.T.ends,Sw.T.next,Sw.T.fresh,Sw.T.chooses,Sw.T.olds,Sw.rs0]<;>omega
theorem does_len (g:Gr) (t:Nat) (o:Opn) (fu:Bool):((g.does t o fu).2.1=0∧o.kd=1→(g.does t o fu).1.len=g.len+1)∧(¬((g.does t o fu).2.1=0∧o.kd=1)→(g.does t o fu).1.len=g.len):=by
 unfold Gr.does Gr.lay
 repeat' split
 all_goals simp_all
theorem wok_cyc (h:Wok n q y ps ids g jo go) (hn:n≤60):∃ q' y',(∀ A b,bC A cS b q y q' y')∧Wok n q' y' ps ids g jo go:=by
 obtain ⟨q',y',h1,h2⟩:=mok_cyc h.m hn
 exact ⟨q',y',h1,h2,h.nx,h.len,h.j,h.e⟩
theorem wok_thr (h:Wok n q y ps ids g jo go) (hn:n≤60) (ht:t<2):∃ q' p' rs ids' g' gn,(∀ A a,bG A cS a t (6*n) (scs t) q (ps t) q' p' rs)∧Flow t (scs t (ps t).nx) (6*n) (ps t) p' rs ids g (jo t) (go t) ids' g' gn∧
 Wok n q' y (Sw.set ps t p') ids' g' (Sw.set jo t true) (Sw.set go t gn)∧(rs.d=true→t=1→rs.er=0→rs.nx%6=1→NumW rs.z):=by
 obtain ⟨q',p',rs,hr,-,mk,r1,r2,hs⟩:=mok_thr h.m hn ht
 obtain ⟨f1,f2,f3,f4,f5⟩:=ts_ph hs
 have self:Sw.set ps t p' t=p':=by simp [Sw.set]
 have hg60:g.len≤60:=by have:=h.len;have:=h.nx 0 (by omega);omega
 have hjt:=h.j t ht
 have het:=h.e t ht
 have hth:=h.m.r.th t ht
 have hno:rs.d=false→Wok n q' y (Sw.set ps t p') ids (if (ps t).ph=0 then g.join t else if (ps t).ph≠4∧p'.ph=4 then g.quit t else g) (Sw.set jo t true) (Sw.set go t (decide (p'.ph=4))):=fun hd=>by
  have hnx:∀ s,(Sw.set ps t p' s).nx=(ps s).nx:=fun s=>by unfold Sw.set;split;(next e=>subst e;rw [f2,hd];rfl);rfl
  refine ⟨mk _ _ (r1 hd),fun s h2=>by rw [hnx];exact h.nx s h2,?_,fun s h2=>?_,fun s h2=>?_⟩
  · rw [hnx];have:=h.len;split;exact this;split;exact this;exact this
  · unfold Sw.set;split;(next e=>simp [f1]);exact h.j s h2
  · unfold Sw.set;split;(next e=>simp);exact h.e s h2
 cases hd:rs.d with
 | false=>
  have W:=hno hd
  have hR:=W.m.r
  have vl:p'.ph≠4→∀ j,j<4→VlOk ids (p'.l j) ((if (ps t).ph=0 then g.join t else if (ps t).ph≠4∧p'.ph=4 then g.quit t else g).l t j):=fun h4 j hj=>by
   obtain ⟨D,I⟩:=W.m.i
   have hl:=(I.t t ht).l j hj
   have hA:=(I.t t ht).a
   rw [self] at hl hA
   have hh:p'.here:=by
    unfold Sw.T.here
    cases hA with
    | ans ph=>rcases ph with ph|⟨ph,_⟩<;>omega
    | _=>omega
   have:=hR.lo t ht (by rw [self];exact hh) j hj
   rw [self] at this
   refine vl_of hR ?_ this hl
   split;exact hg60;split;exact hg60;exact hg60
  by_cases h0:(ps t).ph=0
  · rw [if_pos h0] at W vl
    have p1:=f4 h0
    have e4:decide (p'.ph=4)=go t:=by
     have:go t=false:=by cases hgt:go t<;>simp_all
     rw [this];simp;omega
    rw [e4] at W
    exact ⟨q',p',rs,ids,g.join t,go t,hr,.join h0 (by cases hj:jo t<;>simp_all) p1 hd (by
     cases hh:g.th t with
     | false=>rfl
     | true=>have:=hth.2 hh;unfold Sw.T.here at this;omega) (vl (by omega)),W,fun h=>by rw [hd] at h;cases h⟩
  · rw [if_neg h0] at W vl
    have jt:jo t=true:=hjt.2 h0
    by_cases h4:(ps t).ph=4
    · obtain ⟨p4,_⟩:=f5 h4
      rw [if_neg (by simp [h4])] at W vl
      rw [p4] at W
      exact ⟨q',p',rs,ids,g,true,hr,.gone h0 jt p4 hd (by
       cases hh:g.th t with
       | false=>rfl
       | true=>have:=hth.2 hh;unfold Sw.T.here at this;omega) (het.2 h4),W,fun h=>by rw [hd] at h;cases h⟩
    · have hgt:go t=false:=by cases hgt:go t<;>simp_all
      have hh:g.th t=true:=hth.1 (by
       obtain ⟨D,I⟩:=h.m.i
       have hA:=(I.t t ht).a
       unfold Sw.T.here
       cases hA with
       | ans ph=>rcases ph with ph|⟨ph,_⟩<;>omega
       | _=>omega)
      by_cases p4:p'.ph=4
      · rw [if_pos ⟨h4,p4⟩] at W vl
        rw [p4] at W
        exact ⟨q',p',rs,ids,g.quit t,true,hr,.leave h0 jt p4 hd hh hgt,W,fun h=>by rw [hd] at h;cases h⟩
      · rw [if_neg (fun h=>p4 h.2)] at W vl
        have e4:decide (p'.ph=4)=go t:=by rw [hgt];simp [p4]
        rw [e4] at W
        exact ⟨q',p',rs,ids,g,go t,hr,.on h0 jt p4 hd hh (vl p4),W,fun h=>by rw [hd] at h;cases h⟩
 | true=>
  obtain ⟨hp,hp',hlt,TL⟩:=r2 hd
  have p4:=f3 hd
  have h0:(ps t).ph≠0:=by unfold Sw.T.here at hp;omega
  have h4:(ps t).ph≠4:=by unfold Sw.T.here at hp;omega
  have jt:jo t=true:=hjt.2 h0
  have hgt:go t=false:=by cases hgt:go t<;>simp_all
  have ok:=scs_ok hn t ht _ hlt
  have M:=mk _ _ TL.r
  obtain ⟨D,I⟩:=M.i
  obtain ⟨D0,I0⟩:=h.m.i
  have hl:=(I.t t ht).l
  rw [self] at hl
  have hv:=rs_lc hs ok.a hd hl
  obtain ⟨L1,L2⟩:=does_len g t (scs t (ps t).nx) (rs.er==6)
  rw [TL.er] at L1 L2
  have K:=sc_kd ht (ps t).nx
  have hnx:∀ s,(Sw.set ps t p' s).nx=(ps s).nx+(if s=t then 1 else 0):=fun s=>by unfold Sw.set;split;(next e=>subst e;rw [f2,hd];rfl);rfl
  have len':6*(g.does t (scs t (ps t).nx) (rs.er==6)).1.len≤(Sw.set ps t p' 0).nx+5:=by
   rw [hnx]
   have hlen:=h.len
   by_cases e:rs.er=0∧(scs t (ps t).nx).kd=1
   · obtain ⟨e0,e1,_⟩:=K.1 e.2
     subst e0
     rw [L1 e,if_pos rfl];omega
   · rw [L2 e];omega
  have nx':∀ s,s<2→(Sw.set ps t p' s).nx≤6*n:=fun s h2=>by
   rw [hnx];split;(next e=>subst e;omega);exact h.nx s h2
  have l60:(g.does t (scs t (ps t).nx) (rs.er==6)).1.len≤60:=by have:=nx' 0 (by omega);omega
  refine ⟨q',p',rs,_,_,go t,hr,.done h0 jt p4 hd (hth.1 hp) TL.nx hlt ok (fun j hj=>glc_of h.m.r (h.m.r.lo t ht hp j hj) ((I0.t t ht).l j hj)) (Prod.ext rfl (Prod.ext TL.er rfl)) TL.ne ?_ (vl_of TL.r l60 TL.v hv) (fun j hj=>?_),⟨M,nx',len',fun s h2=>?_,fun s h2=>?_⟩,fun _ h1 he h6=>?_⟩
  · by_cases e:rs.er=0∧(scs t (ps t).nx).kd=1
    · obtain ⟨e1,e2⟩:=TL.md e.1 e.2
      refine .inl ⟨e.1,e.2,(ps t).got,?_,e1,e2,by unfold idn;rw [if_pos e],L1 e⟩
      rw [e1,e2] at hv
      rcases hv.1 rfl with k|⟨i,k,hA⟩
      · exact absurd k (wN_R _)
      · have:(ps t).got=i:=by simpa [lcOf,Lc.w,wR] using k
        rw [this];exact hA.1
    · exact .inr ⟨e,by unfold idn;rw [if_neg e],L2 e⟩
  · have:=TL.r.lo t ht (by rw [self];exact hp') j hj
    rw [self] at this
    exact vl_of TL.r l60 this (hl j hj)
  · unfold Sw.set;split;(next e=>simp [f1]);exact h.j s h2
  · unfold Sw.set;split;(next e=>subst e;simp [hgt,p4]);exact h.e s h2
  · have k3:(scs t (ps t).nx).kd=3:=by
     rw [TL.nx] at h6
     rw [sc1 h1];unfold scB;simp [h6]
    exact (TL.ld he k3).2
theorem wok_first (n:Nat):Wok n (q0 cS) y00 (fun _=>p00) (fun _=>-1) g00 (fun _=>false) (fun _=>false):=
 ⟨mok_first n,fun t ht=>by simp [p00],by simp [g00],fun t ht=>by simp [p00],fun t ht=>by simp [p00]⟩
end
end
section
open Go.Proofs.Tryz
open Go.RowKit
variable {A:CA} {c:Cf} {steps:Int} {hb n yb:Nat} {ids:Nat→Int} {no:Nat→Nat} {sc:Nat→Nat→Opn} {S:Nat→Prop} {p ps:Nat→Sw.T} {fa:Nat→TA} {g:Sw.Gr} {q:Sw.Q} {y:Sw.Y} {sv:Value} {w w':World}
section
theorem hp_auh (hc:c.ok):AuH (Hp A c q yb y hb sv n fa no sc steps p) c hb q where
 peek:=fun k hk w=>hp_peek hc hk w
 head:=fun i hi w=>hp_head hi w
 state:=fun i hi w=>hp_state hi w
 conf:=fun w S h=>hp_conf hc h
theorem hp_aut (hc:c.ok) (hn:n=c.threads):AuT (Hp A c q yb y hb sv n fa no sc steps p) c hb (fun t=>(p t).ph) (fun t=>(p t).st) (fun t=>(p t).l) where
 thr:=fun t ht w S h=>(hp_thread (by have:=hc.threads;omega) (by omega) hc.locals h).mono fun e w' ⟨vg,vc,he,hg⟩=>⟨(vg,vc),he,hg⟩
theorem hp_auc:AuC (Hp A c q yb y hb sv n fa no sc steps p) c hb yb where
 cell:=fun S w w' g=>g.l.l.vc 1 rfl
 err:=hp_errno
 cnt:=hp_counts
end
section
open Sw
theorem OkW.rfok {u:Wd} (h:OkW q y u):RfOk (Al q y) u:=by
 have hb:=OkW.bd h
 refine ⟨by omega,by omega,fun _ hk=>?_⟩
 rcases h with rfl|⟨i,rfl,ha⟩
 · exact absurd hk (by decide)
 · simpa [wR] using ha
theorem mok_sound (h:Mok n q y ps ids g) (w:World):
 aJ prog 9 #[.pointer (some ⟨hb,0,none⟩)] w (Hp A cS q yb y hb sv 2 fa no sc steps ps) (.int .i64 0) (Hp A cS q yb y hb sv 2 fa no sc steps ps):=by
 obtain ⟨D,I⟩:=h.i
 refine aud_sound (rl:=[true,true,false]) (R:=Al q y) (hp_auh cS_ok) (hp_aut cS_ok rfl) hp_auc cS_ok rfl ⟨fun i h=>h.1,fun i h=>h.2.1,fun i h=>I.b.used h.1 h.2.1,fun i h=>(I.b.typ i h).1,fun i h k hk=>?_⟩ (fun t ht h0 h4 j hj=>?_) (fun k hk=>OkW.rfok (I.b.glo k hk)) w
 · have T:=I.b.typ i h
   have:OkW q y (q.m (i*8+(2+k))):=by
    match k,hk with
    | 0,_=>exact T.2.1
    | 1,_=>exact T.2.2.1
    | 2,hk=>simp at hk
    | k+3,hk=>simp at hk
   have r:=OkW.rfok this
   have b:=OkW.bd this
   exact ⟨b.1,r.1,r.2.2 b.1⟩
 · have l:=(I.t t ht).l
   have s:=lcs_of l j hj
   exact ⟨s.1,s.2,fun hr=>OkW.rfok ((l j hj).1 hr)⟩
end
end
section
attribute [local go_sem] aF aI aO aV
open Go.RowKit
variable {p:Nat→Prop}
def cK:Cf:=⟨4,0,0,1,1,1,0,[(false,[])]⟩
theorem cK_ok:cK.ok:=⟨by decide,by decide,by decide,by decide,by decide,by decide,by decide,by decide,fun s hs=>by simp [cK] at hs;subst hs;simp⟩
def scK (k:Nat):Opn:=if k=0 then ⟨1,0,0,0,0,0,0⟩ else ⟨11,0,0,0,0,0,0⟩
def kMake (s:Sw.Q×Sw.T):Sw.Q×Sw.T:=({s.1 with m:=Sw.set s.1.m (cK.fw s.2.got s.2.wk) (Sw.plW cK.refs s.2.wk)},{s.2 with wk:=s.2.wk+1,at_:=if s.2.wk+1=8 then 8 else 7})
def kLay (s:Sw.Q×Sw.T) (v:Lc):Sw.T×Sw.Rs:=s.2.lay 0 v
def kS:Nat→Sw.Q×Sw.T
 | 0=>(q0 cK,p00)
 | 1=>({q0 cK with own:=Sw.set (q0 cK).own 0 (q0 cK).st},{p00 with ph:=1,pc:=0,st:=(q0 cK).st,sn:=(q0 cK).sn})
 | 2=>((kS 1).1,(kS 1).2.fresh)
 | 3=>((kS 2).1.take 3 ((kS 2).2.sn != Sw.both (kS 2).2.st),{(kS 2).2 with at_:=7,got:=3,wk:=0})
 | 4=>kMake (kS 3)
 | 5=>kMake (kS 4)
 | 6=>kMake (kS 5)
 | 7=>kMake (kS 6)
 | 8=>kMake (kS 7)
 | 9=>kMake (kS 8)
 | 10=>kMake (kS 9)
 | 11=>kMake (kS 10)
 | 12=>({(kS 11).1 with t:=Sw.set (kS 11).1.t (kS 11).2.got {(kS 11).1.t (kS 11).2.got with hd:=true}},((kS 11).2.lay 0 ⟨true,(kS 11).2.got+1,1⟩).1)
 | 13=>((kS 12).1,(kS 12).2.fresh)
 | 14=>((kS 13).1,((kS 13).2.lay 0 ⟨false,0,0⟩).1)
 | 15=>((kS 14).1,{(kS 14).2 with pc:=3})
 | 16=>((kS 15).1,{(kS 15).2 with pc:=4})
 | 17=>({(kS 16).1 with own:=Sw.set (kS 16).1.own 0 (-1)},{(kS 16).2 with ph:=4,l:=fun _=>⟨false,0,0⟩})
 | k+18=>kS (k+17)
def kR (k:Nat):Sw.Rs:=if k=11 then ((kS 11).2.lay 0 ⟨true,(kS 11).2.got+1,1⟩).2 else if k=13 then ((kS 13).2.lay 0 ⟨false,0,0⟩).2 else Sw.rs0
theorem k20 [DecidablePred p] (h:((List.range 20).all fun k=>decide (p k))=true) (k:Nat) (hk:k<20):p k:=of_decide_eq_true (List.all_eq_true.1 h k (List.mem_range.2 hk))
theorem kP (k:Nat) (hk:k<20):dB cK (kS k).1 (kS k).2 0 2 scK where
 hc:=cK_ok
 sh:=rfl
 ht:=by decide
 fr:=by decide
 hno:=by decide
 l:=k20 (p:=fun k=>∀ j,j<1→((kS k).2.l j).k≤63∧((kS k).2.l j).i≤63) (by kernel_rfl) k hk
 hu:=k20 (p:=fun k=>∀ i,i<4→((kS k).1.t i).hd=true→((kS k).1.t i).st=2) (by kernel_rfl) k hk
 pl:=k20 (p:=fun k=>(kS k).1.pl.length≤1) (by kernel_rfl) k hk
 ho:=fun i hi=>by
  have:i=0∨i=1:=by omega
  rcases this with rfl|rfl<;>(constructor<;>simp [scK,cK])
theorem kT (k:Nat) (hk:k<20) (A:CA) (a:TA):bG A cK a 0 2 scK (kS k).1 (kS k).2 (kS (k+1)).1 (kS (k+1)).2 (kR k):=by
 have P:=kP k hk
 match k,hk with
 | 0,_=>exact ts_out P rfl rfl
 | 1,_=>exact ts_go rfl rfl rfl (by decide)
 | 2,_=>exact ts_ask P rfl rfl (by decide) rfl rfl (by kernel_rfl)
 | 3,_=>exact fB P rfl rfl (by decide) (by decide) (by decide)
 | 4,_=>exact fB P rfl rfl (by decide) (by decide) (by decide)
 | 5,_=>exact fB P rfl rfl (by decide) (by decide) (by decide)
 | 6,_=>exact fB P rfl rfl (by decide) (by decide) (by decide)
 | 7,_=>exact fB P rfl rfl (by decide) (by decide) (by decide)
 | 8,_=>exact fB P rfl rfl (by decide) (by decide) (by decide)
 | 9,_=>exact fB P rfl rfl (by decide) (by decide) (by decide)
 | 10,_=>exact fB P rfl rfl (by decide) (by decide) (by decide)
 | 11,_=>exact ts_born P rfl rfl (by decide) (by decide) (by kernel_rfl) (by kernel_rfl)
 | 12,_=>exact ts_go rfl rfl rfl (by decide)
 | 13,_=>exact ts_kind (h:=3) P rfl rfl (by decide) rfl (by kernel_rfl) (by kernel_rfl) (by decide) (by kernel_rfl)
 | 14,_=>exact ts_quit rfl rfl rfl (by decide)
 | 15,_=>exact ts_drain P rfl rfl
 | 16,_=>exact ts_leave P rfl rfl (by decide)
 | 17,_=>exact ts_gone rfl
 | 18,_=>exact ts_gone rfl
 | 19,_=>exact ts_gone rfl
 | k+20,h=>exact absurd h (by omega)
theorem kD (k:Nat) (hk:k<20):(kS (k+1)).2.nx=(kS k).2.nx+(if (kR k).d then 1 else 0)∧(kS (k+1)).2.nx≤2:=k20 (p:=fun k=>(kS (k+1)).2.nx=(kS k).2.nx+(if (kR k).d then 1 else 0)∧(kS (k+1)).2.nx≤2) (by kernel_rfl) k hk
end
section
attribute [local go_sem] aF aI aO aV
open Go.Proofs.Tryz
open Go.RowKit
variable {args cs:Array Value} {A:CA} {c:Cf} {f:FuncId} {steps:Int} {cb gb n ob sb wb yb:Nat} {go jo:Nat→Bool} {ids:Nat→Int} {no:Nat→Nat} {sc:Nat→Nat→Opn} {o:Nat→Opn} {S:Nat→Prop} {p ps:Nat→Sw.T} {fa:Nat→TA} {g:Sw.Gr} {q q':Sw.Q} {rs:Sw.Rs} {p':Sw.T} {y y':Sw.Y} {H H' O:aC} {t:TypeId} {sv v:Value} {X:WkX} {w w':World}
section
theorem confK (h:(Var sb #[.bool false,.slice none 0 0] 55).at_ S w):(aZ cK sb 1).at_ S w:=by
 obtain ⟨h1,h2,h3⟩:=h
 refine ⟨_,_,h1,h2,by decide,by unfold maxLen;omega,fun i s hi=>?_,fun k hk=>by rw [h3 k hk];exact h1.lt⟩
 match i,hi with
 | 0,hi=>simp [cK] at hi;subst hi;exact ⟨.slice none 0 0,rfl,rfl,.inl ⟨rfl,rfl⟩⟩
 | i+1,hi=>simp [cK] at hi
theorem opsSeq {cap:Nat} (hc:cs.toList=opL o n) (hn:n≤cap) (hcap:cap≤maxLen) (h:(Var ob cs t).at_ S w):(Seq 6 (.slice (some ⟨ob,0,none⟩) n cap) n (opL o n)).at_ S w:=by
 obtain ⟨h1,h2,h3⟩:=h
 refine ⟨ob,0,cap,cs,t,rfl,hn,hcap,opL_len _ _,h1,h2,fun i x hx=>?_,fun k hk=>by rw [h3 k hk];exact h1.lt⟩
 rw [←hc] at hx
 rw [Nat.zero_add]
 simpa using hx
def opsK:Array Value:=#[.int .i64 1,.int .i64 0,.int .i64 0,.int .i64 0,.int .i64 0,.complex .f64 0 0,.int .i64 11,.int .i64 0,.int .i64 0,.int .i64 0,.int .i64 0,.complex .f64 0 0]
def OK_ (sb cb ob gb:Nat):aC:=Sep (Sep (Sep (Sep Emp (aZ cK sb 1)) (Var cb (aD cK (.slice (some ⟨sb,0,none⟩) 1 1)) 34)) (Var ob opsK 27)) (Var gb #[.slice (some ⟨ob,0,none⟩) 2 2] 24)
theorem opsInK:jQ (OK_ sb cb ob gb) gb 0 1 (fun _=>.slice (some ⟨ob,0,none⟩) 2 2) (fun _=>2) (fun _=>scK) where
 cell:=fun S w h t ht=>by
  obtain rfl:t=0:=by omega
  exact (aA.begin h).r.vc 0 rfl
 seq:=fun S w h t ht=>by
  obtain ⟨S',h1,_⟩:=aB.r (aA.begin h).l.is
  exact ⟨S',opsSeq (by rfl) (by omega) (by unfold maxLen;omega) h1⟩
 len:=fun t ht=>⟨by omega,by omega⟩
theorem confInK (h:(OK_ sb cb ob gb).at_ S w):∃ S',(aZ cK sb 1).at_ S' w:=by
 obtain ⟨S1,h1,_⟩:=aB.l h
 obtain ⟨S2,h2,_⟩:=aB.l h1
 obtain ⟨S3,h3,_⟩:=aB.l h2
 obtain ⟨S4,h4,_⟩:=aB.r h3
 exact ⟨S4,h4⟩
theorem kE (w:World):Calls prog 4 #[] w fun e w'=>e=.returned (.bool true)∧Below w.heap.size w w':=by
 have g0:aA Emp (fun _=>False) w w:=aA.begin (fun _ h=>h)
 have g1:=((g0.moreSt (St.fresh #[.bool false,.slice none 0 0] 55)).conv fun S w h=>aB.monoR (fun _ h=>confK h) h).moreSt (St.fresh #[.int .i64 4,.int .i64 0,.int .i64 0,.int .i64 1,.int .i64 1,.int .i64 0,.int .i64 1,.int .i64 0,.slice (some ⟨w.heap.size,0,none⟩) 1 1] 34)
 rw [World.size_alloc] at g1
 obtain ⟨sb,hsb⟩:∃ k,w.heap.size=k:=⟨_,rfl⟩
 obtain ⟨cb,hcb⟩:∃ k,sb+1=k:=⟨_,rfl⟩
 rw [hsb,hcb] at g1
 go_enter func4,ntmps4
 go_upto_region 2 with fail
 generalize (w.alloc _).alloc _=w1 at*
 have d0:=g1.r.vi 0 4
 have d1:=g1.r.vi 1 0
 have d2:=g1.r.vi 2 0
 have d3:=g1.r.vi 3 1
 have d4:=g1.r.vi 4 1
 have d5:=g1.r.vi 5 0
 have d6:=g1.r.vi 6 1
 have d7:=g1.r.vi 7 0
 have d8:=g1.r.vC 8 (.slice (some ⟨sb,0,none⟩) 1 1)
 have g2:=(g1.moreSt (St.fresh opsK 27)).moreSt (St.fresh #[.slice (some ⟨w1.heap.size,0,none⟩) 2 2] 24)
 rw [World.size_alloc] at g2
 obtain ⟨ob,hob⟩:∃ k,w1.heap.size=k:=⟨_,rfl⟩
 obtain ⟨gb,hgb⟩:∃ k,ob+1=k:=⟨_,rfl⟩
 rw [hob,hgb] at g2
 have g3:aA (OK_ sb cb ob gb) (fun _=>False) w _:=g2
 have HN:=zz (aN.on (fun S h=>(heap_new (c:=cK) (g:=sb) (cap:=1) (gb:=gb) (go:=0) (n:=1) (capn:=1) cK_ok (fun S w h=>confInK h) opsInK rfl h).mono fun e w' ⟨A,yb,hb,sv,fa,he,hg⟩=>⟨(A,yb,hb,sv,fa),he,hg⟩:aN prog 10 #[cfV cK sb 1,.slice (some ⟨gb,0,none⟩) 1 1] _ (OK_ sb cb ob gb) (fun (v:CA×Nat×Nat×Value×(Nat→TA)) e=>e=.returned (.tuple #[.pointer (some ⟨v.2.2.1,0,none⟩),.int .i64 0])) (fun v=>Sep (OK_ sb cb ob gb) (Hp v.1 cK (q0 cK) v.2.1 y00 v.2.2.1 v.2.2.2.1 1 v.2.2.2.2 (fun _=>2) (fun _=>scK) 0 fun _=>p00))) g3)
 rw [show cfV cK sb 1=.agg #[.int .i64 4,.int .i64 0,.int .i64 0,.int .i64 1,.int .i64 1,.int .i64 0,.int .i64 1,.int .i64 0,.slice (some ⟨sb,0,none⟩) 1 1] from rfl] at HN
 simp only [opsK] at HN
 clear g0 g1 g2 g3
 go_wp2_with fail
 with_reducible refine HN.out.mono ?_
 rintro e w2 ⟨⟨A,yb,hb,sv,fa⟩,rfl,hgx⟩
 have hg:aA (Sep (OK_ sb cb ob gb) (Hp A cK (q0 cK) yb y00 hb sv 1 fa (fun _=>2) (fun _=>scK) 0 fun _=>p00)) (fun _=>False) w w2:=hgx
 clear HN hgx d0 d1 d2 d3 d4 d5 d6 d7 d8 hob hgb hsb hcb
 have HG:=zz hg
 clear hg
 simp only
 go_wp2_with fail
 go_loopw [4,5,6] (fun d i _ wr=>∃ (k:Nat) (steps:Int) (p:Nat→Sw.T),k≤20∧i=.int .i64 k∧d=.int .i64 ((kS k).2.nx:Int)∧p 0=(kS k).2∧aA (Sep (OK_ sb cb ob gb) (Hp A cK (kS k).1 yb y00 hb sv 1 fa (fun _=>2) (fun _=>scK) steps p)) (fun _=>False) w wr) (fun _ i _ _=>20-(intOf i).toNat)
 case atStart=>exact ⟨0,0,fun _=>p00,Nat.zero_le _,rfl,rfl,rfl,HG.out⟩
 case round=>
  clear HG
  obtain ⟨k,steps,p,hk,rfl,rfl,hp,hg⟩:=hrel
  by_cases hlt:k<20
  · have HST:=zz (aN.on (aN.r (B:=OK_ sb cb ob gb) (fun S h=>hp_step_thr (t:=0) (by omega) (by omega) (by rw [hp];exact kT k hlt A (fa 0)) h:aN prog 11 #[.pointer (some ⟨hb,0,none⟩),.int .i64 (((0:Nat):Int)+1)] _ (Hp A cK (kS k).1 yb y00 hb sv 1 fa (fun _=>2) (fun _=>scK) steps p) (fun (ow:Int) e=>e=.returned (tkV (((0:Nat):Int)+1) (rsOf (kR k) ow))) (fun _=>Hp A cK (kS (k+1)).1 yb y00 hb sv 1 fa (fun _=>2) (fun _=>scK) (wrap64 (steps+1)) (Sw.set p 0 (kS (k+1)).2)))) hg)
    rw [show (((0:Nat):Int)+1)=1 from rfl] at HST
    unfold tkV rsOf at HST
    simp only [bW] at HST
    have HD:=zz (kD k hlt)
    have HLT:=zz hlt
    have hlti:(k:Int)<20:=by omega
    obtain ⟨n0,hn0⟩:∃ n,(kS k).2.nx=n:=⟨_,rfl⟩
    rw [hn0] at HD ⊢
    clear hg hp hk hlt hn0
    generalize hrs:kR k=rs at*
    clear hrs
    obtain ⟨zd,z1,z2,z3,z4⟩:=rs
    dsimp only at HD HST
    go_wp2_with fail
    with_reducible refine HST.out.mono ?_
    rintro e w3 ⟨ow,rfl,hg⟩
    have g4:=hg.moreSt (St.fresh #[.int .i64 1,.bool zd,.int .i64 z1,.int .i64 ow,.int .i64 z2,.bool z3,.complex .f64 (fl z4.k) (fl z4.i)] 43)
    have x1:=g4.r.vb 1 zd
    have HG4:=zz g4.l
    clear HST hg g4
    go_upto_region 10 with fail
    generalize w3.heap.size=tb at*
    generalize w3.alloc _=w4 at*
    have h2:=HD.out.2
    have h1:=HD.out.1
    cases zd with
    | false=>
     have e1:(kS (k+1)).2.nx=n0:=by simpa using h1
     have HE:=zz e1
     clear h1 h2 e1
     go_wp2_with fail
     go_round
     case rel=>exact ⟨k+1,_,_,HLT.out,by go_num,by rw [HE.out],by unfold Sw.set;rfl,HG4.out⟩
     case measure=>have:=HLT.out;simp [intOf];omega
    | true=>
     have e1:(kS (k+1)).2.nx=n0+1:=by simpa using h1
     have hn2:(n0:Int)+1≤2:=by omega
     have HE:=zz e1
     clear h1 h2 e1
     go_wp2_with fail
     go_round
     case rel=>exact ⟨k+1,_,_,HLT.out,by go_num,by rw [HE.out];go_num,by unfold Sw.set;rfl,HG4.out⟩
     case measure=>have:=HLT.out;simp [intOf];omega
  · obtain rfl:k=20:=by omega
    have hph:(p 0).ph=4:=by rw [hp];rfl
    have hnx:(kS 20).2.nx=2:=by kernel_rfl
    have HTH:=zz (aN.on (aN.r (B:=OK_ sb cb ob gb) (fun S h=>(hp_thread (t:=0) (by omega) (by omega) cK_ok.locals h).mono fun e w' ⟨vg,vc,he,hg⟩=>⟨(vg,vc),he,hg.l⟩:aN prog 12 #[.pointer (some ⟨hb,0,none⟩),.int .i64 ((0:Nat):Int)] _ (Hp A cK (kS 20).1 yb y00 hb sv 1 fa (fun _=>2) (fun _=>scK) steps p) (fun (v:Nat×Nat) e=>e=.returned (.tuple #[.int .i64 (p 0).ph,.int .i64 (p 0).st,.slice (some ⟨v.1,0,none⟩) cK.locals v.2])) (fun _=>Hp A cK (kS 20).1 yb y00 hb sv 1 fa (fun _=>2) (fun _=>scK) steps p))) hg)
    have HSO:=zz fun w5 (gg:aA (Sep (OK_ sb cb ob gb) (Hp A cK (kS 20).1 yb y00 hb sv 1 fa (fun _=>2) (fun _=>scK) steps p)) (fun _=>False) w w5)=>(aJ.r (B:=OK_ sb cb ob gb) (aud_sound (rl:=[]) (R:=fun _=>False) (hp_auh cK_ok) (hp_aut cK_ok rfl) hp_auc cK_ok rfl ⟨fun _ h=>h.elim,fun _ h=>h.elim,fun _ h=>h.elim,fun _ h=>h.elim,fun _ h=>h.elim⟩ (fun t ht h0 h4=>by
     obtain rfl:t=0:=by have:t<1:=ht;omega
     exact absurd hph h4) (fun g hg=>absurd hg (Nat.not_lt_zero _)) w5)).on gg
    rw [hph,show ((0:Nat):Int)=0 from rfl] at HTH
    rw [hnx]
    clear hg hp hph hnx hk hlt
    generalize (kS 20).1=q at*
    go_wp2_with fail
    with_reducible refine HTH.out.mono ?_
    rintro e w5 ⟨v,rfl,hg⟩
    have HSC:=zz (HSO.out _ hg)
    clear HTH HSO hg
    go_wp2_with fail
    refine qz HSC.out fun w6 hg=>?_
    have HF:=zz (hg.turned.below (Nat.le_refl _) fun _ h=>h.elim)
    clear HSC hg
    go_wp2_with fail
    go_ret
    exact ⟨rfl,HF.out⟩
end
section
theorem confS {b1 b2 b3:Nat} (h:(Sep (Sep (Sep (Var b1 #[.bool true,.bool true,.bool false] 4) (Var b2 #[.bool true] 4)) (Var b3 #[.bool false] 4)) (Var sb #[.bool false,.slice (some ⟨b1,0,none⟩) 3 3,.bool true,.slice (some ⟨b2,0,none⟩) 1 1,.bool true,.slice (some ⟨b3,0,none⟩) 1 1] 55)).at_ S w):(aZ Sw.cS sb 3).at_ S w:=by
 have hlt:=aC.lt _ h
 obtain ⟨S1,T1,⟨S2,T2,⟨S3,T3,⟨x1,x2,x3⟩,⟨y1,y2,y3⟩,_,u1,u2,u3⟩,⟨z1,z2,z3⟩,_,v1,v2,v3⟩,⟨s1,s2,s3⟩,_,t1,t2,t3⟩:=h
 refine ⟨_,_,s1,t2 _ s2,Nat.le_refl 3,by unfold maxLen;omega,fun i s hi=>?_,hlt⟩
 match i,hi with
 | 0,hi=>simp [Sw.cS] at hi;subst hi;exact ⟨_,rfl,rfl,.inr ⟨b1,3,_,_,by simp [],rfl,by simp [],by unfold maxLen;omega,t1 _ (v1 _ (u1 _ x2)),x1,fun j b hj=>by
  match j,hj with
  | 0,hj=>simp [] at hj;subst hj;rfl
  | 1,hj=>simp [] at hj;subst hj;rfl
  | 2,hj=>simp [] at hj;subst hj;rfl
  | j+3,hj=>simp [] at hj⟩⟩
 | 1,hi=>simp [Sw.cS] at hi;subst hi;exact ⟨_,rfl,rfl,.inr ⟨b2,1,_,_,by simp,rfl,by simp,by unfold maxLen;omega,t1 _ (v1 _ (u2 _ y2)),y1,fun j b hj=>by
  match j,hj with
  | 0,hj=>simp at hj;subst hj;rfl
  | j+1,hj=>simp at hj⟩⟩
 | 2,hi=>simp [Sw.cS] at hi;subst hi;exact ⟨_,rfl,rfl,.inr ⟨b3,1,_,_,by simp,rfl,by simp,by unfold maxLen;omega,t1 _ (v2 _ z2),z1,fun j b hj=>by
  match j,hj with
  | 0,hj=>simp at hj;subst hj;rfl
  | j+1,hj=>simp at hj⟩⟩
 | i+3,hi=>simp [Sw.cS] at hi
theorem plain_new (w:World):Calls prog 6 #[.int .i64 2,.int .i64 24,.int .i64 24] w fun e w'=>∃ g,e=.returned (cfV Sw.cS g 3)∧St w (aZ Sw.cS g 3) w':=by
 have t0:St w (Var w.heap.size cR 34) (w.alloc (.cells cR 34)):=St.fresh cR 34
 simp only [cR] at t0
 obtain ⟨rb,hrb⟩:∃ k,w.heap.size=k:=⟨_,rfl⟩
 rw [hrb] at t0
 go_enter func6,ntmps6
 go_upto_region 1 with fail
 generalize w.alloc _=w1 at*
 obtain ⟨b1,hb1⟩:∃ k,w1.heap.size=k:=⟨_,rfl⟩
 obtain ⟨b2,hb2⟩:∃ k,b1+1=k:=⟨_,rfl⟩
 obtain ⟨b3,hb3⟩:∃ k,b2+1=k:=⟨_,rfl⟩
 obtain ⟨sb,hsb⟩:∃ k,b3+1=k:=⟨_,rfl⟩
 have t1:=(((t0.var #[.bool true,.bool true,.bool false] 4).var #[.bool true] 4).var #[.bool false] 4).var #[.bool false,.slice (some ⟨b1,0,none⟩) 3 3,.bool true,.slice (some ⟨b2,0,none⟩) 1 1,.bool true,.slice (some ⟨b3,0,none⟩) 1 1] 55
 simp only [World.size_alloc,hb1,hb2,hb3,hsb] at t1
 have t2:=t1.conv (B:=Sep (Var rb _ 34) (aZ Sw.cS sb 3)) fun S w h=>aB.monoR (fun _ h=>confS h) (aB.assoc (aB.monoL (fun _ h=>aB.assoc (aB.monoL (fun _ h=>aB.assoc h) h)) h))
 have g1:=aA.begin t2.1.choose_spec.1
 have r0:=g1.l.vi 0 0
 have f0:=g1.l.vf 0
 have r1:=g1.l.vi 1 0
 have f1:=g1.l.vf 1
 have r2:=g1.l.vi 2 0
 have f2:=g1.l.vf 2
 have r3:=g1.l.vi 3 0
 have f3:=g1.l.vf 3
 have r4:=g1.l.vi 4 0
 have f4:=g1.l.vf 4
 have r5:=g1.l.vi 5 0
 have f5:=g1.l.vf 5
 have r6:=g1.l.vi 6 0
 have f6:=g1.l.vf 6
 have r7:=g1.l.vi 7 0
 have f7:=g1.l.vf 7
 have r8:=g1.l.vC 8 (.slice none 0 0)
 have f8:=g1.l.vf 8
 have t3:=t2.goes (aG (fun S h=>((aA.begin h).p9 (.int .i64 24) (.int .i64 60) (.int .i64 2) (.int .i64 2) (.int .i64 4) (.int .i64 0) (.int .i64 2) (.int .i64 24) (.slice (some ⟨sb,0,none⟩) 3 3))))
 have g2:=aA.begin t3.1.choose_spec.1
 have k0:=g2.l.vi 0 24
 have k1:=g2.l.vi 1 60
 have k2:=g2.l.vi 2 2
 have k3:=g2.l.vi 3 2
 have k4:=g2.l.vi 4 4
 have k5:=g2.l.vi 5 0
 have k6:=g2.l.vi 6 2
 have k7:=g2.l.vi 7 24
 have k8:=g2.l.vC 8 (.slice (some ⟨sb,0,none⟩) 3 3)
 have HF:=zz t3.right
 clear t0 t1 t2 t3 g1 g2 hrb
 go_wp2_with fail
 (try rw [aI])
 exact bodyPost_ret (v:=.agg #[.int .i64 24,.int .i64 60,.int .i64 2,.int .i64 2,.int .i64 4,.int .i64 0,.int .i64 2,.int .i64 24,.slice (some ⟨sb,0,none⟩) 3 3]) (by simp [results,results6,go_sem,k0,k1,k2,k3,k4,k5,k6,k7,k8]) rfl ⟨sb,rfl,HF.out⟩
end
section
variable {hb:Nat}
theorem hp_step_cyc (hn:n≤16) (hC:bC A c yb q y q' y') (h:(Hp A c q yb y hb sv n fa no sc steps p).at_ S w):
 Calls prog 11 #[.pointer (some ⟨hb,0,none⟩),.int .i64 0] w fun e w'=>e=.returned (tkV 0 rs0)∧aA (Hp A c q' yb y' hb sv n fa no sc (wrap64 (steps+1)) p) S w w':=by
 obtain ⟨sg,so,scap,hsv,_,_⟩:=bN (aA.begin h).l.r.is
 have g0:=((aA.begin h).moreSt (St.fresh (bW 0 rs0) 43)).moreSt (St.fresh (bW (0) rs0) 43)
 rw [World.size_alloc] at g0
 obtain ⟨rb,hrb⟩:∃ k,w.heap.size=k:=⟨_,rfl⟩
 obtain ⟨xb,hxb⟩:∃ k,rb+1=k:=⟨_,rfl⟩
 rw [hrb,hxb] at g0
 have c2:=g0.l.l.l.l.vC 2 sv
 rw [hsv] at c2
 have c3:=g0.l.l.l.l.vi 3 steps
 have f3:=g0.l.l.l.l.vf 3
 have g1:aA (Sep (Sep (Hp A c q yb y hb sv n fa no sc (wrap64 (steps+1)) p) (Var rb (bW 0 rs0) 43)) (Var xb (bW (0) rs0) 43)) S w _:=g0.then (aG (aG (aG (aG (fun S h=>(aA.begin h).vput 3 (.int .i64 (wrap64 (steps+1))) (cs':=eD A.b yb sv (wrap64 (steps+1))) rfl)))))
 have g2:=g1.drew_
 have c1:=g2.l.l.l.l.vp 1 yb
 have c0:=g2.l.l.l.l.vp 0 A.b
 have HL:=zz ((((((hC _).l (B:=Ths c n fa no sc p)).r (B:=Sep (Var hb (eD A.b yb sv (wrap64 (steps+1))) 87) (Seq 1 sv n (fQ fa n)))).l (B:=Var rb (bW 0 rs0) 43)).l (B:=Var xb (bW 0 rs0) 43)).on g2)
 unfold tkV
 simp only [bW,rs0] at*
 clear h hsv g0 g1 g2 hC
 go_enter func11,ntmps11
 go_upto_region 4 with fail
 generalize (w.alloc _).alloc _=w1 at*
 go_upto_region 5 with fail
 generalize World.setCell _ _ _=w2 at*
 clear c2 c3 f3
 go_wp2_with fail
 go_still_tail 9,(by kernel_rfl)
 change wpList _ _ _ _ _ w2.drew
 generalize w2.drew=w3 at*
 go_wp2_with fail
 refine qz HL.out fun w4 hgx=>?_
 have hg:aA (Sep (Sep (Hp A c q' yb y' hb sv n fa no sc (wrap64 (steps+1)) p) (Var rb #[.int .i64 0,.bool false,.int .i64 0,.int .i64 0,.int .i64 0,.bool false,.complex .f64 0 0] 43)) (Var xb #[.int .i64 0,.bool false,.int .i64 0,.int .i64 0,.int .i64 0,.bool false,.complex .f64 0 0] 43)) S w w4:=hgx
 clear HL hgx c0 c1
 have x0:=hg.r.vi 0 0
 have r0:=hg.l.r.vi 0 0
 have f0:=hg.l.r.vf 0
 have x1:=hg.r.vb 1 false
 have r1:=hg.l.r.vb 1 false
 have f1:=hg.l.r.vf 1
 have x2:=hg.r.vi 2 0
 have r2:=hg.l.r.vi 2 0
 have f2:=hg.l.r.vf 2
 have x3:=hg.r.vi 3 0
 have r3:=hg.l.r.vi 3 0
 have f3:=hg.l.r.vf 3
 have x4:=hg.r.vi 4 0
 have r4:=hg.l.r.vi 4 0
 have f4:=hg.l.r.vf 4
 have x5:=hg.r.vb 5 false
 have r5:=hg.l.r.vb 5 false
 have f5:=hg.l.r.vf 5
 have x6:=hg.r.vC 6 (.complex .f64 0 0)
 have r6:=hg.l.r.vC 6 (.complex .f64 0 0)
 have f6:=hg.l.r.vf 6
 have gz:=hg.then (aG (aH (fun S h=>(aA.begin h).p7 (.int .i64 0) (.bool false) (.int .i64 0) (.int .i64 0) (.int .i64 0) (.bool false) (.complex .f64 0 0))))
 have k0:=gz.l.r.vi 0 0
 have k1:=gz.l.r.vb 1 false
 have k2:=gz.l.r.vi 2 0
 have k3:=gz.l.r.vi 3 0
 have k4:=gz.l.r.vi 4 0
 have k5:=gz.l.r.vb 5 false
 have k6:=gz.l.r.vC 6 (.complex .f64 0 0)
 have HF:=zz gz.l.l
 clear gz hg
 go_wp2_with fail
 (try rw [aI])
 exact bodyPost_ret (v:=.agg #[.int .i64 0,.bool false,.int .i64 0,.int .i64 0,.int .i64 0,.bool false,.complex .f64 0 0]) (by simp [results,results11,go_sem,k0,k1,k2,k3,k4,k5,k6]) rfl ⟨rfl,HF.out⟩
end
section
theorem wk_hpR (h:aJ prog f args w H v H'):aJ prog f args w (WkT O wb X ids g jo go H) v (WkT O wb X ids g jo go H'):=h.r.r.r.r
theorem wk_cyc (hC:bC A Sw.cS yb q y q' y') (w:World):aJ prog 7 #[.pointer (some ⟨wb,0,none⟩),.int .i64 0] w (WkT O wb X ids g jo go (Hp A Sw.cS q yb y X.hb sv 2 fa no sc steps ps)) (.tuple #[tkV 0 rs0,.bool true]) (WkT O wb X ids g jo go (Hp A Sw.cS q' yb y' X.hb sv 2 fa no sc (wrap64 (steps+1)) ps)):=by
 intro S h
 have g0:=(aA.begin h).moreSt (St.fresh (bW 0 rs0) 43)
 obtain ⟨rb,hrb⟩:∃ k,w.heap.size=k:=⟨_,rfl⟩
 rw [hrb] at g0
 obtain ⟨c0,_⟩:=bJ g0.l
 obtain ⟨H1,hH1⟩:∃ H,H=Hp A Sw.cS q' yb y' X.hb sv 2 fa no sc (wrap64 (steps+1)) ps:=⟨_,rfl⟩
 have HST:=zz fun w1 (gg:aA (Sep (WkT O wb X ids g jo go (Hp A Sw.cS q yb y X.hb sv 2 fa no sc steps ps)) (Var rb (bW 0 rs0) 43)) S w w1)=>((wk_hpR (fun S h=>hp_step_cyc (by decide) hC h:aJ prog 11 #[.pointer (some ⟨X.hb,0,none⟩),.int .i64 0] w1 _ (tkV 0 rs0) _)).l).on gg
 rw [←hH1] at HST ⊢
 unfold tkV at*
 simp only [bW,rs0] at*
 clear h hC hH1
 go_enter func7,ntmps7
 go_upto_region 1 with fail
 generalize w.alloc _=w1 at*
 go_wp2_with fail
 refine qz (HST.out _ g0) fun w2 g1=>?_
 clear HST g0 c0 hrb
 have g2:=g1.moreSt (St.fresh #[.int .i64 0,.bool false,.int .i64 0,.int .i64 0,.int .i64 0,.bool false,.complex .f64 0 0] 43)
 go_upto_region 4 with fail
 have g3:=g2.drew_
 clear g1 g2
 generalize w2.heap.size=xb at*
 generalize World.alloc _ _=w3 at*
 obtain ⟨x0,x1,x2,x3,x4,x5,x6⟩:=(cT g3.r).1
 refine wp_region_held_drew (S:=fun w'=>w'.cell? ⟨xb,0,none⟩=some (.int .i64 0)∧w'.cell? ⟨xb,1,none⟩=some (.bool false)∧w'.cell? ⟨xb,2,none⟩=some (.int .i64 0)∧w'.cell? ⟨xb,3,none⟩=some (.int .i64 0)∧w'.cell? ⟨xb,4,none⟩=some (.int .i64 0)∧w'.cell? ⟨xb,5,none⟩=some (.bool false)∧w'.cell? ⟨xb,6,none⟩=some (.complex .f64 0 0)) (by kernel_rfl) ⟨x0,x1,x2,x3,x4,x5,x6⟩ (fun hHeld=>?_)
 generalize w3.drew=w4 at*
 clear x0 x1 x2 x3 x4 x5 x6
 refine tk 0 ?_
 refine tk 1 ?_
 refine tk 2 ?_
 refine tk 3 ?_
 obtain ⟨⟨x0,x1,x2,x3,x4,x5,x6⟩,_⟩:=cT g3.r
 obtain ⟨⟨y0,y1,y2,y3,y4,y5,y6⟩,f0,f1,f2,f3,f4,f5,f6⟩:=cT g3.l.r
 have g8:=tk_put (a0:=.int .i64 0) (a1:=.bool false) (a2:=.int .i64 0) (a3:=.int .i64 0) (a4:=.int .i64 0) (a5:=.bool false) (a6:=.complex .f64 0 0) g3
 refine rdy 4 fun K hK=>?_
 go_simp
 go_wp2_with fail
 refine hon hK (cT g8.r).1 fun hHeld=>?_
 clear hK K
 refine tk 5 ?_
 refine wpAnyH_done (by kernel_rfl) ?_ _
 clear hHeld x0 x1 x2 x3 x4 x5 x6 y0 y1 y2 y3 y4 y5 y6 f0 f1 f2 f3 f4 f5 f6
 obtain ⟨⟨k0,k1,k2,k3,k4,k5,k6⟩,_⟩:=cT g8.l.r
 have HZ:=zz g8.l.l
 clear g8 g3
 go_wp2_with fail
 (try rw [aI])
 exact bodyPost_ret (v:=.tuple #[.agg #[.int .i64 0,.bool false,.int .i64 0,.int .i64 0,.int .i64 0,.bool false,.complex .f64 0 0],.bool true]) (by simp [results,results7,go_sem,k0,k1,k2,k3,k4,k5,k6]) rfl ⟨rfl,HZ.out⟩
end
end
end Go.Proofs.YtgcmiahhkalfmaaGreat
