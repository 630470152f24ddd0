import Derived.Test.YtgcmiahhkalfmaaGreatM41
import Derived.Test.YtgcmiahhkalfmaaGreatM46
set_option maxRecDepth 100000
set_option maxHeartbeats 8000000
set_option linter.unusedVariables false
set_option linter.unusedSimpArgs false
namespace Go.Proofs.YtgcmiahhkalfmaaGreat
section
open Go.RowKit
open Sw
variable {v:Lc} {k n t:Nat} {ids:Nat→Int} {D:Nat→Prop} {ps:Nat→Sw.T} {rs:Sw.Rs} {p p':Sw.T}
def scA (k:Nat):Opn:=
 if k%6=0 then ⟨1,0,0,0,0,0,0⟩ else if k%6=1 then ⟨12,1,0,0,0,k/6,1⟩ else if k%6=2 then ⟨4,0,1,0,2,0,0⟩ else if k%6=3 then ⟨7,2,0,0,0,0,0⟩ else if k%6=4 then ⟨4,0,2,0,k/6%2,0,0⟩ else ⟨8,0,0,0,k/6%2,0,0⟩
def scB (k:Nat):Opn:=
 if k%6=0 then ⟨7,0,0,0,k/6%2,0,0⟩ else if k%6=1 then ⟨3,1,0,0,2,0,0⟩ else if k%6=2 then ⟨13,2,0,0,0,0,0⟩ else if k%6=3 then ⟨4,0,2,0,0,0,0⟩ else if k%6=4 then ⟨4,0,2,0,1,0,0⟩ else ⟨3,1,0,0,2,0,0⟩
def scs (t:Nat):Nat→Opn:=if t=0 then scA else scB
theorem r6 (k:Nat):k%6=0∨k%6=1∨k%6=2∨k%6=3∨k%6=4∨k%6=5:=by omega
theorem scA_ok (h:k<360):Sw.OpOk (scA k):=by
 unfold scA
 rcases r6 k with e|e|e|e|e|e<;>simp only [e]<;>(constructor<;>simp<;>omega)
theorem scB_ok (k:Nat):Sw.OpOk (scB k):=by
 unfold scB
 rcases r6 k with e|e|e|e|e|e<;>simp only [e]<;>(constructor<;>simp<;>omega)
theorem scB_kd (k:Nat):(scB k).kd≠1:=by
 unfold scB
 rcases r6 k with e|e|e|e|e|e<;>simp [e]
theorem scs_ok (hn:n≤60):∀ t,t<2→∀ i,i<6*n→Sw.OpOk (scs t i):=fun t ht i hi=>by
 unfold scs
 split
 · exact scA_ok (by omega)
 · exact scB_ok i
theorem scs_mk:∀ t i,t<2→i<6*n→(scs t i).kd=1→t=0:=fun t i ht hi h=>by
 unfold scs at h
 split at h
 · assumption
 · exact absurd h (scB_kd i)
def LkOk (t:Nat) (p:Sw.T):Prop:=
 p.ph≠4→(t=0→(p.l 1).ref=false∧(4≤p.nx→(p.l 2).ref=true))∧(t=1→3≤p.nx→(p.l 2).ref=true)
section
variable {q q':Q} {y y':Y} {g:Gr}
theorem dI (h:LkOk t p) (e1:p.ph≠4) (e2:p'.nx=p.nx) (e3:p'.l=p.l):LkOk t p':=fun _=>by rw [e2,e3];exact h e1
theorem lE (h:LkOk t p) (e1:p.ph≠4) (e2:p'.nx=p.nx+1) (e3:p'.l=p.l) (h3:t=0→p.nx%6≠3) (h2:t=1→p.nx%6≠2):LkOk t p':=fun _=>by
 rw [e2,e3]
 refine ⟨fun h0=>⟨((h e1).1 h0).1,fun h4=>((h e1).1 h0).2 ?_⟩,fun h0 h4=>(h e1).2 h0 ?_⟩
 · have:=h3 h0;omega
 · have:=h2 h0;omega
theorem lk_lay (h:LkOk t p) (e1:p.ph≠4) (ht:t<2) (hv:(t=0∧((p.nx%6=0∧(scs t p.nx).a=0)∨(p.nx%6=1∧(scs t p.nx).a=1∧v.ref=false)∨(p.nx%6=3∧(scs t p.nx).a=2∧v.ref=true)))∨
 (t=1∧((p.nx%6≠2∧(scs t p.nx).a≠2)∨(p.nx%6=2∧v.ref=true∧(scs t p.nx).a=2)))):LkOk t (p.lay (scs t p.nx).a v).1:=fun _=>by
 have ho:=h e1
 have e2:(p.lay (scs t p.nx).a v).1.nx=p.nx+1:=rfl
 have e3:∀ j,(p.lay (scs t p.nx).a v).1.l j=if j=(scs t p.nx).a then v else p.l j:=fun j=>rfl
 rw [e2,e3,e3]
 rcases hv with ⟨h0,hv⟩|⟨h0,hv⟩
 · refine ⟨fun _=>?_,fun h1=>by omega⟩
   obtain ⟨a1,a2⟩:=ho.1 h0
   rcases hv with ⟨e,ea⟩|⟨e,ea,er⟩|⟨e,ea,er⟩<;>rw [ea]
   · exact ⟨a1,fun h4=>a2 (by omega)⟩
   · exact ⟨er,fun h4=>a2 (by omega)⟩
   · exact ⟨a1,fun _=>er⟩
 · refine ⟨fun h1=>by omega,fun _ h3=>?_⟩
   rcases hv with ⟨e,ea⟩|⟨e,er,ea⟩
   · rw [if_neg (fun h=>ea h.symm)];exact ho.2 h0 (by omega)
   · rw [ea];exact er
theorem sc0 (h:t=0) (k:Nat):scs t k=scA k:=by unfold scs;rw [if_pos h]
theorem sc1 (h:t=1) (k:Nat):scs t k=scB k:=by unfold scs;rw [if_neg (by omega)]
theorem sc_kd (ht:t<2) (k:Nat):
 ((scs t k).kd=1→t=0∧k%6=0∧(scs t k).a=0)∧((scs t k).kd=12→t=0∧k%6=1∧(scs t k).a=1)∧((scs t k).kd=13→t=1∧k%6=2∧(scs t k).a=2)∧
 ((scs t k).kd=7→(t=0∧k%6=3∧(scs t k).a=2)∨(t=1∧k%6≠2∧(scs t k).a≠2))∧((scs t k).kd=3→t=1∧k%6≠2∧(scs t k).a≠2∧(k%6=1∨k%6=5))∧
 ((scs t k).kd=4→(t=0→k%6≠3)∧(t=1→k%6≠2))∧((scs t k).kd=8→(t=0→k%6≠3)∧(t=1→k%6≠2))∧(scs t k).kd≠11:=by
 have:t=0∨t=1:=by omega
 rcases this with h|h
 · rw [sc0 h];unfold scA
   rcases r6 k with e|e|e|e|e|e<;>simp [e,h]
 · rw [sc1 h];unfold scB
   rcases r6 k with e|e|e|e|e|e<;>simp [e,h]
theorem lk_ts (I:Sw.Inv (fun _=>6*n) scs D q y ps) (ht:t<2) (L:LkOk t (ps t)) (h:TS cS t (6*n) (scs t) q (ps t) q' p' rs):LkOk t p':=by
 have A:=(I.t t ht).a
 have S:=sc_kd ht (ps t).nx
 have kdw:3≤(ps t).at_→(ps t).at_≤6→(ps t).ph=2→(scs t (ps t).nx).kd=4∨(scs t (ps t).nx).kd=8:=fun a b c=>by
  cases A with
  | writ _ _ _ _ w=>exact w.kd
  | out ph|gone ph|idle ph|wait ph=>omega
  | ans ph=>rcases ph with ph|⟨ph,_⟩<;>omega
  | start _ at_|read _ at_|make _ at_|born _ at_=>omega
 have w4:(scs t (ps t).nx).kd=4∨(scs t (ps t).nx).kd=8→(t=0→(ps t).nx%6≠3)∧(t=1→(ps t).nx%6≠2):=fun h=>h.elim S.2.2.2.2.2.1 S.2.2.2.2.2.2.1
 cases h with
 | out h=>exact dI L (by omega) rfl rfl
 | go h|quit h|drain h=>exact dI L (by omega) rfl rfl
 | look h=>exact dI L (by omega) rfl rfl
 | grey h=>exact dI L (by omega) rfl rfl
 | answer h=>exact dI L (by omega) rfl rfl
 | leave h=>intro h4;exact absurd rfl h4
 | gone h=>intro h4;exact absurd h h4
 | err h ha he=>
  refine lE L (by omega) rfl rfl ?_ ?_<;>intro h0 h3
  · apply he;unfold opEr must;rw [sc0 h0];unfold scA;simp [h3]
  · apply he;unfold opEr must;rw [sc1 h0];unfold scB;simp [h3]
 | num h ha k=>obtain ⟨a,b,c⟩:=S.2.1 k;exact lk_lay L (by omega) ht (.inl ⟨a,.inr (.inl ⟨b,c,rfl⟩)⟩)
 | clear h ha k=>obtain ⟨a,b,c⟩:=S.2.2.1 k;exact lk_lay L (by omega) ht (.inr ⟨a,.inr ⟨b,rfl,c⟩⟩)
 | kind h ha k=>exact absurd k S.2.2.2.2.2.2.2
 | ask h=>exact dI L (by omega) rfl rfl
 | wait h=>exact dI L (by omega) rfl rfl
 | load h=>exact dI L (by omega) rfl rfl
 | storeK h ha k=>exact lE L (by omega) rfl rfl (w4 (.inl k)).1 (w4 (.inl k)).2
 | store h=>exact dI L (by omega) rfl rfl
 | see h ha k=>
  rcases S.2.2.2.1 k with ⟨a,b,c⟩|⟨a,b,c⟩
  · exact lk_lay L (by omega) ht (.inl ⟨a,.inr (.inr ⟨b,c,rfl⟩)⟩)
  · exact lk_lay L (by omega) ht (.inr ⟨a,.inl ⟨b,c⟩⟩)
 | setOld h=>exact dI L (by omega) rfl rfl
 | setNow h ha k=>exact lE L (by omega) rfl rfl (w4 (.inr k)).1 (w4 (.inr k)).2
 | read h ha=>
  have k:(scs t (ps t).nx).kd=3:=by
   cases A with
   | read _ _ _ _ kd=>exact kd
   | out ph|gone ph|idle ph|wait ph=>omega
   | ans ph=>rcases ph with ph|⟨ph,_⟩<;>omega
   | start _ at_|writ _ at_|make _ at_|born _ at_=>omega
  obtain ⟨a,b,c,_⟩:=S.2.2.2.2.1 k
  exact lk_lay L (by omega) ht (.inr ⟨a,.inl ⟨b,c⟩⟩)
 | old h=>exact dI L (by omega) rfl rfl
 | greyOld h=>exact dI L (by omega) rfl rfl
 | greyNew h=>exact dI L (by omega) rfl rfl
 | write h ha=>have k:=kdw (by omega) (by omega) h;exact lE L (by omega) rfl rfl (w4 k).1 (w4 k).2
 | make h=>exact dI L (by omega) rfl rfl
 | born h ha=>
  have k:(scs t (ps t).nx).kd=1:=by
   cases A with
   | born _ _ k=>exact k.kd
   | out ph|gone ph|idle ph|wait ph=>omega
   | ans ph=>rcases ph with ph|⟨ph,_⟩<;>omega
   | start _ at_|writ _ at_|make _ at_|read _ at_=>omega
  obtain ⟨a,b,c⟩:=S.1 k
  exact lk_lay L (by omega) ht (.inl ⟨a,.inl ⟨b,c⟩⟩)
 | same h|still h|granted h=>exact dI L (by omega) rfl rfl
 | failed h=>
  have k:(scs t (ps t).nx).kd=1:=by
   cases A with
   | wait _ _ k=>exact k.kd
   | ans _ _ _ _ pc=>omega
   | out ph|gone ph|idle ph|start ph|read ph|writ ph|make ph|born ph=>omega
  obtain ⟨a,b,c⟩:=S.1 k
  exact lE L (by omega) rfl rfl (fun _=>by omega) (fun h1=>by omega)
theorem lk_no (ht:t<2) (L:LkOk t p) (hph:p.ph=2) (hk:(scs t p.nx).kd=4):(p.l (scs t p.nx).b).ref=cS.refs.getD (scs t p.nx).n false:=by
 have ho:=L (by omega)
 have:t=0∨t=1:=by omega
 rcases this with h|h
 · rw [sc0 h] at hk ⊢
   unfold scA at hk ⊢
   rcases r6 p.nx with e|e|e|e|e|e<;>simp only [e] at hk ⊢<;>simp at hk ⊢
   · rw [(ho.1 h).1];rfl
   · rw [(ho.1 h).2 (by omega)]
     have:p.nx/6%2=0∨p.nx/6%2=1:=by omega
     rcases this with e2|e2<;>rw [e2]<;>rfl
 · rw [sc1 h] at hk ⊢
   unfold scB at hk ⊢
   rcases r6 p.nx with e|e|e|e|e|e<;>simp only [e] at hk ⊢<;>simp at hk ⊢
   · rw [ho.2 h (by omega)];rfl
   · rw [ho.2 h (by omega)];rfl
structure Mok (n:Nat) (q:Q) (y:Y) (ps:Nat→Sw.T) (ids:Nat→Int) (g:Gr):Prop where
 i:∃ D,Sw.Inv (fun _=>6*n) scs D q y ps
 x:Aux q y
 k:∀ t,t<2→LkOk t (ps t)
 r:Rel ids g q y ps
theorem mok_cyc (h:Mok n q y ps ids g) (hn:n≤60):∃ q' y',(∀ A b,bC A cS b q y q' y')∧Mok n q' y' ps ids g:=by
 obtain ⟨D,I⟩:=h.i
 obtain ⟨q',y',hs,hr⟩:=ccan I h.x
 have ok:=scs_ok hn
 have hst:=I.c.st
 obtain ⟨D',J⟩:∃ D',Sw.Inv (fun _=>6*n) scs D' q' y' ps:=by
  by_cases h4:y.st≤4
  · exact cs_inv4 I ok hs h4
  · by_cases h5:y.st=5
    · exact cs_inv5 I ok hs h5
    · by_cases h8:y.st≤8
      · exact cs_inv6 I hs (by omega) h8
      · exact cs_inv9 I ok hs (by omega)
 exact ⟨q',y',hr,⟨D',J⟩,aux_cs h.x hs,h.k,cs_rel I J hs h.r⟩
theorem mok_thr (h:Mok n q y ps ids g) (hn:n≤60) (ht:t<2):∃ q' p' rs,(∀ A a,bG A cS a t (6*n) (scs t) q (ps t) q' p' rs)∧(∀ g',Rel ids g' q' y (Sw.set ps t p')→Mok n q' y (Sw.set ps t p') ids g')∧(∀ ids' g',Rel ids' g' q' y (Sw.set ps t p')→Mok n q' y (Sw.set ps t p') ids' g')∧
 (rs.d=false→Rel ids (if (ps t).ph=0 then g.join t else if (ps t).ph≠4∧p'.ph=4 then g.quit t else g) q' y (Sw.set ps t p'))∧
 (rs.d=true→(ps t).here∧p'.here∧(ps t).nx<6*n∧Sw.Told ids g q' y ps t (scs t (ps t).nx) (ps t) p' rs)∧TS cS t (6*n) (scs t) q (ps t) q' p' rs:=by
 obtain ⟨D,I⟩:=h.i
 have ok:=scs_ok hn
 obtain ⟨q',p',rs,hs,hr⟩:=can_all I ok scs_mk ht (by show 6*n≤1000;omega) (fun hph hk _=>lk_no ht (h.k t ht) hph hk)
 obtain ⟨D',J,la⟩:=ts_inv I ok scs_mk ht hs
 have hk:=lk_ts I ht (h.k t ht) hs
 have hk2:∀ s,s<2→LkOk s (Sw.set ps t p' s):=fun s h2=>by
  unfold Sw.set;split
  · next e=>subst e;exact hk
  · exact h.k s h2
 obtain ⟨r1,r2⟩:=ts_rel I J ok scs_mk ht hs la h.r
 exact ⟨q',p',rs,hr,fun g' R=>⟨⟨D',J⟩,aux_ts h.x hs,hk2,R⟩,fun ids' g' R=>⟨⟨D',J⟩,aux_ts h.x hs,hk2,R⟩,r1,r2,hs⟩
end
def g00:Gr:=⟨0,fun _ _=>w0,fun _=>wN,fun _ _=>Sw.lc0,fun _=>false⟩
theorem al_no (i:Nat):¬Al (q0 cS) y00 i:=fun h=>by have:=h.2.1;simp [q0,fM] at this
theorem m0_gl (k:Nat) (h:k<2):(q0 cS).m (312+k)=wN:=by
 show m0 cS (312+k)=wN
 unfold m0
 rw [if_pos (by show 24*8+60+60+0≤312+k;omega)]
theorem mok_first (n:Nat):Mok n (q0 cS) y00 (fun _=>p00) (fun _=>-1) g00 where
 i:=⟨fun _=>False,{
  b:=⟨fun i _=>.inl ⟨rfl,rfl,rfl⟩,fun i h=>absurd h (al_no i),fun g hg=>.inl (m0_gl g hg),by simp [q0],by simp [q0],rfl⟩
  c:=by constructor<;>simp [y00,q0,fM]
  t:=fun t ht=>⟨fun j _=>⟨fun h=>by simp [p00,Go.Proofs.YtgcmiahhkalfmaaGreat.lc0] at h,fun _=>.inl rfl⟩,.out rfl rfl fun j _=>rfl⟩
  ln:=⟨fun _=>rfl,fun h=>by simp [p00] at h⟩
  d3:=by simp [y00]
  t3:=by simp [y00]
  s4:=by simp [y00]
  t4:=by simp [y00]}⟩
 x:=⟨by simp [y00],fun r h=>by simp [q0] at h⟩
 k:=fun t ht h=>⟨fun _=>⟨rfl,by simp [p00]⟩,by simp [p00]⟩
 r:=⟨fun i h=>absurd h (al_no i),fun i j h=>absurd h (al_no i),fun i h=>absurd h (al_no i),fun k hk=>.inl ⟨m0_gl k hk,rfl⟩,fun t _ h=>by simp [p00,T.here] at h,fun t _=>by simp [p00,T.here,g00]⟩
end
section
attribute [local go_sem] aF aI aO aV
open Go.Proofs.Tryz
open Go.RowKit
variable {args:Array Value} {A:CA} {c:Cf} {f:FuncId} {steps:Int} {m:Lc} {n t wb:Nat} {go jo:Nat→Bool} {ids ids':Nat→Int} {no:Nat→Nat} {sc:Nat→Nat→Opn} {S:Nat→Prop} {p:Nat→Sw.T} {fa:Nat→TA} {g g':Sw.Gr} {q q':Sw.Q} {rs:Sw.Rs} {p':Sw.T} {y y':Sw.Y} {H O:aC} {kv sv v:Value} {w w':World}
section
variable {yb hb:Nat}
theorem hp_step_thr (hn:n≤16) (ht:t<n) (hs:bG A c (fa t) t (no t) (sc t) q (p t) q' p' rs) (h:(Hp A c q yb y hb sv n fa no sc steps p).at_ S w):
 Calls prog 11 #[.pointer (some ⟨hb,0,none⟩),.int .i64 ((t:Int)+1)] w fun e w'=>∃ ow:Int,e=.returned (tkV ((t:Int)+1) (rsOf rs ow))∧aA (Hp A c q' yb y hb sv n fa no sc (wrap64 (steps+1)) (Sw.set p t p')) S w w':=by
 obtain ⟨sg,so,scap,hsv,_,_⟩:=bN (aA.begin h).l.r.is
 have g0:=((aA.begin h).moreSt (St.fresh (bW 0 rs0) 43)).moreSt (St.fresh (bW ((t:Int)+1) rs0) 43)
 rw [World.size_alloc] at g0
 obtain ⟨rb,hrb⟩:∃ k,w.heap.size=k:=⟨_,rfl⟩
 obtain ⟨xb,hxb⟩:∃ k,rb+1=k:=⟨_,rfl⟩
 rw [hrb,hxb] at g0
 have c2:=g0.l.l.l.l.vC 2 sv
 rw [hsv] at c2
 have c3:=g0.l.l.l.l.vi 3 steps
 have f3:=g0.l.l.l.l.vf 3
 have g1:aA (Sep (Sep (Hp A c q yb y hb sv n fa no sc (wrap64 (steps+1)) p) (Var rb (bW 0 rs0) 43)) (Var xb (bW ((t:Int)+1) rs0) 43)) S w _:=g0.then (aG (aG (aG (aG (fun S h=>(aA.begin h).vput 3 (.int .i64 (wrap64 (steps+1))) (cs':=eD A.b yb sv (wrap64 (steps+1))) rfl)))))
 have HSV:=zz hsv
 have HPT:=zz (show (fQ fa n)[t]? = some (.pointer (some ⟨(fa t).b,0,none⟩)) by unfold fQ ptrs;simp [ht])
 have g2:=g1.drew_
 have HL:=zz ((((ths_step (yb:=yb) (y:=y) ht hs _).r (B:=Sep (Var hb (eD A.b yb sv (wrap64 (steps+1))) 87) (Seq 1 sv n (fQ fa n)))).lX' (Var rb (bW 0 rs0) 43) (Var xb (bW ((t:Int)+1) rs0) 43)).on g2)
 have d0:decide ((t:Int)+1<0)=false:=by simp;omega
 have d1:decide ((t:Int)+1>(n:Int))=false:=by simp;omega
 have d2:decide ((t:Int)+1=0)=false:=by simp;omega
 have e1:IntKind.i64.wrap (t:Int)=(t:Int):=(by decide:∀ k:Fin 16,IntKind.i64.wrap (k.val:Int)=k.val) ⟨t,by omega⟩
 have hlt:(t:Int)<(n:Int):=by omega
 unfold tkV
 simp only [bW,rs0] at*
 unfold Rs.v at HL
 clear h hsv g0 g1 hs
 go_enter func11,ntmps11
 go_upto_region 4 with fail
 generalize (w.alloc _).alloc _=w1 at*
 go_upto_region 5 with fail
 generalize World.setCell _ _ _=w2 at*
 clear c2 c3 f3
 go_upto_region 8 with fail
 refine wp_region_held_drew (S:=fun w'=>w'.cell? ⟨hb,2,none⟩=some (.slice (some ⟨sg,so,none⟩) n scap)∧w'.cell? ⟨hb,0,none⟩=some (.pointer (some ⟨A.b,0,none⟩))∧w'.cell? ⟨sg,so+t,none⟩=some (.pointer (some ⟨(fa t).b,0,none⟩))) (by kernel_rfl) ⟨by have:=g2.l.l.l.l.vC 2 sv;rw [HSV.out] at this;exact this,g2.l.l.l.l.vp 0 A.b,by have:=g2.l.l.l.r;rw [HSV.out] at this;exact this.seq HPT.out⟩ (fun hHeld=>?_)
 generalize w2.drew=wd at*
 clear d0 d1 d2
 refine tk 0 ?_
 refine tk 1 ?_
 refine tk 2 ?_
 refine tk 3 ?_
 refine tk 4 ?_
 refine tk 5 ?_
 refine tk 6 ?_
 refine tk 7 ?_
 refine tk 8 ?_
 refine tk 9 ?_
 refine tk 10 ?_
 refine tk 11 ?_
 clear g2 hHeld
 refine rdy 12 fun K hK=>?_
 go_simp
 with_reducible refine HL.out.mono ?_
 rintro e w4 ⟨z,⟨rfl,hR⟩,hgx⟩
 have hg:aA (Sep (Sep (Hp A c q' yb y hb sv n fa no sc (wrap64 (steps+1)) (Sw.set p t p')) (Var rb #[.int .i64 0,.bool false,.int .i64 0,.int .i64 0,.int .i64 0,.bool false,.complex .f64 0 0] 43)) (Var xb #[.int .i64 ((t:Int)+1),.bool false,.int .i64 0,.int .i64 0,.int .i64 0,.bool false,.complex .f64 0 0] 43)) S w w4:=hgx
 have HR:=zz hR
 clear HL hgx hR
 go_wp2_with fail
 refine hon hK (⟨by have:=hg.l.l.l.l.vC 2 sv;rw [HSV.out] at this;exact this,hg.l.l.l.l.vp 0 A.b,by have:=hg.l.l.l.r;rw [HSV.out] at this;exact this.seq HPT.out⟩) fun hHeld=>?_
 clear hK K
 refine tk 13 ?_
 refine tk 14 ?_
 refine tk 15 ?_
 refine tk 16 ?_
 have x0:=hg.r.vi 0 ((t:Int)+1)
 have f0:=hg.r.vf 0
 have x1:=hg.r.vb 1 false
 have f1:=hg.r.vf 1
 have x2:=hg.r.vi 2 0
 have f2:=hg.r.vf 2
 have x3:=hg.r.vi 3 0
 have f3:=hg.r.vf 3
 have x4:=hg.r.vi 4 0
 have f4:=hg.r.vf 4
 have x5:=hg.r.vb 5 false
 have f5:=hg.r.vf 5
 have x6:=hg.r.vC 6 (.complex .f64 0 0)
 have f6:=hg.r.vf 6
 have gA:aA (Sep (Sep (Hp A c q' yb y hb sv n fa no sc (wrap64 (steps+1)) (Sw.set p t p')) (Var rb #[.int .i64 0,.bool false,.int .i64 0,.int .i64 0,.int .i64 0,.bool false,.complex .f64 0 0] 43)) (Var xb #[.int .i64 ((t:Int)+1),.bool false,.int .i64 z.nx,.int .i64 z.own,.int .i64 z.er,.bool z.r,.complex .f64 z.z1 z.z2] 43)) S w _:=hg.then (aH (fun S h=>(((((aA.begin h).vput 2 (.int .i64 z.nx) (cs':=#[.int .i64 ((t:Int)+1),.bool false,.int .i64 z.nx,.int .i64 0,.int .i64 0,.bool false,.complex .f64 0 0]) rfl).vput 3 (.int .i64 z.own) (cs':=#[.int .i64 ((t:Int)+1),.bool false,.int .i64 z.nx,.int .i64 z.own,.int .i64 0,.bool false,.complex .f64 0 0]) rfl).vput 4 (.int .i64 z.er) (cs':=#[.int .i64 ((t:Int)+1),.bool false,.int .i64 z.nx,.int .i64 z.own,.int .i64 z.er,.bool false,.complex .f64 0 0]) rfl).vput 5 (.bool z.r) (cs':=#[.int .i64 ((t:Int)+1),.bool false,.int .i64 z.nx,.int .i64 z.own,.int .i64 z.er,.bool z.r,.complex .f64 0 0]) rfl).vput 6 (.complex .f64 z.z1 z.z2) (cs':=#[.int .i64 ((t:Int)+1),.bool false,.int .i64 z.nx,.int .i64 z.own,.int .i64 z.er,.bool z.r,.complex .f64 z.z1 z.z2]) rfl))
 clear hHeld
 refine rdy 17 fun K hK=>?_
 go_simp
 go_wp2_with fail
 refine hon hK (⟨by have:=gA.l.l.l.l.vC 2 sv;rw [HSV.out] at this;exact this,gA.l.l.l.l.vp 0 A.b,by have:=gA.l.l.l.r;rw [HSV.out] at this;exact this.seq HPT.out⟩) fun hHeld=>?_
 clear hK K
 refine tk 18 ?_
 clear x0 x1 x2 x3 x4 x5 x6 f0 f1 f2 f3 f4 f5 f6 hg
 have x1:=gA.r.vb 1 false
 have f1:=gA.r.vf 1
 have gB:aA (Sep (Sep (Hp A c q' yb y hb sv n fa no sc (wrap64 (steps+1)) (Sw.set p t p')) (Var rb #[.int .i64 0,.bool false,.int .i64 0,.int .i64 0,.int .i64 0,.bool false,.complex .f64 0 0] 43)) (Var xb #[.int .i64 ((t:Int)+1),.bool z.d,.int .i64 z.nx,.int .i64 z.own,.int .i64 z.er,.bool z.r,.complex .f64 z.z1 z.z2] 43)) S w _:=gA.then (aH (fun S h=>(aA.begin h).vput 1 (.bool z.d) rfl))
 clear hHeld
 refine rdy 19 fun K hK=>?_
 go_simp
 go_wp2_with fail
 refine hon hK (⟨by have:=gB.l.l.l.l.vC 2 sv;rw [HSV.out] at this;exact this,gB.l.l.l.l.vp 0 A.b,by have:=gB.l.l.l.r;rw [HSV.out] at this;exact this.seq HPT.out⟩) fun hHeld=>?_
 clear hK K
 refine wpAnyH_done (by kernel_rfl) ?_ _
 clear hHeld gA x1 f1
 have HB:=zz gB
 clear gB
 generalize World.setCell _ _ _=w6 at*
 have gB:=HB.out
 clear HB
 have x0:=gB.r.vi 0 ((t:Int)+1)
 have r0:=gB.l.r.vi 0 0
 have f0:=gB.l.r.vf 0
 have x1:=gB.r.vb 1 z.d
 have r1:=gB.l.r.vb 1 false
 have f1:=gB.l.r.vf 1
 have x2:=gB.r.vi 2 z.nx
 have r2:=gB.l.r.vi 2 0
 have f2:=gB.l.r.vf 2
 have x3:=gB.r.vi 3 z.own
 have r3:=gB.l.r.vi 3 0
 have f3:=gB.l.r.vf 3
 have x4:=gB.r.vi 4 z.er
 have r4:=gB.l.r.vi 4 0
 have f4:=gB.l.r.vf 4
 have x5:=gB.r.vb 5 z.r
 have r5:=gB.l.r.vb 5 false
 have f5:=gB.l.r.vf 5
 have x6:=gB.r.vC 6 (.complex .f64 z.z1 z.z2)
 have r6:=gB.l.r.vC 6 (.complex .f64 0 0)
 have f6:=gB.l.r.vf 6
 have gz:=gB.then (aG (aH (fun S h=>(aA.begin h).p7 (.int .i64 ((t:Int)+1)) (.bool z.d) (.int .i64 z.nx) (.int .i64 z.own) (.int .i64 z.er) (.bool z.r) (.complex .f64 z.z1 z.z2))))
 have k0:=gz.l.r.vi 0 ((t:Int)+1)
 have k1:=gz.l.r.vb 1 z.d
 have k2:=gz.l.r.vi 2 z.nx
 have k3:=gz.l.r.vi 3 z.own
 have k4:=gz.l.r.vi 4 z.er
 have k5:=gz.l.r.vb 5 z.r
 have k6:=gz.l.r.vC 6 (.complex .f64 z.z1 z.z2)
 have HF:=zz gz.l.l
 clear gz gB
 go_wp2_with fail
 (try rw [aI])
 exact bodyPost_ret (v:=.agg #[.int .i64 ((t:Int)+1),.bool z.d,.int .i64 z.nx,.int .i64 z.own,.int .i64 z.er,.bool z.r,.complex .f64 z.z1 z.z2]) (by simp [results,results11,go_sem,k0,k1,k2,k3,k4,k5,k6]) rfl (by obtain ⟨ow,hz⟩:=HR.out;subst hz;exact ⟨ow,rfl,HF.out⟩)
end
structure WkX where
 hb:Nat
 gb:Nat
 ob:Nat
 oo:Nat
 oc:Nat
 ib:Nat
 ic:Nat
 jb:Nat
 nb:Nat
def wkC (X:WkX) (kv:Value):Array Value:=#[.pointer (some ⟨X.hb,0,none⟩),.pointer (some ⟨X.gb,0,none⟩),.slice (some ⟨X.ob,X.oo,none⟩) 2 X.oc,.slice (some ⟨X.ib,0,none⟩) 24 X.ic,kv,.slice (some ⟨X.jb,0,none⟩) 2 2,.slice (some ⟨X.nb,0,none⟩) 2 2]
def idM (ids:Nat→Int) (j:Nat):Value:=.int .i64 (ids j)
def bM (f:Nat→Bool) (j:Nat):Value:=.bool (f j)
def WkU (wb:Nat) (X:WkX) (ids:Nat→Int) (kv:Value):aC:=Sep (Var wb (wkC X kv) 52) (Vgs X.ib 24 3 (idM ids))
def WkV (wb:Nat) (X:WkX) (ids:Nat→Int) (n:Nat):aC:=Ex fun h:Value×List Value=>Sep (WkU wb X ids h.1) (cQ 3 1 h.1 n h.2)
def VlOk (ids:Nat→Int) (v m:Lc):Prop:=
 (v=⟨true,0,1⟩∧m=⟨true,0,1⟩)∨(∃ i d:Nat,i<24∧d≤60∧ids i=d∧v=⟨true,i+1,1⟩∧m=⟨true,d+1,1⟩)∨∃ k i,k≤63∧i≤63∧v=⟨false,k,i⟩∧m=⟨false,k,i⟩
def lcV (v:Lc):Value:=.agg #[.bool v.ref,cx v.k v.i]
section
variable {X:WkX} {v:Lc}
theorem wk_valueU (hv:VlOk ids v m) (w:World):aJ prog 17 #[.pointer (some ⟨wb,0,none⟩),lcV v,lcV m] w (WkU wb X ids kv) (.bool true) (WkU wb X ids kv):=by
 intro S h
 have g0:=((aA.begin h).moreSt (St.fresh #[.bool v.ref,cx v.k v.i] 39)).moreSt (St.fresh #[.bool m.ref,cx m.k m.i] 39)
 rw [World.size_alloc] at g0
 have a0:=g0.l.r.vb 0 v.ref
 have a1:=g0.l.r.vC 1 (cx v.k v.i)
 have b0:=g0.r.vb 0 m.ref
 have b1:=g0.r.vC 1 (cx m.k m.i)
 have c3:=g0.l.l.l.vC 3 (.slice (some ⟨X.ib,0,none⟩) 24 X.ic)
 have cv:∀ j,j<24→_:=fun j hj=>eS g0.l.l.r.is (j:=j) hj
 have HF:=zz g0.l.l
 unfold lcV
 clear h g0
 rcases hv with ⟨rfl,rfl⟩|⟨i,d,hi,hd,he,rfl,rfl⟩|⟨k,i,hk,hi,rfl,rfl⟩
 · have HI:=zz fun w=>sr_index 0 1 w (by omega) (by omega)
   have HW:=zz fun w=>kU 0 1 0 1 w (by omega) (by omega) (by omega) (by omega)
   have e1:ixI 0 1=0:=rfl
   have e2:ixB 0 1=false:=rfl
   rw [e1,e2] at HI
   unfold cx at*
   clear cv
   go_enter func17,ntmps17
   go_upto_region 1 with fail
   generalize (w.alloc _).alloc _=w1 at*
   generalize w.heap.size=k at*
   go_wp2_with fail
   refine qq (HI.out _) ?_
   go_wp2_with fail
   refine qq (HI.out _) ?_
   go_wp2_with fail
   refine qq (HW.out _) ?_
   go_wp2_with fail
   go_ret
   exact ⟨rfl,HF.out⟩
 · have ci:=cv i hi
   unfold idM at ci
   rw [he] at ci
   have HI:=zz fun w=>gG (d:=i) (by omega) w
   have HJ:=zz fun w=>gG (d:=d) (by omega) w
   have h0:(0:Int)≤(i:Int):=by omega
   have h1:(i:Int)<24:=by omega
   unfold cx at*
   clear cv
   go_enter func17,ntmps17
   go_upto_region 1 with fail
   generalize (w.alloc _).alloc _=w1 at*
   generalize w.heap.size=k at*
   go_wp2_with fail
   refine qq (HI.out _) ?_
   go_wp2_with fail
   refine qq (HJ.out _) ?_
   go_wp2_with fail
   go_ret
   exact ⟨rfl,HF.out⟩
 · have HW:=zz fun w=>kU k i k i w hk hi hk hi
   rw [show (k==k&&i==i)=true by simp] at HW
   unfold cx at*
   clear cv
   go_enter func17,ntmps17
   go_upto_region 1 with fail
   generalize (w.alloc _).alloc _=w1 at*
   generalize w.heap.size=kk at*
   go_wp2_with fail
   refine qq (HW.out _) ?_
   go_wp2_with fail
   go_ret
   exact ⟨rfl,HF.out⟩
theorem wk_value (hv:VlOk ids v m) (w:World):aJ prog 17 #[.pointer (some ⟨wb,0,none⟩),lcV v,lcV m] w (WkV wb X ids n) (.bool true) (WkV wb X ids n):=.ex fun h=>⟨h,(wk_valueU hv w).l⟩
end
inductive Flow (t:Nat) (o:Opn) (no:Nat) (p p':Sw.T) (rs:Sw.Rs) (ids:Nat→Int) (g:Sw.Gr) (jo go:Bool):(Nat→Int)→Sw.Gr→Bool→Prop
 | join:p.ph=0→jo=false→p'.ph=1→rs.d=false→g.th t=false→(∀ j,j<4→VlOk ids (p'.l j) ((g.join t).l t j))→Flow t o no p p' rs ids g jo go ids (g.join t) go
 | on:p.ph≠0→jo=true→p'.ph≠4→rs.d=false→g.th t=true→(∀ j,j<4→VlOk ids (p'.l j) (g.l t j))→Flow t o no p p' rs ids g jo go ids g go
 | leave:p.ph≠0→jo=true→p'.ph=4→rs.d=false→g.th t=true→go=false→Flow t o no p p' rs ids g jo go ids (g.quit t) true
 | gone:p.ph≠0→jo=true→p'.ph=4→rs.d=false→g.th t=false→go=true→Flow t o no p p' rs ids g jo go ids g true
 | done {ids':Nat→Int} {g':Sw.Gr} {v:Lc}:p.ph≠0→jo=true→p'.ph≠4→rs.d=true→g.th t=true→rs.nx=p.nx→p.nx<no→Sw.OpOk o→(∀ j,j<4→GLc g (g.l t j))→g.does t o (rs.er==6)=(g',rs.er,v)→(rs.er=0∨rs.er=3∨rs.er=4∨rs.er=6)→
  (rs.er=0∧o.kd=1∧(∃ got,got<24∧rs.r=true∧rs.z=Sw.wR got∧ids'=Sw.set ids got g.len∧g'.len=g.len+1)∨¬(rs.er=0∧o.kd=1)∧ids'=ids∧g'.len=g.len)→VlOk ids' (Sw.lcOf rs.r rs.z) v→(∀ j,j<4→VlOk ids' (p'.l j) (g'.l t j))→Flow t o no p p' rs ids g jo go ids' g' go
def WkN (O:aC) (wb:Nat) (X:WkX) (ids:Nat→Int) (n:Nat) (g:Sw.Gr) (jo go:Nat→Bool) (H:aC):aC:=
 Sep O (Sep (WkV wb X ids n) (Sep (GrO X.gb Sw.cS g) (Sep (Sep (bV X.jb 2 4 (bM jo)) (bV X.nb 2 4 (bM go))) H)))
def WkT (O:aC) (wb:Nat) (X:WkX) (ids:Nat→Int) (g:Sw.Gr) (jo go:Nat→Bool) (H:aC):aC:=WkN O wb X ids g.len g jo go H
section
variable {X:WkX}
theorem bJ (h:aA (WkN O wb X ids n g jo go H) S w w'):w'.cell? ⟨wb,0,none⟩=some (.pointer (some ⟨X.hb,0,none⟩))∧w'.cell? ⟨wb,1,none⟩=some (.pointer (some ⟨X.gb,0,none⟩))∧w'.cell? ⟨wb,2,none⟩=some (.slice (some ⟨X.ob,X.oo,none⟩) 2 X.oc)∧w'.cell? ⟨wb,3,none⟩=some (.slice (some ⟨X.ib,0,none⟩) 24 X.ic)∧
 w'.cell? ⟨wb,5,none⟩=some (.slice (some ⟨X.jb,0,none⟩) 2 2)∧w'.cell? ⟨wb,6,none⟩=some (.slice (some ⟨X.nb,0,none⟩) 2 2)∧(∀ j,j<2→w'.cell? ⟨X.jb,j,none⟩=some (.bool (jo j)))∧(∀ j,j<2→w'.cell? ⟨X.nb,j,none⟩=some (.bool (go j))):=by
 obtain ⟨⟨S1,⟨kv,h1⟩,hs1⟩,ht1⟩:=h.r.l
 have u:aA (WkU wb X ids kv.1) S w w':=(⟨⟨S1,h1,hs1⟩,ht1⟩:aA (Sep (WkU wb X ids kv.1) (cQ 3 1 kv.1 n kv.2)) S w w').l
 exact ⟨u.c 0 rfl,u.c 1 rfl,u.c 2 rfl,u.c 3 rfl,u.c 5 rfl,u.c 6 rfl,fun j hj=>aR h.r.r.r.l.l.is hj,fun j hj=>aR h.r.r.r.l.r.is hj⟩
theorem bM_set (f:Nat→Bool) (j:Nat) (z:Bool):bM (Sw.set f j z)=dH (bM f) j (.bool z):=by
 funext k
 unfold bM dH Sw.set
 by_cases e:k=j<;>simp [e]
theorem wk_jset (h:aA (WkT O wb X ids g jo go H) S w w') (z:Bool):aA (WkT O wb X ids g (Sw.set jo t z) go H) S w (w'.setCell ⟨X.jb,t,none⟩ (.bool z)):=
 h.then (aH (aH (aH (aG (aG (fun S h=>by rw [bM_set];exact dE h t _))))))
theorem wk_nset (h:aA (WkT O wb X ids g jo go H) S w w') (z:Bool):aA (WkT O wb X ids g jo (Sw.set go t z) H) S w (w'.setCell ⟨X.nb,t,none⟩ (.bool z)):=
 h.then (aH (aH (aH (aG (aH (fun S h=>by rw [bM_set];exact dE h t _))))))
theorem wk_jf (h:aA (WkT O wb X ids g jo go H) S w w') (j:Nat):w'.frozen? ⟨X.jb,j,none⟩=false:=bD h.r.r.r.l.l.is j
theorem wk_nf (h:aA (WkT O wb X ids g jo go H) S w w') (j:Nat):w'.frozen? ⟨X.nb,j,none⟩=false:=bD h.r.r.r.l.r.is j
theorem wk_gr (h:aJ prog f args w (GrO X.gb Sw.cS g) v (GrO X.gb Sw.cS g')) (he:g'.len=g.len):aJ prog f args w (WkT O wb X ids g jo go H) v (WkT O wb X ids g' jo go H):=by
 unfold WkT WkN
 rw [he]
 exact h.l.r.r
theorem wk_grN (h:aJ prog f args w (GrO X.gb Sw.cS g) v (GrO X.gb Sw.cS g')):aJ prog f args w (WkN O wb X ids n g jo go H) v (WkN O wb X ids n g' jo go H):=h.l.r.r
theorem wk_hp {α:Type} {R:α→Ending→Prop} {H':α→aC} (h:aN prog f args w H R H'):aN prog f args w (WkT O wb X ids g jo go H) R (fun x=>WkT O wb X ids g jo go (H' x)):=h.r.r.r.r
end
end
end Go.Proofs.YtgcmiahhkalfmaaGreat
