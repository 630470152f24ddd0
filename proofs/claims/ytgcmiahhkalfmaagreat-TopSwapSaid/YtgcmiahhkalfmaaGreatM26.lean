import Derived.Test.YtgcmiahhkalfmaaGreatM25
set_option maxRecDepth 100000
set_option maxHeartbeats 8000000
set_option linter.unusedVariables false
set_option linter.unusedSimpArgs false
namespace Go.Proofs.YtgcmiahhkalfmaaGreat
attribute [local go_sem] aF aI aO aV
open Go.Proofs.Tryz
open Go.RowKit
variable {args:Array Value} {r sn:Bool} {A:CA} {c:Cf} {f:FuncId} {b cap g n:Nat} {S:Nat→Prop} {P:Program} {q q':Sw.Q} {tr:Sw.Tr} {C C' K K' Kt V:aC} {v:Value} {w w':World}
structure Yc where
 st:Int
 at_:Int
 i:Int
 head:Int
 rs:Bool
 tr:Value
 h:Value
 sn:Bool
 sd:Int
 fi:Int
 fr:Int
 mv:Int
 sp:Int
def aW (y:Yc):Array Value:=#[.int .i64 y.st,.int .i64 y.at_,.int .i64 y.i,.int .i64 y.head,.bool y.rs,y.tr,y.h,.bool y.sn,.int .i64 y.sd,.int .i64 y.fi,.int .i64 y.fr,.int .i64 y.mv,.int .i64 y.sp,.int .i64 0]
def Cyc (b:Nat) (y:Yc) (K:aC):aC:=Sep (Var b (aW y) 151) K
def Yc.to (y:Yc) (s:Int):Yc:={y with st:=s,at_:=0,i:=0}
section
variable {y:Yc}
theorem cU (s:Int) (h:(Cyc b y K).at_ S w):
 Calls prog 65 #[.pointer (some ⟨b,0,none⟩),.int .i64 s] w fun e w'=>e=.returned (.tuple #[])∧aA (Cyc b (y.to s) K) S w w':=by
 have g0:=aA.begin h
 have c0:=g0.ci 0 y.st
 have c1:=g0.ci 1 y.at_
 have c2:=g0.ci 2 y.i
 have f0:=g0.fr 0
 have f1:=g0.fr 1
 have f2:=g0.fr 2
 have g1:aA (Cyc b (y.to s) K) S w _:=(((g0.put 0 (.int .i64 s) (cs':=aW {y with st:=s}) rfl).put 1 (.int .i64 0) (cs':=aW {y with st:=s,at_:=0}) rfl).put 2 (.int .i64 0) (cs':=aW (y.to s)) rfl)
 have HG:=zz g1
 clear h g0 g1
 go_enter func65,ntmps65
 go_wp2_with fail
 go_returns
 exact ⟨rfl,HG.out⟩
theorem jK (x:Int) (fl:Bool) (hx:0≤x) (hx4:x≤4) (w:World):aJ prog 126 #[.pointer (some ⟨A.bh,0,none⟩),.int .i64 x,.bool fl] w (aE A c q) (.bool true) (aE A c {q with st:=x,sn:=q.sn != fl}):=core_hn (hq_post x fl hx hx4 w)
theorem polls_t (h:(q.own n==-1||q.own n==q.st)=true):q.polls n=n+1:=by
 unfold Sw.Q.polls;rw [if_pos (by simpa using h)]
theorem polls_f (h:(q.own n==-1||q.own n==q.st)=false):q.polls n=n:=by
 unfold Sw.Q.polls;rw [if_neg (by intro e;rw [←Bool.not_eq_true] at h;exact h (by simpa using e))]
theorem int_beq (a b:Nat):((a:Int)==(b:Int))=decide (a=b):=by
 by_cases h:a=b
 · subst h;simp
 · simp only [h,decide_false];exact beq_eq_false_iff_ne.2 (by omega)
theorem iS (hc:c.ok) (hi:y.i=(n:Nat)) (hn:n<c.threads) (w:World):
 aJ prog 127 #[.pointer (some ⟨b,0,none⟩),.pointer (some ⟨A.b,0,none⟩)] w (Sep (aE A c q) (Cyc b y K)) (.bool (decide (q.polls n=c.threads))) (Sep (aE A c q) (Cyc b {y with i:=(q.polls n:Nat)} K)):=by
 intro S h
 have g1:=(aA.begin h).drew_
 have k12:=g1.l.cp 12 A.bh
 have d2:=g1.r.ci 2 y.i
 have HL:=zz ((lH (hq_poll (b:=A.bh) (q:=q) hn hc.threads.2 _)).l.on g1)
 rw [←hi] at HL
 have hw:wrap64 (y.i+1)=((n+1:Nat):Int):=by have:=hc.threads.2;unfold wrap64;omega
 have HW:=zz hw
 have HI:=zz hi
 obtain ⟨rb,hrb⟩:∃ rb,(q.own n==-1||q.own n==q.st)=rb:=⟨_,rfl⟩
 rw [hrb] at HL
 have HRB:=zz hrb
 obtain ⟨pn,hpn⟩:∃ pn,q.polls n=pn:=⟨_,rfl⟩
 rw [hpn]
 have HPN:=zz hpn
 clear g1 h hc hi hw hrb hpn hn
 go_enter func127,ntmps127
 go_wp2_with fail
 go_still_tail 8,(by kernel_rfl)
 change wpList _ _ _ _ _ w.drew
 generalize w.drew=w1 at*
 go_wp2_with fail
 refine qz HL.out fun w2 hg=>?_
 clear HL k12 d2
 cases rb with
 | false=>
  have hg1:=hg.drewN_
  have d2:=hg.r.ci 2 y.i
  have k3:=hg.l.ci 3 c.threads
  have HG:=zz hg
  clear hg hg1
  go_wp2_with fail
  go_quiet (fail)
  have HG2:=zz (HG.out.drewN_ nq)
  clear HG d2 k3
  go_wp2_with fail
  (try rw [aI])
  have hpn:=HPN.out
  rw [polls_f HRB.out] at hpn
  subst hpn
  refine bodyPost_ret (v:=.bool (y.i==(c.threads:Int))) (by simp [results,results127,go_sem]) rfl ⟨by rw [HI.out,int_beq],?_⟩
  rw [←HI.out];exact HG2.out
 | true=>
  have d2:=hg.r.ci 2 y.i
  have f2:=hg.r.fr 2
  have g3:aA (Sep (aE A c q) (Cyc b {y with i:=wrap64 (y.i+1)} K)) S w _:=hg.then (aH (fun S h=>(aA.begin h).put 2 (.int .i64 (wrap64 (y.i+1))) (cs':=aW {y with i:=wrap64 (y.i+1)}) rfl))
  have k3:=g3.l.ci 3 c.threads
  have HG:=zz g3
  clear hg g3
  go_upto_region 3 with fail
  generalize World.setCell _ _ _=w3 at*
  have d2:=HG.out.r.ci 2 (wrap64 (y.i+1))
  go_wp2_with fail
  go_quiet (fail)
  have HG2:=zz (HG.out.drewN_ nq)
  clear HG d2 k3
  go_wp2_with fail
  (try rw [aI])
  have hpn:=HPN.out
  rw [polls_t HRB.out] at hpn
  subst hpn
  refine bodyPost_ret (v:=.bool (wrap64 (y.i+1)==(c.threads:Int))) (by simp [results,results127,go_sem]) rfl ⟨by rw [HW.out,int_beq],?_⟩
  rw [←HW.out];exact HG2.out
theorem cy_follows (hc:c.ok) (hi0:y.i=(n:Nat)) (hn:n<c.frags) (w:World):
 aJ prog 133 #[.pointer (some ⟨b,0,none⟩),.pointer (some ⟨A.b,0,none⟩)] w (Sep (aE A c q) (Cyc b y K)) (.tuple #[]) (Sep (aE A c q) (Cyc b {y with at_:=if n+1=c.frags then 0 else 6,i:=if n+1=c.frags then 0 else ((n+1:Nat):Int)} K)):=by
 intro S h
 have hw:wrap64 (y.i+1)=((n+1:Nat):Int):=by have:=hc.frags.2;unfold wrap64;omega
 have HW:=zz hw
 clear hw hi0 hc hn
 have hsplit:(n+1=c.frags→∀ e,e=({y with at_:=0,i:=0}:Yc)→e={y with at_:=if n+1=c.frags then 0 else 6,i:=if n+1=c.frags then 0 else ((n+1:Nat):Int)})∧(¬n+1=c.frags→∀ e,e=({y with at_:=6,i:=((n+1:Nat):Int)}:Yc)→e={y with at_:=if n+1=c.frags then 0 else 6,i:=if n+1=c.frags then 0 else ((n+1:Nat):Int)}):=
  ⟨fun h e he=>by rw [he,if_pos h,if_pos h],fun h e he=>by rw [he,if_neg h,if_neg h]⟩
 obtain ⟨yf,hyf⟩:∃ yf,({y with at_:=if n+1=c.frags then 0 else 6,i:=if n+1=c.frags then 0 else ((n+1:Nat):Int)}:Yc)=yf:=⟨_,rfl⟩
 rw [hyf] at hsplit ⊢
 have HY:=zz hsplit
 clear hyf hsplit
 have g0:=aA.begin h
 have c1:=g0.r.ci 1 y.at_
 have c2:=g0.r.ci 2 y.i
 have f1:=g0.r.fr 1
 have f2:=g0.r.fr 2
 have g3:aA (Sep (aE A c q) (Cyc b {y with at_:=6,i:=wrap64 (y.i+1)} K)) S w _:=g0.then (aH (fun S h=>((aA.begin h).put 1 (.int .i64 6) (cs':=aW {y with at_:=6}) rfl).put 2 (.int .i64 (wrap64 (y.i+1))) (cs':=aW {y with at_:=6,i:=wrap64 (y.i+1)}) rfl))
 have HG:=zz g3
 clear h g0 g3
 go_enter func133,ntmps133
 go_upto_region 2 with fail
 generalize World.setCell (World.setCell _ _ _) _ _=w3 at*
 clear c1 c2 f1 f2
 have d2:=HG.out.r.ci 2 (wrap64 (y.i+1))
 have k0:=HG.out.l.ci 0 c.frags
 have HW:=HW.out
 generalize wrap64 (y.i+1)=i1 at*
 have HW:=zz HW
 by_cases hi:i1=(c.frags:Int)
 · have hd:decide (i1=(c.frags:Int))=true:=by simpa using hi
   go_wp2_with fail
   go_quiet (fail)
   have g4:=HG.out.drewN_ nq
   have c1:=g4.r.ci 1 6
   have c2:=g4.r.ci 2 i1
   have f1:=g4.r.fr 1
   have f2:=g4.r.fr 2
   have g5:aA (Sep (aE A c q) (Cyc b {y with at_:=0,i:=0} K)) S w _:=g4.then (aH (fun S h=>((aA.begin h).put 1 (.int .i64 0) (cs':=aW {y with at_:=0,i:=i1}) rfl).put 2 (.int .i64 0) (cs':=aW {y with at_:=0,i:=0}) rfl))
   have HG2:=zz g5
   clear g4 g5 d2 k0 HG
   go_wp2_with fail
   go_returns
   exact ⟨rfl,by have:=HY.out.1 (by have:=HW.out;omega) _ rfl;rw [←this];exact HG2.out⟩
 · have hd:decide (i1=(c.frags:Int))=false:=by simpa using hi
   go_wp2_with fail
   go_quiet (fail)
   have HG2:=zz (HG.out.drewN_ nq)
   clear HG d2 k0
   go_wp2_with fail
   go_returns
   exact ⟨rfl,by have:=HY.out.2 (by have:=HW.out;omega) _ rfl;rw [←this,←HW.out];exact HG2.out⟩
theorem cy_hands0 (st s:Int) (hc:c.ok) (hat:y.at_=0) (hi:y.i=(n:Nat)) (hn:n<c.threads) (w:World):
 aJ prog 67 #[.pointer (some ⟨b,0,none⟩),.pointer (some ⟨A.b,0,none⟩),.int .i64 st,.int .i64 s] w (Sep (aE A c q) (Cyc b y K)) (.tuple #[]) (Sep (aE A c q) (Cyc b {y with at_:=if q.polls n=c.threads then 2 else 0,i:=(q.polls n:Nat)} K)):=by
 intro S h
 have c1:=(aA.begin h).r.ci 1 y.at_
 rw [hat] at c1
 have HL:=zz (iS hc hi hn w S h)
 have HAT:=zz hat
 obtain ⟨pn,hpn⟩:∃ pn,q.polls n=pn:=⟨_,rfl⟩
 rw [hpn] at HL ⊢
 obtain ⟨rb,hrb⟩:∃ rb,decide (pn=c.threads)=rb:=⟨_,rfl⟩
 rw [hrb] at HL
 have hif:(if pn=c.threads then (2:Int) else 0)=if rb then 2 else 0:=by rw [←hrb];by_cases h:pn=c.threads<;>simp [h]
 rw [hif]
 clear h hc hi hn hpn hif hrb
 go_enter func67,ntmps67
 go_wp2_with fail
 refine qz HL.out fun w2 hg=>?_
 clear HL c1
 cases rb with
 | false=>
  have HG:=zz hg
  clear hg
  go_wp2_with fail
  go_returns
  refine ⟨rfl,?_⟩
  have:=HG.out
  have e:({y with i:=(pn:Nat)}:Yc)={y with at_:=if false=true then 2 else 0,i:=(pn:Nat)}:=by rw [←HAT.out];rfl
  rw [e] at this;exact this
 | true=>
  have c1:=hg.r.ci 1 y.at_
  have f1:=hg.r.fr 1
  have g3:aA (Sep (aE A c q) (Cyc b {y with at_:=2,i:=(pn:Nat)} K)) S w _:=hg.then (aH (fun S h=>(aA.begin h).put 1 (.int .i64 2) (cs':=aW {y with at_:=2,i:=(pn:Nat)}) rfl))
  have HG:=zz g3
  clear hg g3
  go_wp2_with fail
  go_returns
  exact ⟨rfl,HG.out⟩
theorem cy_hands1 (st s:Int) (hs:0≤st) (hs4:st≤4) (hat:¬y.at_=0) (w:World):
 aJ prog 67 #[.pointer (some ⟨b,0,none⟩),.pointer (some ⟨A.b,0,none⟩),.int .i64 st,.int .i64 s] w (Sep (aE A c q) (Cyc b y K)) (.tuple #[]) (Sep (aE A c {q with st:=st}) (Cyc b (y.to s) K)):=by
 intro S h
 have c1:=(aA.begin h).r.ci 1 y.at_
 have k12:=(aA.begin h).l.cp 12 A.bh
 have HL:=zz ((jK st false hs hs4 _).l.on (aA.begin h))
 clear h
 go_enter func67,ntmps67
 go_wp2_with fail
 refine qz HL.out fun w2 hg=>?_
 rw [show (q.sn != false)=q.sn by simp] at hg
 have HE:=zz (hg.call (cY fun S h=>cU s h))
 clear HL c1 k12 hg
 go_wp2_with fail
 refine qz HE.out fun w2 hg=>?_
 have HG:=zz hg
 clear HE hg
 go_wp2_with fail
 go_returns
 exact ⟨rfl,HG.out⟩
end
section
variable {y:Yc}
theorem cy_starts0 (hat:y.at_=0) (w:World):aJ prog 66 #[.pointer (some ⟨b,0,none⟩),.pointer (some ⟨A.b,0,none⟩)] w (Sep (aE A c q) (Cyc b y K)) (.tuple #[]) (Sep (aE A c {q with ln:=q.ln.map fun r=>{r with nt:=r.st==0}}) (Cyc b {y with at_:=2} K)):=by
 intro S h
 have c1:=(aA.begin h).r.ci 1 y.at_
 rw [hat] at c1
 have k11:=(aA.begin h).l.cp 11 A.bsp
 have HL:=zz ((core_sp (sp_begin _)).l.on (aA.begin h))
 clear h
 go_enter func66,ntmps66
 go_wp2_with fail
 refine qz HL.out fun w2 hgx=>?_
 have hg:aA (Sep (aE A c {q with ln:=q.ln.map fun r=>{r with nt:=r.st==0}}) (Cyc b y K)) S w w2:=hgx
 clear HL c1 k11 hgx
 have c1:=hg.r.ci 1 y.at_
 have f1:=hg.r.fr 1
 have g3:aA (Sep (aE A c {q with ln:=q.ln.map fun r=>{r with nt:=r.st==0}}) (Cyc b {y with at_:=2} K)) S w _:=hg.then (aH (fun S h=>(aA.begin h).put 1 (.int .i64 2) (cs':=aW {y with at_:=2}) rfl))
 have HG:=zz g3
 clear hg g3
 go_wp2_with fail
 go_returns
 exact ⟨rfl,HG.out⟩
theorem cy_starts1 (hat:¬y.at_=0) (w:World):aJ prog 66 #[.pointer (some ⟨b,0,none⟩),.pointer (some ⟨A.b,0,none⟩)] w (Sep (aE A c q) (Cyc b y K)) (.tuple #[]) (Sep (aE A c {q with st:=1,sn:=!q.sn}) (Cyc b (({y with sd:=wrap64 (y.sd+1),sn:=!y.sn,sp:=0}:Yc).to 2) K)):=by
 intro S h
 have c1:=(aA.begin h).r.ci 1 y.at_
 have k12:=(aA.begin h).l.cp 12 A.bh
 have HL:=zz ((jK 1 true (by decide) (by decide) _).l.on (aA.begin h))
 clear h
 go_enter func66,ntmps66
 go_wp2_with fail
 refine qz HL.out fun w2 hgx=>?_
 rw [show (q.sn != true)=!q.sn by simp] at hgx
 have hg:aA (Sep (aE A c {q with st:=1,sn:=!q.sn}) (Cyc b y K)) S w w2:=hgx
 clear HL c1 k12 hgx
 have c7:=hg.r.cb 7 y.sn
 have c8:=hg.r.ci 8 y.sd
 have c12:=hg.r.ci 12 y.sp
 have f7:=hg.r.fr 7
 have f8:=hg.r.fr 8
 have f12:=hg.r.fr 12
 have g3:aA (Sep (aE A c {q with st:=1,sn:=!q.sn}) (Cyc b {y with sd:=wrap64 (y.sd+1),sn:=!y.sn,sp:=0} K)) S w _:=hg.then (aH (fun S h=>(((aA.begin h).put 8 (.int .i64 (wrap64 (y.sd+1))) (cs':=aW {y with sd:=wrap64 (y.sd+1)}) rfl).put 7 (.bool (!y.sn)) (cs':=aW {y with sd:=wrap64 (y.sd+1),sn:=!y.sn}) rfl).put 12 (.int .i64 0) (cs':=aW {y with sd:=wrap64 (y.sd+1),sn:=!y.sn,sp:=0}) rfl))
 have HE:=zz (g3.call (cY fun S h=>cU 2 h))
 clear hg g3
 go_wp2_with fail
 refine qz HE.out fun w2 hg=>?_
 have HG:=zz hg
 clear HE hg
 go_wp2_with fail
 go_returns
 exact ⟨rfl,HG.out⟩
theorem cy_settles0 (hc:c.ok) (hat:y.at_=0) (hi:y.i=(n:Nat)) (hn:n<c.threads) (w:World):
 aJ prog 72 #[.pointer (some ⟨b,0,none⟩),.pointer (some ⟨A.b,0,none⟩)] w (Sep (aE A c q) (Cyc b y K)) (.tuple #[]) (Sep (aE A c q) (Cyc b {y with at_:=if q.polls n=c.threads then 7 else 0,i:=(q.polls n:Nat)} K)):=by
 intro S h
 have c1:=(aA.begin h).r.ci 1 y.at_
 rw [hat] at c1
 have HL:=zz (iS hc hi hn w S h)
 have HAT:=zz hat
 obtain ⟨pn,hpn⟩:∃ pn,q.polls n=pn:=⟨_,rfl⟩
 rw [hpn] at HL ⊢
 obtain ⟨rb,hrb⟩:∃ rb,decide (pn=c.threads)=rb:=⟨_,rfl⟩
 rw [hrb] at HL
 have hif:(if pn=c.threads then (7:Int) else 0)=if rb then 7 else 0:=by rw [←hrb];by_cases h:pn=c.threads<;>simp [h]
 rw [hif]
 clear h hc hi hn hpn hif hrb
 go_enter func72,ntmps72
 go_wp2_with fail
 refine qz HL.out fun w2 hg=>?_
 clear HL c1
 cases rb with
 | false=>
  have HG:=zz hg
  clear hg
  go_wp2_with fail
  go_returns
  refine ⟨rfl,?_⟩
  have:=HG.out
  have e:({y with i:=(pn:Nat)}:Yc)={y with at_:=if false=true then 7 else 0,i:=(pn:Nat)}:=by rw [←HAT.out];rfl
  rw [e] at this;exact this
 | true=>
  have c1:=hg.r.ci 1 y.at_
  have f1:=hg.r.fr 1
  have g3:aA (Sep (aE A c q) (Cyc b {y with at_:=7,i:=(pn:Nat)} K)) S w _:=hg.then (aH (fun S h=>(aA.begin h).put 1 (.int .i64 7) (cs':=aW {y with at_:=7,i:=(pn:Nat)}) rfl))
  have HG:=zz g3
  clear hg g3
  go_wp2_with fail
  go_returns
  exact ⟨rfl,HG.out⟩
theorem cy_settles1 (hat:¬y.at_=0) (w:World):aJ prog 72 #[.pointer (some ⟨b,0,none⟩),.pointer (some ⟨A.b,0,none⟩)] w (Sep (aE A c q) (Cyc b y K)) (.tuple #[]) (Sep (aE A c q) (Cyc b (y.to 9) K)):=by
 intro S h
 have c1:=(aA.begin h).r.ci 1 y.at_
 have k11:=(aA.begin h).l.cp 11 A.bsp
 have HL:=zz ((iT (sp_done _)).l.on (aA.begin h))
 clear h
 go_enter func72,ntmps72
 go_wp2_with fail
 refine qz HL.out fun w2 hgx=>?_
 have hg:aA (Sep (aE A c q) (Cyc b y K)) S w w2:=hgx
 have HE:=zz (hg.call (cY fun S h=>cU 9 h))
 clear HL c1 k11 hg hgx
 go_wp2_with fail
 refine qz HE.out fun w2 hg=>?_
 have HG:=zz hg
 clear HE hg
 go_wp2_with fail
 go_returns
 exact ⟨rfl,HG.out⟩
theorem cy_turns0 (hc:c.ok) (hat:y.at_=0) (w:World):aJ prog 70 #[.pointer (some ⟨b,0,none⟩),.pointer (some ⟨A.b,0,none⟩)] w (Sep (aE A c q) (Cyc b y K)) (.tuple #[]) (Sep (aE A c q) (Cyc b {y with at_:=2} K)):=by
 intro S h
 have c1:=(aA.begin h).r.ci 1 y.at_
 rw [hat] at c1
 have k11:=(aA.begin h).l.cp 11 A.bsp
 have HL:=zz ((iT (sp_turn hc _)).l.on (aA.begin h))
 clear h hc
 go_enter func70,ntmps70
 go_wp2_with fail
 refine qz HL.out fun w2 hgx=>?_
 have hg:aA (Sep (aE A c q) (Cyc b y K)) S w w2:=hgx
 clear HL c1 k11 hgx
 have c1:=hg.r.ci 1 y.at_
 have f1:=hg.r.fr 1
 have g3:aA (Sep (aE A c q) (Cyc b {y with at_:=2} K)) S w _:=hg.then (aH (fun S h=>(aA.begin h).put 1 (.int .i64 2) (cs':=aW {y with at_:=2}) rfl))
 have HG:=zz g3
 clear hg g3
 go_wp2_with fail
 go_returns
 exact ⟨rfl,HG.out⟩
theorem cy_turns1 (hat:y.at_=2) (w:World):aJ prog 70 #[.pointer (some ⟨b,0,none⟩),.pointer (some ⟨A.b,0,none⟩)] w (Sep (aE A c q) (Cyc b y K)) (.tuple #[]) (Sep (aE A c {q with st:=4}) (Cyc b {y with at_:=1} K)):=by
 intro S h
 have c1:=(aA.begin h).r.ci 1 y.at_
 rw [hat] at c1
 have k12:=(aA.begin h).l.cp 12 A.bh
 have HL:=zz ((jK 4 false (by decide) (by decide) _).l.on (aA.begin h))
 clear h
 go_enter func70,ntmps70
 go_wp2_with fail
 refine qz HL.out fun w2 hgx=>?_
 rw [show (q.sn != false)=q.sn by simp] at hgx
 have hg:aA (Sep (aE A c {q with st:=4}) (Cyc b y K)) S w w2:=hgx
 clear HL c1 k12 hgx
 have c1:=hg.r.ci 1 y.at_
 have f1:=hg.r.fr 1
 have g3:aA (Sep (aE A c {q with st:=4}) (Cyc b {y with at_:=1} K)) S w _:=hg.then (aH (fun S h=>(aA.begin h).put 1 (.int .i64 1) (cs':=aW {y with at_:=1}) rfl))
 have HG:=zz g3
 clear hg g3
 go_wp2_with fail
 go_returns
 exact ⟨rfl,HG.out⟩
theorem cy_turns2 (hc:c.ok) (hat:¬y.at_=0) (hat2:¬y.at_=2) (hi:y.i=(n:Nat)) (hn:n<c.threads) (w:World):aJ prog 70 #[.pointer (some ⟨b,0,none⟩),.pointer (some ⟨A.b,0,none⟩)] w (Sep (aE A c q) (Cyc b y K)) (.tuple #[]) (Sep (aE A c q) (Cyc b (if q.polls n=c.threads then {y.to 7 with h:=.pointer none} else {y with i:=(q.polls n:Nat)}) K)):=by
 intro S h
 have c1:=(aA.begin h).r.ci 1 y.at_
 have HL:=zz (iS hc hi hn w S h)
 obtain ⟨pn,hpn⟩:∃ pn,q.polls n=pn:=⟨_,rfl⟩
 rw [hpn] at HL ⊢
 obtain ⟨rb,hrb⟩:∃ rb,decide (pn=c.threads)=rb:=⟨_,rfl⟩
 rw [hrb] at HL
 have hif:(if pn=c.threads then {y.to 7 with h:=.pointer none} else {y with i:=(pn:Nat)}:Yc)=if rb then {y.to 7 with h:=.pointer none} else {y with i:=(pn:Nat)}:=by rw [←hrb];by_cases h:pn=c.threads<;>simp [h]
 rw [hif]
 clear h hc hi hn hpn hif hrb
 go_enter func70,ntmps70
 go_wp2_with fail
 refine qz HL.out fun w2 hg=>?_
 clear HL c1
 cases rb with
 | false=>
  have HG:=zz hg
  clear hg
  go_wp2_with fail
  go_returns
  exact ⟨rfl,HG.out⟩
 | true=>
  have HE:=zz (hg.call (cY fun S h=>cU 7 h))
  clear hg
  go_wp2_with fail
  refine qz HE.out fun w2 hg=>?_
  clear HE
  have c6:=hg.r.cC 6 y.h
  have f6:=hg.r.fr 6
  have g3:aA (Sep (aE A c q) (Cyc b {({y with i:=(pn:Nat)}:Yc).to 7 with h:=.pointer none} K)) S w _:=hg.then (aH (fun S h=>(aA.begin h).put 6 (.pointer none) (cs':=aW {({y with i:=(pn:Nat)}:Yc).to 7 with h:=.pointer none}) rfl))
  have HG:=zz g3
  clear hg g3
  go_wp2_with fail
  go_returns
  exact ⟨rfl,HG.out⟩
theorem cy_sweeps (hc:c.ok) (hi:y.i=(n:Nat)) (hn:n<c.frags) (hsw:∀ w,aJ prog 142 #[.pointer (some ⟨A.bsp,0,none⟩),.int .i64 y.i,.bool y.sn] w (aE A c q) (.bool r) (aE A c q')) (w:World):
 aN prog 73 #[.pointer (some ⟨b,0,none⟩),.pointer (some ⟨A.b,0,none⟩)] w (Sep (aE A c q) (Cyc b y K)) (fun (_:Int) e=>e=.returned (.tuple #[])) (fun f=>Sep (aE A c q') (Cyc b (if n+1=c.frags then ({y with fr:=f}:Yc).to 10 else {y with fr:=f,i:=((n+1:Nat):Int)}) K)):=by
 intro S h
 have g1:=(aA.begin h).drew_
 have k11:=g1.l.cp 11 A.bsp
 have d2:=g1.r.ci 2 y.i
 have d7:=g1.r.cb 7 y.sn
 have HL:=zz ((hsw _).l.on g1)
 have hw:wrap64 (y.i+1)=((n+1:Nat):Int):=by have:=hc.frags.2;unfold wrap64;omega
 have HW:=zz hw
 clear g1 h hc hsw hi hn hw
 have hsplit:(n+1=c.frags→∀ f e,e=(({y with fr:=f}:Yc).to 10)→e=if n+1=c.frags then ({y with fr:=f}:Yc).to 10 else {y with fr:=f,i:=((n+1:Nat):Int)})∧(¬n+1=c.frags→∀ f e,e=({y with fr:=f,i:=((n+1:Nat):Int)}:Yc)→e=if n+1=c.frags then ({y with fr:=f}:Yc).to 10 else {y with fr:=f,i:=((n+1:Nat):Int)}):=
  ⟨fun h f e he=>by rw [he,if_pos h],fun h f e he=>by rw [he,if_neg h]⟩
 obtain ⟨yf,hyf⟩:∃ yf:Int→Yc,(fun f=>if n+1=c.frags then ({y with fr:=f}:Yc).to 10 else {y with fr:=f,i:=((n+1:Nat):Int)})=yf:=⟨_,rfl⟩
 have hyf':∀ f,(if n+1=c.frags then ({y with fr:=f}:Yc).to 10 else {y with fr:=f,i:=((n+1:Nat):Int)})=yf f:=fun f=>by rw [←hyf]
 simp only [hyf'] at hsplit ⊢
 have HY:=zz hsplit
 clear hyf hyf' hsplit
 go_enter func73,ntmps73
 go_wp2_with fail
 go_still_tail 12,(by kernel_rfl)
 change wpList _ _ _ _ _ w.drew
 generalize w.drew=w1 at*
 go_wp2_with fail
 refine qz HL.out fun w2 hgx=>?_
 have hg:aA (Sep (aE A c q') (Cyc b y K)) S w w2:=hgx
 clear HL hgx k11 d2 d7
 have hgo:∃ f,aA (Sep (aE A c q') (Cyc b {y with fr:=f} K)) S w (if r=true then w2.setCell ⟨b,10,none⟩ (.int .i64 (wrap64 (y.fr+1))) else w2):=by
  cases r with
  | false=>exact ⟨y.fr,hg⟩
  | true=>exact ⟨_,hg.then (aH (fun S h=>(aA.begin h).put 10 (.int .i64 (wrap64 (y.fr+1))) (cs':=aW {y with fr:=wrap64 (y.fr+1)}) rfl))⟩
 obtain ⟨f,hgo⟩:=hgo
 have c10:=hg.r.ci 10 y.fr
 have f10:=hg.r.fr 10
 cases r with
 | false=>
  simp only [if_neg (show ¬(false=true) by decide)] at hgo
  clear c10 f10 hg
  have c2:=hgo.r.ci 2 y.i
  have f2:=hgo.r.fr 2
  have g3:aA (Sep (aE A c q') (Cyc b {y with fr:=f,i:=wrap64 (y.i+1)} K)) S w _:=hgo.then (aH (fun S h=>(aA.begin h).put 2 (.int .i64 (wrap64 (y.i+1))) (cs':=aW {y with fr:=f,i:=wrap64 (y.i+1)}) rfl))
  have HG:=zz g3
  clear hgo g3
  go_upto_region 3 with fail
  generalize World.setCell _ _ _=w4 at*
  clear c2 f2
  have d2:=HG.out.r.ci 2 (wrap64 (y.i+1))
  have k0:=HG.out.l.ci 0 c.frags
  have HW:=HW.out
  generalize wrap64 (y.i+1)=i1 at*
  have HW:=zz HW
  by_cases hi:i1=(c.frags:Int)
  · have hd:decide (i1=(c.frags:Int))=true:=by simpa using hi
    go_wp2_with fail
    go_quiet (fail)
    have HE:=zz ((HG.out.drewN_ nq).call (cY fun S h=>cU 10 h))
    clear d2 k0 HG
    go_wp2_with fail
    refine qz HE.out fun w2 hg=>?_
    have HG:=zz hg
    clear HE hg
    go_wp2_with fail
    go_returns
    exact ⟨f,rfl,by have:=HY.out.1 (by have:=HW.out;omega) f _ rfl;rw [←this];exact HG.out⟩
  · have hd:decide (i1=(c.frags:Int))=false:=by simpa using hi
    go_wp2_with fail
    go_quiet (fail)
    have HG2:=zz (HG.out.drewN_ nq)
    clear HG d2 k0
    go_wp2_with fail
    go_returns
    exact ⟨f,rfl,by have:=HY.out.2 (by have:=HW.out;omega) f _ rfl;rw [←this,←HW.out];exact HG2.out⟩
 | true=>
  simp only [if_pos] at hgo
  have HGO:=zz hgo
  clear hgo hg
  go_upto_region 2 with fail
  generalize World.setCell _ _ _=w3 at*
  clear c10 f10
  have hgo:=HGO.out
  clear HGO
  have c2:=hgo.r.ci 2 y.i
  have f2:=hgo.r.fr 2
  have g3:aA (Sep (aE A c q') (Cyc b {y with fr:=f,i:=wrap64 (y.i+1)} K)) S w _:=hgo.then (aH (fun S h=>(aA.begin h).put 2 (.int .i64 (wrap64 (y.i+1))) (cs':=aW {y with fr:=f,i:=wrap64 (y.i+1)}) rfl))
  have HG:=zz g3
  clear hgo g3
  go_upto_region 3 with fail
  generalize World.setCell _ _ _=w4 at*
  clear c2 f2
  have d2:=HG.out.r.ci 2 (wrap64 (y.i+1))
  have k0:=HG.out.l.ci 0 c.frags
  have HW:=HW.out
  generalize wrap64 (y.i+1)=i1 at*
  have HW:=zz HW
  by_cases hi:i1=(c.frags:Int)
  · have hd:decide (i1=(c.frags:Int))=true:=by simpa using hi
    go_wp2_with fail
    go_quiet (fail)
    have HE:=zz ((HG.out.drewN_ nq).call (cY fun S h=>cU 10 h))
    clear d2 k0 HG
    go_wp2_with fail
    refine qz HE.out fun w2 hg=>?_
    have HG:=zz hg
    clear HE hg
    go_wp2_with fail
    go_returns
    exact ⟨f,rfl,by have:=HY.out.1 (by have:=HW.out;omega) f _ rfl;rw [←this];exact HG.out⟩
  · have hd:decide (i1=(c.frags:Int))=false:=by simpa using hi
    go_wp2_with fail
    go_quiet (fail)
    have HG2:=zz (HG.out.drewN_ nq)
    clear HG d2 k0
    go_wp2_with fail
    go_returns
    exact ⟨f,rfl,by have:=HY.out.2 (by have:=HW.out;omega) f _ rfl;rw [←this,←HW.out];exact HG2.out⟩
theorem cy_serves0 (hcy:∀ r,q.ln=some r→r.cy≤1000) (hat:y.at_=0) (w:World):aJ prog 74 #[.pointer (some ⟨b,0,none⟩),.pointer (some ⟨A.b,0,none⟩)] w (Sep (aE A c q) (Cyc b y K)) (.tuple #[]) (Sep (aE A c {q with ln:=q.ln.map fun r=>{r with cy:=if r.nt&&r.st==0 then r.cy+1 else r.cy,nt:=false}}) (Cyc b {y with at_:=7} K)):=by
 intro S h
 have c1:=(aA.begin h).r.ci 1 y.at_
 rw [hat] at c1
 have k11:=(aA.begin h).l.cp 11 A.bsp
 have HL:=zz ((core_sp (sp_end hcy _)).l.on (aA.begin h))
 clear h hcy
 go_enter func74,ntmps74
 go_wp2_with fail
 refine qz HL.out fun w2 hgx=>?_
 have hg:aA (Sep (aE A c {q with ln:=q.ln.map fun r=>{r with cy:=if r.nt&&r.st==0 then r.cy+1 else r.cy,nt:=false}}) (Cyc b y K)) S w w2:=hgx
 clear HL c1 k11 hgx
 have c1:=hg.r.ci 1 y.at_
 have f1:=hg.r.fr 1
 have g3:aA (Sep (aE A c {q with ln:=q.ln.map fun r=>{r with cy:=if r.nt&&r.st==0 then r.cy+1 else r.cy,nt:=false}}) (Cyc b {y with at_:=7} K)) S w _:=hg.then (aH (fun S h=>(aA.begin h).put 1 (.int .i64 7) (cs':=aW {y with at_:=7}) rfl))
 have HG:=zz g3
 clear hg g3
 go_wp2_with fail
 go_returns
 exact ⟨rfl,HG.out⟩
theorem cy_serves1 (hat:¬y.at_=0) (hsv:∀ w,aJ prog 144 #[.pointer (some ⟨A.bsp,0,none⟩),.bool y.sn] w (aE A c q) (.bool r) (aE A c q')) (w:World):
 aJ prog 74 #[.pointer (some ⟨b,0,none⟩),.pointer (some ⟨A.b,0,none⟩)] w (Sep (aE A c q) (Cyc b y K)) (.tuple #[]) (Sep (aE A c q') (Cyc b (if r then y else (({y with fi:=wrap64 (y.fi+1)}:Yc).to 0)) K)):=by
 intro S h
 have c1:=(aA.begin h).r.ci 1 y.at_
 have g1:=(aA.begin h).drew_
 have k11:=g1.l.cp 11 A.bsp
 have d7:=g1.r.cb 7 y.sn
 have HL:=zz ((hsv _).l.on g1)
 have hif:∀ r:Bool,(if r then y else ({y with fi:=wrap64 (y.fi+1)}:Yc).to 0)=if r then y else ({y with fi:=wrap64 (y.fi+1)}:Yc).to 0:=fun _=>rfl
 clear h g1 hsv hif
 go_enter func74,ntmps74
 go_wp2_with fail
 go_still_tail 8,(by kernel_rfl)
 change wpList _ _ _ _ _ w.drew
 generalize w.drew=w1 at*
 go_wp2_with fail
 refine qz HL.out fun w2 hgx=>?_
 have hg:aA (Sep (aE A c q') (Cyc b y K)) S w w2:=hgx
 clear HL c1 k11 d7 hgx
 cases r with
 | true=>
  have HG:=zz hg
  clear hg
  go_wp2_with fail
  go_returns
  exact ⟨rfl,HG.out⟩
 | false=>
  have c9:=hg.r.ci 9 y.fi
  have f9:=hg.r.fr 9
  have g3:aA (Sep (aE A c q') (Cyc b {y with fi:=wrap64 (y.fi+1)} K)) S w _:=hg.then (aH (fun S h=>(aA.begin h).put 9 (.int .i64 (wrap64 (y.fi+1))) (cs':=aW {y with fi:=wrap64 (y.fi+1)}) rfl))
  have HE:=zz (g3.call (cY fun S h=>cU 0 h))
  clear hg g3
  go_wp2_with fail
  refine qz HE.out fun w2 hg=>?_
  have HG:=zz hg
  clear HE hg
  go_wp2_with fail
  go_returns
  exact ⟨rfl,HG.out⟩
end
theorem cyc_part (C V K T:aC):aU (Sep (Sep C (Sep V K)) T) (Sep C (Sep V T)):=fun S w h=>aU.both (aU.refl C) (aU.left (Sep V T) K) S w (aB.monoR (fun _ h=>aB.rot h) (aB.assoc h))
section
variable {i tb:Nat} {y:Yc}
theorem tro_errno (h:(TrO tb c sn tr).at_ S w):Calls prog 198 #[.pointer (some ⟨tb,0,none⟩)] w fun e w'=>e=.returned (.int .i64 0)∧w=w':=by
 obtain ⟨x,h⟩:=h
 have h:(TrB tb c sn tr x).at_ S w:=h
 unfold TrB at h
 split at h
 · exact trace_errno h.2
 · exact trace_errno h.2
theorem tro_mk (h:(bP tb c g cap (tr0 i sn) Emp).at_ S w):(TrO tb c sn ⟨i,0,[],0⟩).at_ S w:=by
 refine ⟨⟨g,cap,.slice none 0 0,.slice none 0 0,0⟩,?_⟩
 show (TrB _ _ _ _ _).at_ S w
 unfold TrB
 rw [if_pos rfl]
 exact ⟨⟨rfl,rfl⟩,h⟩
theorem trace_stepC (h:aJ P f args w (Sep Kt C) v (Sep K' C')):aJ P f args w (Sep C (Sep V Kt)) v (Sep C' (Sep V K')):=
 (h.r (B:=V)).conv (fun _ _ h=>aB.assoc (aB.swap h)) fun _ _ h=>aB.swap (aB.assoc' h)
theorem cy_traces (htr:y.tr=.pointer (some ⟨tb,0,none⟩)) (hst:∀ w,aJ prog 197 #[.pointer (some ⟨tb,0,none⟩),.pointer (some ⟨A.bm,0,none⟩),.pointer (some ⟨A.bs,0,none⟩)] w (Sep Kt (aE A c q)) (.bool r) (Sep K' (aE A c q'))) (he:r=true→∀ S w,K'.at_ S w→Calls prog 198 #[.pointer (some ⟨tb,0,none⟩)] w fun e w'=>e=.returned (.int .i64 0)∧w=w') (w:World):
 aJ prog 132 #[.pointer (some ⟨b,0,none⟩),.pointer (some ⟨A.b,0,none⟩)] w (Sep (aE A c q) (Cyc b y Kt)) (.bool r) (Sep (aE A c q') (Cyc b y K')):=by
 intro S h
 have g1:=(aA.begin h).drew_
 have HL:=zz ((trace_stepC (hst _)).on g1)
 have HR:=zz he
 clear h hst he
 go_enter func132,ntmps132
 go_wp2_with fail
 have c5:=g1.r.cC 5 y.tr
 rw [htr] at c5
 refine wp_region_held_drew (S:=fun w'=>w'.cell? ⟨b,5,none⟩=some (.pointer (some ⟨tb,0,none⟩))∧w'.cell? ⟨A.b,9,none⟩=some (.pointer (some ⟨A.bm,0,none⟩))∧w'.cell? ⟨A.b,10,none⟩=some (.pointer (some ⟨A.bs,0,none⟩))) (by kernel_rfl) ⟨c5,g1.l.cp 9 A.bm,g1.l.cp 10 A.bs⟩ (fun hHeld=>?_)
 generalize w.drew=wd at*
 refine tk 0 ?_
 refine tk 1 ?_
 refine tk 2 ?_
 refine tk 3 ?_
 refine tk 4 ?_
 refine tk 5 ?_
 refine tk 6 ?_
 refine tk 7 ?_
 refine tk 8 ?_
 refine tk 9 ?_
 refine tk 10 ?_
 refine tk 11 ?_
 refine rdy 12 fun K hK=>?_
 go_simp
 refine qz HL.out fun w2 hgx=>?_
 have hg:aA (Sep (aE A c q') (Cyc b y K')) S w w2:=hgx
 clear HL hgx c5 g1
 have c5:=hg.r.cC 5 y.tr
 rw [htr] at c5
 go_wp2_with fail
 refine hon hK ⟨c5,hg.l.cp 9 A.bm,hg.l.cp 10 A.bs⟩ fun hHeld=>?_
 clear hK K
 refine tk 13 ?_
 refine wpAnyH_done (by kernel_rfl) ?_ _
 clear hHeld
 cases r with
 | false=>
  have HG:=zz hg
  clear hg c5
  go_wp2_with fail
  go_ret
  exact ⟨rfl,HG.out⟩
 | true=>
  have HE:=zz (hg.look (lookR (lookR fun S h=>HR.out rfl S _ h)))
  have c13:=hg.r.ci 13 0
  have f13:=hg.r.fr 13
  have g3:=(hg.then (aH (fun S h=>(aA.begin h).put 13 (.int .i64 0) (cs':=aW y) rfl)))
  have HG:=zz g3
  clear hg g3
  go_wp2_with fail
  refine qq HE.out ?_
  clear HE
  go_wp2_with fail
  go_ret
  exact ⟨rfl,HG.out⟩
theorem cy_marks0 (hc:c.ok) (h4:¬y.at_=4) (h5:¬y.at_=5) (h6:¬y.at_=6) (hnx:∀ w,aJ prog 130 #[.pointer (some ⟨A.bs,0,none⟩)] w (aE A c q) (.tuple #[.int .i64 (i:Nat),.bool r]) (aE A c q')) (w:World):
 aN prog 69 #[.pointer (some ⟨b,0,none⟩),.pointer (some ⟨A.b,0,none⟩)] w (Sep (aE A c q) (Cyc b y Kt)) (fun (_:Nat) e=>e=.returned (.tuple #[]))
  (fun tb=>Sep (aE A c q') (Cyc b (cond r {y with head:=(i:Nat),at_:=4,rs:=false,tr:=.pointer (some ⟨tb,0,none⟩)} {y with head:=(i:Nat),at_:=5,rs:=false}) (cond r (TrO tb c y.sn ⟨i,0,[],0⟩) Kt))):=by
 intro S h
 have c1:=(aA.begin h).r.ci 1 y.at_
 have k10:=(aA.begin h).l.cp 10 A.bs
 have HL:=zz ((hnx _).l.on (aA.begin h))
 have HC:=zz hc
 obtain ⟨yf,hyf⟩:∃ yf:Nat→Yc,(fun tb=>cond r {y with head:=(i:Nat),at_:=4,rs:=false,tr:=.pointer (some ⟨tb,0,none⟩)} {y with head:=(i:Nat),at_:=5,rs:=false})=yf:=⟨_,rfl⟩
 have hyf2:∀ tb,cond r {y with head:=(i:Nat),at_:=4,rs:=false,tr:=.pointer (some ⟨tb,0,none⟩)} {y with head:=(i:Nat),at_:=5,rs:=false}=yf tb:=fun tb=>by rw [←hyf]
 obtain ⟨kf,hkf⟩:∃ kf:Nat→aC,(fun tb=>cond r (TrO tb c y.sn ⟨i,0,[],0⟩) Kt)=kf:=⟨_,rfl⟩
 have hkf2:∀ tb,cond r (TrO tb c y.sn ⟨i,0,[],0⟩) Kt=kf tb:=fun tb=>by rw [←hkf]
 simp only [hyf2,hkf2]
 have HY:=zz hyf2
 have HKF:=zz hkf2
 clear h hc hnx hyf hkf hyf2 hkf2
 go_enter func69,ntmps69
 refine bA 0 fun F hF=>?_
 clear hF
 go_wp2_with fail
 refine qz HL.out fun w2 hgx=>?_
 have hg:aA (Sep (aE A c q') (Cyc b y Kt)) S w w2:=hgx
 clear HL hgx k10 c1 h4 h5 h6
 have c3:=hg.r.ci 3 y.head
 have f3:=hg.r.fr 3
 have c1:=hg.r.ci 1 y.at_
 have f1:=hg.r.fr 1
 have c4:=hg.r.cb 4 y.rs
 have f4:=hg.r.fr 4
 have g3:aA (Sep (aE A c q') (Cyc b {y with head:=(i:Nat),at_:=5,rs:=false} Kt)) S w _:=hg.then (aH (fun S h=>(((aA.begin h).put 3 (.int .i64 (i:Nat)) (cs':=aW {y with head:=(i:Nat)}) rfl).put 1 (.int .i64 5) (cs':=aW {y with head:=(i:Nat),at_:=5}) rfl).put 4 (.bool false) (cs':=aW {y with head:=(i:Nat),at_:=5,rs:=false}) rfl))
 clear hg
 cases r with
 | false=>
  have HG:=zz g3
  clear g3
  go_wp2_with fail
  (try rw [aI])
  go_returns
  refine ⟨0,rfl,?_⟩
  rw [←HY.out,←HKF.out]
  exact HG.out
 | true=>
  have HG:=zz g3
  clear g3
  go_upto_region 8 with fail
  generalize World.setCell (World.setCell (World.setCell _ _ _) _ _) _ _=w3 at*
  clear c3 f3 c1 f1 c4 f4
  have g4:=HG.out.drew_
  have HN:=zz (trace_new i y.sn HC.out (bO g4.l.is).choose_spec)
  unfold cfV at HN
  clear HG
  refine wp_region_held_drew (S:=fun w'=>w'.cell? ⟨A.b,0,none⟩=some (.int .i64 c.frags)∧w'.cell? ⟨A.b,1,none⟩=some (.int .i64 c.spine)∧w'.cell? ⟨A.b,2,none⟩=some (.int .i64 c.globals)∧w'.cell? ⟨A.b,3,none⟩=some (.int .i64 c.threads)∧w'.cell? ⟨A.b,4,none⟩=some (.int .i64 c.locals)∧w'.cell? ⟨A.b,5,none⟩=some (.int .i64 0)∧w'.cell? ⟨A.b,6,none⟩=some (.int .i64 c.stack)∧w'.cell? ⟨A.b,7,none⟩=some (.int .i64 c.low)∧w'.cell? ⟨A.b,8,none⟩=some (.slice (some ⟨A.g,0,none⟩) c.shapes.length A.cap)∧w'.cell? ⟨b,3,none⟩=some (.int .i64 (i:Nat))∧w'.cell? ⟨b,7,none⟩=some (.bool y.sn)) (by kernel_rfl) ⟨g4.l.ci 0 c.frags,g4.l.ci 1 c.spine,g4.l.ci 2 c.globals,g4.l.ci 3 c.threads,g4.l.ci 4 c.locals,g4.l.ci 5 0,g4.l.ci 6 c.stack,g4.l.ci 7 c.low,g4.l.cC 8 (.slice (some ⟨A.g,0,none⟩) c.shapes.length A.cap),g4.r.ci 3 (i:Nat),g4.r.cb 7 y.sn⟩ (fun hHeld=>?_)
  generalize w3.drew=wd at*
  refine tk 0 ?_
  refine tk 1 ?_
  refine tk 2 ?_
  refine tk 3 ?_
  refine tk 4 ?_
  refine tk 5 ?_
  refine tk 6 ?_
  refine tk 7 ?_
  refine tk 8 ?_
  refine tk 9 ?_
  refine tk 10 ?_
  refine tk 11 ?_
  refine tk 12 ?_
  refine tk 13 ?_
  refine rdy 14 fun K hK=>?_
  go_simp
  with_reducible refine HN.out.mono ?_
  rintro e w4 ⟨tb,g',cap',rfl,hs⟩
  have g5:aA (Sep (Sep (aE A c q') (Cyc b {y with head:=(i:Nat),at_:=5,rs:=false} Kt)) (bP tb c g' cap' (tr0 i y.sn) Emp)) S w w4:=g4.moreSt hs
  clear HN hs g4 hHeld
  have hg:aA (Sep (aE A c q') (Cyc b {y with head:=(i:Nat),at_:=5,rs:=false} (bP tb c g' cap' (tr0 i y.sn) Emp))) S w w4:=g5.drop (cyc_part _ _ _ _)
  clear g5
  go_wp2_with fail
  refine hon hK ⟨hg.l.ci 0 c.frags,hg.l.ci 1 c.spine,hg.l.ci 2 c.globals,hg.l.ci 3 c.threads,hg.l.ci 4 c.locals,hg.l.ci 5 0,hg.l.ci 6 c.stack,hg.l.ci 7 c.low,hg.l.cC 8 (.slice (some ⟨A.g,0,none⟩) c.shapes.length A.cap),hg.r.ci 3 (i:Nat),hg.r.cb 7 y.sn⟩ fun hHeld=>?_
  clear hK K
  refine tk 15 ?_
  refine tk 16 ?_
  have c5:=hg.r.cC 5 y.tr
  have f5:=hg.r.fr 5
  have g6:aA (Sep (aE A c q') (Cyc b {y with head:=(i:Nat),at_:=5,rs:=false,tr:=.pointer (some ⟨tb,0,none⟩)} (bP tb c g' cap' (tr0 i y.sn) Emp))) S w _:=hg.then (aH (fun S h=>(aA.begin h).put 5 (.pointer (some ⟨tb,0,none⟩)) (cs':=aW {y with head:=(i:Nat),at_:=5,rs:=false,tr:=.pointer (some ⟨tb,0,none⟩)}) rfl))
  clear hHeld
  refine rdy 17 fun K hK=>?_
  go_simp
  go_wp2_with fail
  refine hon hK ⟨g6.l.ci 0 c.frags,g6.l.ci 1 c.spine,g6.l.ci 2 c.globals,g6.l.ci 3 c.threads,g6.l.ci 4 c.locals,g6.l.ci 5 0,g6.l.ci 6 c.stack,g6.l.ci 7 c.low,g6.l.cC 8 (.slice (some ⟨A.g,0,none⟩) c.shapes.length A.cap),g6.r.ci 3 (i:Nat),g6.r.cb 7 y.sn⟩ fun hHeld=>?_
  clear hK K
  refine tk 18 ?_
  refine tk 19 ?_
  have c1:=g6.r.ci 1 5
  have f1:=g6.r.fr 1
  have g7:aA (Sep (aE A c q') (Cyc b {y with head:=(i:Nat),at_:=4,rs:=false,tr:=.pointer (some ⟨tb,0,none⟩)} (bP tb c g' cap' (tr0 i y.sn) Emp))) S w _:=g6.then (aH (fun S h=>(aA.begin h).put 1 (.int .i64 4) (cs':=aW {y with head:=(i:Nat),at_:=4,rs:=false,tr:=.pointer (some ⟨tb,0,none⟩)}) rfl))
  clear hHeld
  refine rdy 20 fun K hK=>?_
  go_simp
  go_wp2_with fail
  refine hon hK ⟨g7.l.ci 0 c.frags,g7.l.ci 1 c.spine,g7.l.ci 2 c.globals,g7.l.ci 3 c.threads,g7.l.ci 4 c.locals,g7.l.ci 5 0,g7.l.ci 6 c.stack,g7.l.ci 7 c.low,g7.l.cC 8 (.slice (some ⟨A.g,0,none⟩) c.shapes.length A.cap),g7.r.ci 3 (i:Nat),g7.r.cb 7 y.sn⟩ fun hHeld=>?_
  clear hK K
  refine wpAnyH_done (by kernel_rfl) ?_ _
  have HG:=zz g7
  clear hHeld g6 g7 hg c5 f5 c1 f1
  generalize World.setCell _ _ _=w6 at*
  go_wp2_with fail
  (try rw [aI])
  go_returns
  refine ⟨tb,rfl,?_⟩
  rw [←HY.out,←HKF.out]
  exact HG.out.conv fun S w h=>aB.monoR (fun S h=>aB.monoR (fun S h=>tro_mk h) h) h
end
end Go.Proofs.YtgcmiahhkalfmaaGreat
