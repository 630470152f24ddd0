import Derived.Test.YtgcmiahhkalfmaaGreatM26
set_option maxRecDepth 100000
set_option maxHeartbeats 8000000
set_option linter.unusedVariables false
set_option linter.unusedSimpArgs false
namespace Go.Proofs.YtgcmiahhkalfmaaGreat
attribute [local go_sem] aF aI aO aV
open Go.Proofs.Tryz
open Go.RowKit
variable {b r sn:Bool} {A:CA} {c:Cf} {N i n:Nat} {S:Nat→Prop} {q q':Sw.Q} {K' Kt:aC} {w w':World} {y:Yc}
def folY (c:Cf) (n:Nat) (y:Yc):Yc:={y with at_:=if n+1=c.frags then 0 else 6,i:=if n+1=c.frags then 0 else ((n+1:Nat):Int)}
theorem cond_f {α:Type} {x y:α} (h:b=false):cond b x y=y:=by rw [h];rfl
theorem cond_t {α:Type} {x y:α} (h:b=true):cond b x y=x:=by rw [h];rfl
section
variable {b tb:Nat}
theorem cy_marks4 (hc:c.ok) (hi:y.i=(n:Nat)) (hn:n<c.frags) (htr:y.tr=.pointer (some ⟨tb,0,none⟩)) (hst:∀ w,aJ prog 197 #[.pointer (some ⟨tb,0,none⟩),.pointer (some ⟨A.bm,0,none⟩),.pointer (some ⟨A.bs,0,none⟩)] w (Sep Kt (aE A c q)) (.bool r) (Sep K' (aE A c q'))) (he:r=true→∀ S w,K'.at_ S w→Calls prog 198 #[.pointer (some ⟨tb,0,none⟩)] w fun e w'=>e=.returned (.int .i64 0)∧w=w') (hat:y.at_=4) (w:World):
 aJ prog 69 #[.pointer (some ⟨b,0,none⟩),.pointer (some ⟨A.b,0,none⟩)] w (Sep (aE A c q) (Cyc b y Kt)) (.tuple #[]) (Sep (aE A c q') (Cyc b (cond r (cond y.rs (folY c n y) {y with at_:=0}) y) K')):=by
 intro S h
 have c1:=(aA.begin h).r.ci 1 y.at_
 rw [hat] at c1
 have HL:=zz (cy_traces (b:=b) htr hst he w S h)
 obtain ⟨yf,hyf⟩:∃ yf,cond r (cond y.rs (folY c n y) {y with at_:=0}) y=yf:=⟨_,rfl⟩
 rw [hyf]
 have HY:=zz hyf
 have HC:=zz (And.intro hc (And.intro hi hn))
 clear h hst he htr hyf hc hi hn
 go_enter func69,ntmps69
 refine bA 1 fun F hF=>?_
 go_wp2_with fail
 refine wp_goto (show Exit.via F _ _ 1 (.goto 0) _ _ from ⟨_,by rw [hF.out];rfl,?_⟩)
 clear hF
 go_wp2_with fail
 refine qz HL.out fun w2 hg=>?_
 clear HL c1
 cases r with
 | false=>
  have HG:=zz hg
  clear hg
  go_wp2_with fail
  (try rw [aI])
  go_returns
  refine ⟨rfl,?_⟩
  rw [←HY.out]
  exact HG.out
 | true=>
  have c1:=hg.r.ci 1 y.at_
  have f1:=hg.r.fr 1
  have g3:aA (Sep (aE A c q') (Cyc b {y with at_:=0} K')) S w _:=hg.then (aH (fun S h=>(aA.begin h).put 1 (.int .i64 0) (cs':=aW {y with at_:=0}) rfl))
  have HG:=zz g3
  clear hg g3
  go_upto_region 11 with fail
  generalize World.setCell _ _ _=w3 at*
  clear c1 f1
  have c4:=HG.out.r.cb 4 y.rs
  obtain ⟨rs,hrs⟩:∃ r,y.rs=r:=⟨_,rfl⟩
  rw [hrs] at c4
  have HRS:=zz hrs
  clear hrs
  cases rs with
  | false=>
   go_wp2_with fail
   (try rw [aI])
   go_returns
   refine ⟨rfl,?_⟩
   rw [←HY.out,cond_t rfl,cond_f HRS.out]
   exact HG.out
  | true=>
   have HF:=zz ((cy_follows (y:={y with at_:=0}) (n:=n) HC.out.1 HC.out.2.1 HC.out.2.2 w3).on HG.out)
   clear HG
   go_wp2_with fail
   refine qz HF.out fun w4 hg=>?_
   have HG:=zz hg
   clear HF hg c4
   go_wp2_with fail
   (try rw [aI])
   go_returns
   refine ⟨rfl,?_⟩
   rw [←HY.out,cond_t rfl,cond_t HRS.out]
   exact HG.out
theorem cy_marks5 (hat:y.at_=5) (w:World):
 aJ prog 69 #[.pointer (some ⟨b,0,none⟩),.pointer (some ⟨A.b,0,none⟩)] w (Sep (aE A c q) (Cyc b y Kt)) (.tuple #[]) (Sep (aE A c {q with lo:=false}) (Cyc b (cond q.lo {y with at_:=6,i:=0} (y.to 6)) Kt)):=by
 intro S h
 have c1:=(aA.begin h).r.ci 1 y.at_
 rw [hat] at c1
 have k10:=(aA.begin h).l.cp 10 A.bs
 have HL:=zz ((fV (q':={q with lo:=false}) (sh_lost _) ⟨rfl,rfl,rfl,rfl,rfl,rfl⟩).l.on (aA.begin h))
 obtain ⟨lo,hlo⟩:∃ lo,q.lo=lo:=⟨_,rfl⟩
 rw [hlo] at HL ⊢
 clear h hlo
 go_enter func69,ntmps69
 refine bA 1 fun F hF=>?_
 go_wp2_with fail
 refine wp_goto (show Exit.via F _ _ 1 (.goto 1) _ _ from ⟨_,by rw [hF.out];rfl,?_⟩)
 clear hF
 go_wp2_with fail
 refine qz HL.out fun w2 hgx=>?_
 have hg:aA (Sep (aE A c {q with lo:=false}) (Cyc b y Kt)) S w w2:=hgx
 clear HL hgx k10 c1
 cases lo with
 | false=>
  have HE:=zz (hg.call (cY fun S h=>cU 6 h))
  clear hg
  go_wp2_with fail
  refine qz HE.out fun w2 hg=>?_
  have HG:=zz hg
  clear HE hg
  go_wp2_with fail
  (try rw [aI])
  go_returns
  exact ⟨rfl,HG.out⟩
 | true=>
  have c1:=hg.r.ci 1 y.at_
  have f1:=hg.r.fr 1
  have c2:=hg.r.ci 2 y.i
  have f2:=hg.r.fr 2
  have g3:aA (Sep (aE A c {q with lo:=false}) (Cyc b {y with at_:=6,i:=0} Kt)) S w _:=hg.then (aH (fun S h=>((aA.begin h).put 1 (.int .i64 6) (cs':=aW {y with at_:=6}) rfl).put 2 (.int .i64 0) (cs':=aW {y with at_:=6,i:=0}) rfl))
  have HG:=zz g3
  clear hg g3
  go_wp2_with fail
  (try rw [aI])
  go_returns
  exact ⟨rfl,HG.out⟩
theorem cy_marks6 (hc:c.ok) (hi:y.i=(n:Nat)) (hn:n<c.frags) (hat:y.at_=6) (w:World):
 aN prog 69 #[.pointer (some ⟨b,0,none⟩),.pointer (some ⟨A.b,0,none⟩)] w (Sep (aE A c q) (Cyc b y Kt)) (fun (_:Nat) e=>e=.returned (.tuple #[]))
  (fun tb=>Sep (aE A c q) (Cyc b (cond ((q.t n).hd&&q.blk n y.sn) {y with tr:=.pointer (some ⟨tb,0,none⟩),at_:=4,rs:=true} (folY c n y)) (cond ((q.t n).hd&&q.blk n y.sn) (TrO tb c y.sn ⟨n,0,[],0⟩) Kt))):=by
 intro S h
 have c1:=(aA.begin h).r.ci 1 y.at_
 rw [hat] at c1
 have g1:=(aA.begin h).drew_
 have k10:=g1.l.cp 10 A.bs
 have c2:=g1.r.ci 2 y.i
 have c7:=g1.r.cb 7 y.sn
 have HL:=zz ((fV (sh_black (s:=y.sn) hn _) ⟨rfl,rfl,rfl,rfl,rfl,rfl⟩).l.on g1)
 have HC:=zz (And.intro hc (And.intro hi hn))
 rw [←hi] at HL
 obtain ⟨r,hr⟩:∃ r,((q.t n).hd&&q.blk n y.sn)=r:=⟨_,rfl⟩
 rw [hr] at HL ⊢
 obtain ⟨yf,hyf⟩:∃ yf:Nat→Yc,(fun tb=>cond r {y with tr:=.pointer (some ⟨tb,0,none⟩),at_:=4,rs:=true} (folY c n y))=yf:=⟨_,rfl⟩
 have hyf2:∀ tb,cond r {y with tr:=.pointer (some ⟨tb,0,none⟩),at_:=4,rs:=true} (folY c n y)=yf tb:=fun tb=>by rw [←hyf]
 obtain ⟨kf,hkf⟩:∃ kf:Nat→aC,(fun tb=>cond r (TrO tb c y.sn ⟨n,0,[],0⟩) Kt)=kf:=⟨_,rfl⟩
 have hkf2:∀ tb,cond r (TrO tb c y.sn ⟨n,0,[],0⟩) Kt=kf tb:=fun tb=>by rw [←hkf]
 simp only [hyf2,hkf2]
 have HY:=zz hyf2
 have HKF:=zz hkf2
 have HI:=zz hi
 clear h hc g1 hr hyf hkf hyf2 hkf2 hi hn
 go_enter func69,ntmps69
 refine bA 1 fun F hF=>?_
 go_wp2_with fail
 refine wp_goto (show Exit.via F _ _ 1 (.goto 2) _ _ from ⟨_,by rw [hF.out];rfl,?_⟩)
 clear hF
 go_wp2_with fail
 go_still_tail 12,(by kernel_rfl)
 change wpList _ _ _ _ _ w.drew
 generalize w.drew=w1 at*
 go_wp2_with fail
 refine qz HL.out fun w2 hgx=>?_
 have hg:aA (Sep (aE A c q) (Cyc b y Kt)) S w w2:=hgx
 clear HL hgx k10 c1 c2 c7
 cases r with
 | false=>
  have HF:=zz ((cy_follows (n:=n) HC.out.1 HC.out.2.1 HC.out.2.2 w2).on hg)
  clear hg
  go_wp2_with fail
  refine qz HF.out fun w4 hg=>?_
  have HG:=zz hg
  clear HF hg
  go_wp2_with fail
  (try rw [aO])
  go_returns
  refine ⟨rfl,0,?_⟩
  rw [←HY.out,←HKF.out]
  exact HG.out
 | true=>
  have HG:=zz hg
  clear hg
  go_upto_region 17 with fail
  have g4:=HG.out.drew_
  have HN:=zz (trace_new n y.sn HC.out.1 (bO g4.l.is).choose_spec)
  have c2:=g4.r.ci 2 y.i
  rw [HI.out] at c2
  unfold cfV at HN
  clear HG
  refine wp_region_held_drew (S:=fun w'=>w'.cell? ⟨b,2,none⟩=some (.int .i64 (n:Nat))∧w'.cell? ⟨b,7,none⟩=some (.bool y.sn)∧w'.cell? ⟨A.b,0,none⟩=some (.int .i64 c.frags)∧w'.cell? ⟨A.b,1,none⟩=some (.int .i64 c.spine)∧w'.cell? ⟨A.b,2,none⟩=some (.int .i64 c.globals)∧w'.cell? ⟨A.b,3,none⟩=some (.int .i64 c.threads)∧w'.cell? ⟨A.b,4,none⟩=some (.int .i64 c.locals)∧w'.cell? ⟨A.b,5,none⟩=some (.int .i64 0)∧w'.cell? ⟨A.b,6,none⟩=some (.int .i64 c.stack)∧w'.cell? ⟨A.b,7,none⟩=some (.int .i64 c.low)∧w'.cell? ⟨A.b,8,none⟩=some (.slice (some ⟨A.g,0,none⟩) c.shapes.length A.cap)) (by kernel_rfl) ⟨c2,g4.r.cb 7 y.sn,eG g4.l⟩ (fun hHeld=>?_)
  generalize w2.drew=wd at*
  refine tk 0 ?_
  refine tk 1 ?_
  refine tk 2 ?_
  refine tk 3 ?_
  refine tk 4 ?_
  refine tk 5 ?_
  refine tk 6 ?_
  refine tk 7 ?_
  refine tk 8 ?_
  refine tk 9 ?_
  refine tk 10 ?_
  refine tk 11 ?_
  refine tk 12 ?_
  refine tk 13 ?_
  refine tk 14 ?_
  refine rdy 15 fun K hK=>?_
  go_simp
  with_reducible refine HN.out.mono ?_
  rintro e w4 ⟨tb,g',cap',rfl,hs⟩
  have g5:aA (Sep (Sep (aE A c q) (Cyc b y Kt)) (bP tb c g' cap' (tr0 n y.sn) Emp)) S w w4:=g4.moreSt hs
  clear HN hs g4 hHeld c2
  have hg:aA (Sep (aE A c q) (Cyc b y (bP tb c g' cap' (tr0 n y.sn) Emp))) S w w4:=g5.drop (cyc_part _ _ _ _)
  clear g5
  have c2:=hg.r.ci 2 y.i
  rw [HI.out] at c2
  go_wp2_with fail
  refine hon hK ⟨c2,hg.r.cb 7 y.sn,eG hg.l⟩ fun hHeld=>?_
  clear hK K
  refine tk 16 ?_
  refine tk 17 ?_
  have c5:=hg.r.cC 5 y.tr
  have f5:=hg.r.fr 5
  have g6:aA (Sep (aE A c q) (Cyc b {y with tr:=.pointer (some ⟨tb,0,none⟩)} (bP tb c g' cap' (tr0 n y.sn) Emp))) S w _:=hg.then (aH (fun S h=>(aA.begin h).put 5 (.pointer (some ⟨tb,0,none⟩)) (cs':=aW {y with tr:=.pointer (some ⟨tb,0,none⟩)}) rfl))
  clear hHeld c2
  have c2:=g6.r.ci 2 y.i
  rw [HI.out] at c2
  refine rdy 18 fun K hK=>?_
  go_simp
  go_wp2_with fail
  refine hon hK ⟨c2,g6.r.cb 7 y.sn,eG g6.l⟩ fun hHeld=>?_
  clear hK K
  refine tk 19 ?_
  refine tk 20 ?_
  have c1:=g6.r.ci 1 y.at_
  have f1:=g6.r.fr 1
  have g7:aA (Sep (aE A c q) (Cyc b {y with tr:=.pointer (some ⟨tb,0,none⟩),at_:=4} (bP tb c g' cap' (tr0 n y.sn) Emp))) S w _:=g6.then (aH (fun S h=>(aA.begin h).put 1 (.int .i64 4) (cs':=aW {y with tr:=.pointer (some ⟨tb,0,none⟩),at_:=4}) rfl))
  clear hHeld c2
  have c2:=g7.r.ci 2 y.i
  rw [HI.out] at c2
  refine rdy 21 fun K hK=>?_
  go_simp
  go_wp2_with fail
  refine hon hK ⟨c2,g7.r.cb 7 y.sn,eG g7.l⟩ fun hHeld=>?_
  clear hK K
  refine tk 22 ?_
  refine tk 23 ?_
  have c4:=g7.r.cb 4 y.rs
  have f4:=g7.r.fr 4
  have g8:aA (Sep (aE A c q) (Cyc b {y with tr:=.pointer (some ⟨tb,0,none⟩),at_:=4,rs:=true} (bP tb c g' cap' (tr0 n y.sn) Emp))) S w _:=g7.then (aH (fun S h=>(aA.begin h).put 4 (.bool true) (cs':=aW {y with tr:=.pointer (some ⟨tb,0,none⟩),at_:=4,rs:=true}) rfl))
  clear hHeld c2
  have c2:=g8.r.ci 2 y.i
  rw [HI.out] at c2
  refine rdy 24 fun K hK=>?_
  go_simp
  go_wp2_with fail
  refine hon hK ⟨c2,g8.r.cb 7 y.sn,eG g8.l⟩ fun hHeld=>?_
  clear hK K
  refine wpAnyH_done (by kernel_rfl) ?_ _
  have HG:=zz g8
  clear hHeld g6 g7 g8 hg c5 f5 c1 f1 c4 f4 c2
  generalize World.setCell _ _ _=w6 at*
  go_wp2_with fail
  (try rw [aI])
  go_returns
  refine ⟨rfl,tb,?_⟩
  rw [←HY.out,←HKF.out]
  exact HG.out.conv fun S w h=>aB.monoR (fun S h=>aB.monoR (fun S h=>tro_mk h) h) h
end
section
variable {b:Nat}
theorem cy_roots3 (hc:c.ok) (hat:y.at_=3) (hhd:y.head=(i:Nat)) (hi:i<c.frags) (hu:(q.t i).hd=true→(q.t i).st=2) (hp:q.pl.length≤c.stack) (w:World):
 aJ prog 68 #[.pointer (some ⟨b,0,none⟩),.pointer (some ⟨A.b,0,none⟩)] w (Sep (aE A c q) (Cyc b y Kt)) (.tuple #[]) (Sep (aE A c (q.grey c i y.sn)) (Cyc b {y with at_:=0,i:=wrap64 (y.i+1)} Kt)):=by
 intro S h
 have c1:=(aA.begin h).r.ci 1 y.at_
 rw [hat] at c1
 have g1:=(aA.begin h).drew_
 have k10:=g1.l.cp 10 A.bs
 have c3:=g1.r.ci 3 y.head
 rw [hhd] at c3
 have c7:=g1.r.cb 7 y.sn
 have HL:=zz ((fV (sh_grey (s:=y.sn) hi hu hp hc.stack.2 _) (jF _ _ _ _)).l.on g1)
 obtain ⟨rv,hrv⟩:∃ rv,((q.t i).hd&&!q.blk i y.sn)=rv:=⟨_,rfl⟩
 rw [hrv] at HL
 clear h g1 hhd hat hu hp hi hc hrv
 go_enter func68,ntmps68
 refine bA 1 fun F hF=>?_
 go_wp2_with fail
 go_still_tail 12,(by kernel_rfl)
 change wpList _ _ _ _ _ w.drew
 generalize w.drew=w1 at*
 go_wp2_with fail
 refine qz HL.out fun w2 hgx=>?_
 have hg:aA (Sep (aE A c (q.grey c i y.sn)) (Cyc b y Kt)) S w w2:=hgx
 clear HL hgx k10 c1 c3 c7
 go_wp2_with fail
 refine wp_goto (show Exit.via F _ _ 1 (.goto 0) _ _ from ⟨_,by rw [hF.out];rfl,?_⟩)
 clear hF
 have c1:=hg.r.ci 1 y.at_
 have f1:=hg.r.fr 1
 have c2:=hg.r.ci 2 y.i
 have f2:=hg.r.fr 2
 have g3:aA (Sep (aE A c (q.grey c i y.sn)) (Cyc b {y with at_:=0,i:=wrap64 (y.i+1)} Kt)) S w _:=hg.then (aH (fun S h=>((aA.begin h).put 1 (.int .i64 0) (cs':=aW {y with at_:=0}) rfl).put 2 (.int .i64 (wrap64 (y.i+1))) (cs':=aW {y with at_:=0,i:=wrap64 (y.i+1)}) rfl))
 have HG:=zz g3
 clear hg g3
 go_wp2_with fail
 (try rw [aI])
 go_returns
 exact ⟨rfl,HG.out⟩
theorem cy_roots1 (hc:c.ok) (hat:y.at_=1) (hi:y.i=(n:Nat)) (hn:n<c.threads) (w:World):
 aJ prog 68 #[.pointer (some ⟨b,0,none⟩),.pointer (some ⟨A.b,0,none⟩)] w (Sep (aE A c q) (Cyc b y Kt)) (.tuple #[]) (Sep (aE A c q) (Cyc b (if q.polls n=c.threads then y.to 5 else {y with at_:=1,i:=(q.polls n:Nat)}) Kt)):=by
 intro S h
 have c1:=(aA.begin h).r.ci 1 y.at_
 rw [hat] at c1
 obtain ⟨yf,hyf⟩:∃ yf,(if q.polls n=c.threads then y.to 5 else {y with at_:=1,i:=(q.polls n:Nat)})=yf:=⟨_,rfl⟩
 rw [hyf]
 have HY:=zz hyf
 clear hyf
 have HC:=zz (And.intro hc (And.intro hi hn))
 have HG:=zz (aA.begin h)
 clear h hc hi hn
 go_enter func68,ntmps68
 refine bA 1 fun F hF=>?_
 have c2:=HG.out.r.ci 2 y.i
 have k2:=HG.out.l.ci 2 c.globals
 by_cases hge:(c.globals:Int)≤y.i
 all_goals
  first
   | have hd:decide ((c.globals:Int)≤y.i)=true:=by simpa using hge
   | have hd:decide ((c.globals:Int)≤y.i)=false:=by simpa using hge
  go_wp2_with fail
  go_quiet (fail)
  go_wp2_with fail
  refine wp_goto (show Exit.via F _ _ 1 (.goto 1) _ _ from ⟨_,by rw [hF.out];rfl,?_⟩)
  clear hF hd hge
  have HG2:=zz (HG.out.drewN_ nq)
  have d1:=HG2.out.r.ci 1 y.at_
  rw [hat] at d1
  clear HG c1 c2 k2
  generalize w.drewN nq=WW at*
  obtain ⟨y,rfl⟩:∃ z:Yc,y={z with at_:=1}:=⟨y,by rw [←hat]⟩
  clear hat
  have HL2:=zz ((iS (y:={y with at_:=1}) HC.out.1 HC.out.2.1 HC.out.2.2 _).on HG2.out)
  obtain ⟨pn,hpn⟩:∃ pn,q.polls n=pn:=⟨_,rfl⟩
  rw [hpn] at HL2
  have HPN:=zz hpn
  obtain ⟨rb,hrb⟩:∃ rb,decide (pn=c.threads)=rb:=⟨_,rfl⟩
  rw [hrb] at HL2
  have HRB:=zz hrb
  clear HG2 hpn hrb
  go_wp2_with fail
  refine qz HL2.out fun w4 hg=>?_
  clear HL2 HC
  cases rb with
  | false=>
   have HG:=zz hg
   clear hg
   go_wp2_with fail
   (try rw [aO])
   go_returns
   refine ⟨rfl,?_⟩
   rw [←HY.out,HPN.out,if_neg (of_decide_eq_false HRB.out)]
   exact HG.out
  | true=>
   have HE:=zz (hg.call (cY fun S h=>cU 5 h))
   clear hg
   go_wp2_with fail
   refine qz HE.out fun w5 hg=>?_
   have HG:=zz hg
   clear HE hg
   go_wp2_with fail
   (try rw [aO])
   go_returns
   refine ⟨rfl,?_⟩
   rw [←HY.out,HPN.out,if_pos (of_decide_eq_true HRB.out)]
   exact HG.out
theorem cy_roots0p (hc:c.ok) (hat:y.at_=0) (hge:(c.globals:Int)≤y.i) (w:World):
 aJ prog 68 #[.pointer (some ⟨b,0,none⟩),.pointer (some ⟨A.b,0,none⟩)] w (Sep (aE A c q) (Cyc b y Kt)) (.tuple #[]) (Sep (aE A c q) (Cyc b (if q.polls 0=c.threads then y.to 5 else {y with at_:=1,i:=(q.polls 0:Nat)}) Kt)):=by
 intro S h
 have c1:=(aA.begin h).r.ci 1 y.at_
 rw [hat] at c1
 obtain ⟨yf,hyf⟩:∃ yf,(if q.polls 0=c.threads then y.to 5 else {y with at_:=1,i:=(q.polls 0:Nat)})=yf:=⟨_,rfl⟩
 rw [hyf]
 have HY:=zz hyf
 clear hyf
 have HC:=zz (And.intro hc (And.intro True.intro hc.threads.1))
 have HG:=zz (aA.begin h)
 clear h hc
 go_enter func68,ntmps68
 refine bA 1 fun F hF=>?_
 have c2:=HG.out.r.ci 2 y.i
 have k2:=HG.out.l.ci 2 c.globals
 have hd:decide ((c.globals:Int)≤y.i)=true:=by simpa using hge
 go_wp2_with fail
 go_quiet (fail)
 go_wp2_with fail
 refine wp_goto (show Exit.via F _ _ 1 (.goto 1) _ _ from ⟨_,by rw [hF.out];rfl,?_⟩)
 clear hF
 clear hd hge
 have g2:=HG.out.drewN_ nq
 clear HG c1 c2 k2
 generalize w.drewN nq=w1 at*
 have c1:=g2.r.ci 1 y.at_
 rw [hat] at c1
 have f1:=g2.r.fr 1
 have c2:=g2.r.ci 2 y.i
 have f2:=g2.r.fr 2
 have g3:aA (Sep (aE A c q) (Cyc b {y with at_:=1,i:=0} Kt)) S w _:=g2.then (aH (fun S h=>((aA.begin h).put 1 (.int .i64 1) (cs':=aW {y with at_:=1}) rfl).put 2 (.int .i64 0) (cs':=aW {y with at_:=1,i:=0}) rfl))
 have HG2:=zz g3
 clear g2 g3
 go_upto_region 18 with fail
 generalize World.setCell (World.setCell _ _ _) _ _=WW at*
 clear c1 c2 f1 f2
 have HL2:=zz ((iS (y:={y with at_:=1,i:=0}) HC.out.1 rfl HC.out.2.2 _).on HG2.out)
 obtain ⟨pn,hpn⟩:∃ pn,q.polls 0=pn:=⟨_,rfl⟩
 rw [hpn] at HL2
 have HPN:=zz hpn
 obtain ⟨rb,hrb⟩:∃ rb,decide (pn=c.threads)=rb:=⟨_,rfl⟩
 rw [hrb] at HL2
 have HRB:=zz hrb
 clear HG2 hpn hrb
 go_wp2_with fail
 refine qz HL2.out fun w4 hg=>?_
 clear HL2 HC
 cases rb with
 | false=>
  have HG:=zz hg
  clear hg
  go_wp2_with fail
  (try rw [aO])
  go_returns
  refine ⟨rfl,?_⟩
  rw [←HY.out,HPN.out,if_neg (of_decide_eq_false HRB.out)]
  exact HG.out
 | true=>
  have HE:=zz (hg.call (cY fun S h=>cU 5 h))
  clear hg
  go_wp2_with fail
  refine qz HE.out fun w5 hg=>?_
  have HG:=zz hg
  clear HE hg
  go_wp2_with fail
  (try rw [aO])
  go_returns
  refine ⟨rfl,?_⟩
  rw [←HY.out,HPN.out,if_pos (of_decide_eq_true HRB.out)]
  exact HG.out
theorem cy_roots0 (hc:c.ok) (hat:y.at_=0) (hi:y.i=(N:Int)) (hN:N<c.globals) (hwi:(q.m (c.gw N)).i=1) (hwk:(q.m (c.gw N)).k≤63) (w:World):
 aJ prog 68 #[.pointer (some ⟨b,0,none⟩),.pointer (some ⟨A.b,0,none⟩)] w (Sep (aE A c q) (Cyc b y Kt)) (.tuple #[]) (Sep (aE A c q) (Cyc b (cond (ixB (q.m (c.gw N)).k 1) {y with head:=(ixI (q.m (c.gw N)).k 1:Nat),at_:=3} {y with head:=(ixI (q.m (c.gw N)).k 1:Nat),at_:=0,i:=wrap64 (y.i+1)}) Kt)):=by
 intro S h
 have eg:(N:Int)+(c.frags:Int)*8+c.spine+c.spine=((c.gw N:Nat):Int):=by unfold Cf.gw;push_cast;omega
 have hgw:c.gw N<c.words:=by unfold Cf.gw Cf.words;omega
 have HGL:=zz fun w1 (gg:aA (Sep (aE A c q) (Cyc b y Kt)) S w w1)=>gg.plain (fW N hc (bO gg.l.is).choose_spec hN)
 rw [eg] at HGL
 unfold cfV at HGL
 have HRD:=zz fun w1 (gg:aA (Sep (aE A c q) (Cyc b {y with head:=((c.gw N:Nat):Int)} Kt)) S w w1)=>(core_memR (mq_read (b:=A.bm) hgw hc w1)).l.on gg
 obtain ⟨vk,hvk⟩:∃ k,(q.m (c.gw N)).k=k:=⟨_,rfl⟩
 rw [hvk,hwi] at HRD
 rw [hvk] at hwk ⊢
 have HI:=zz fun w=>cW vk 1 w hwk (by omega)
 obtain ⟨yf,hyf⟩:∃ yf,cond (ixB vk 1) {y with head:=(ixI vk 1:Nat),at_:=3} {y with head:=(ixI vk 1:Nat),at_:=0,i:=wrap64 (y.i+1)}=yf:=⟨_,rfl⟩
 rw [hyf]
 unfold cx at HI HRD
 generalize ixI vk 1=ix at*
 generalize fl vk=z1 at*
 generalize fl 1=z2 at*
 generalize ixB vk 1=ib at*
 have HY:=zz hyf
 clear hyf
 have c1:=(aA.begin h).r.ci 1 y.at_
 rw [hat] at c1
 have c2:=(aA.begin h).r.ci 2 y.i
 rw [hi] at c2
 have HYI:=zz hi
 have HAT:=zz hat
 have k2:=(aA.begin h).l.ci 2 c.globals
 have HG:=zz (aA.begin h)
 have hd:decide ((c.globals:Int)≤(N:Int))=false:=by simpa using hN
 have hd2:decide (c.globals≤N)=false:=by simpa using hN
 clear h hc hvk hi hat hN eg hgw hwi hwk
 go_enter func68,ntmps68
 refine bA 0 fun F hF=>?_
 clear hF
 go_wp2_with fail
 go_quiet (fail)
 clear hd hd2 c1 c2 k2
 have g2:=HG.out.drewN_ nq
 clear HG
 generalize w.drewN nq=w1 at*
 go_wp2_with fail
 have g3:=g2.drew_
 clear g2
 have c2:=g3.r.ci 2 y.i
 rw [HYI.out] at c2
 have HGC:=zz (HGL.out _ g3)
 clear HGL
 refine wp_region_held_drew (S:=fun w'=>w'.cell? ⟨b,2,none⟩=some (.int .i64 (N:Int))∧w'.cell? ⟨A.b,0,none⟩=some (.int .i64 c.frags)∧w'.cell? ⟨A.b,1,none⟩=some (.int .i64 c.spine)∧w'.cell? ⟨A.b,2,none⟩=some (.int .i64 c.globals)∧w'.cell? ⟨A.b,3,none⟩=some (.int .i64 c.threads)∧w'.cell? ⟨A.b,4,none⟩=some (.int .i64 c.locals)∧w'.cell? ⟨A.b,5,none⟩=some (.int .i64 0)∧w'.cell? ⟨A.b,6,none⟩=some (.int .i64 c.stack)∧w'.cell? ⟨A.b,7,none⟩=some (.int .i64 c.low)∧w'.cell? ⟨A.b,8,none⟩=some (.slice (some ⟨A.g,0,none⟩) c.shapes.length A.cap)) (by kernel_rfl) ⟨c2,eG g3.l⟩ (fun hHeld=>?_)
 generalize w1.drew=wd at*
 refine tk 0 ?_
 refine tk 1 ?_
 refine tk 2 ?_
 refine tk 3 ?_
 refine tk 4 ?_
 refine tk 5 ?_
 refine tk 6 ?_
 refine tk 7 ?_
 refine tk 8 ?_
 refine rdy 9 fun K hK=>?_
 go_simp
 refine qz HGC.out fun w2 hg=>?_
 clear HGC g3 hHeld c2
 have c2:=hg.r.ci 2 y.i
 rw [HYI.out] at c2
 go_wp2_with fail
 refine hon hK ⟨c2,eG hg.l⟩ fun hHeld=>?_
 clear hK K
 refine tk 10 ?_
 refine tk 11 ?_
 refine tk 12 ?_
 refine tk 13 ?_
 refine tk 14 ?_
 have c3:=hg.r.ci 3 y.head
 have f3:=hg.r.fr 3
 have g4:aA (Sep (aE A c q) (Cyc b {y with head:=((c.gw N:Nat):Int)} Kt)) S w _:=hg.then (aH (fun S h=>(aA.begin h).put 3 (.int .i64 ((c.gw N:Nat):Int)) (cs':=aW {y with head:=((c.gw N:Nat):Int)}) rfl))
 clear hHeld c2
 have c2:=g4.r.ci 2 y.i
 rw [HYI.out] at c2
 refine rdy 15 fun K hK=>?_
 go_simp
 go_wp2_with fail
 refine hon hK ⟨c2,eG g4.l⟩ fun hHeld=>?_
 clear hK K
 refine tk 16 ?_
 refine wpAnyH_done (by kernel_rfl) ?_ _
 clear hHeld hg c2 c3 f3
 generalize World.setCell _ _ _=w3 at*
 go_wp2_with fail
 have g5:=g4.drew_
 clear g4
 have HRC:=zz (HRD.out _ g5)
 clear HRD
 refine wp_region_held_drew (S:=fun w'=>w'.cell? ⟨b,3,none⟩=some (.int .i64 ((c.gw N:Nat):Int))∧w'.cell? ⟨A.b,9,none⟩=some (.pointer (some ⟨A.bm,0,none⟩))) (by kernel_rfl) ⟨g5.r.ci 3 ((c.gw N:Nat):Int),g5.l.cp 9 A.bm⟩ (fun hHeld=>?_)
 generalize w3.drew=wd at*
 refine tk 0 ?_
 refine tk 1 ?_
 refine tk 2 ?_
 refine tk 3 ?_
 refine tk 4 ?_
 refine tk 5 ?_
 refine tk 6 ?_
 refine tk 7 ?_
 refine rdy 8 fun K hK=>?_
 go_simp
 refine qz HRC.out fun w4 hgx=>?_
 have hg:aA (Sep (aE A c q) (Cyc b {y with head:=((c.gw N:Nat):Int)} Kt)) S w w4:=hgx
 clear HRC hgx hHeld g5
 go_wp2_with fail
 refine hon hK ⟨hg.r.ci 3 ((c.gw N:Nat):Int),hg.l.cp 9 A.bm⟩ fun hHeld=>?_
 clear hK K
 refine tk 9 ?_
 refine tk 10 ?_
 refine tk 11 ?_
 refine tk 12 ?_
 refine tk 13 ?_
 refine wpAnyH_done (by kernel_rfl) ?_ _
 clear hHeld
 go_wp2_with fail
 refine qq (HI.out _) ?_
 clear HI
 have c3:=hg.r.ci 3 ((c.gw N:Nat):Int)
 have f3:=hg.r.fr 3
 have g6:aA (Sep (aE A c q) (Cyc b {y with head:=(ix:Nat)} Kt)) S w _:=hg.then (aH (fun S h=>(aA.begin h).put 3 (.int .i64 (ix:Nat)) (cs':=aW {y with head:=(ix:Nat)}) rfl))
 have c1:=g6.r.ci 1 y.at_
 have f1:=g6.r.fr 1
 cases ib with
 | true=>
  have g7:aA (Sep (aE A c q) (Cyc b {y with head:=(ix:Nat),at_:=3} Kt)) S w _:=g6.then (aH (fun S h=>(aA.begin h).put 1 (.int .i64 3) (cs':=aW {y with head:=(ix:Nat),at_:=3}) rfl))
  have HG:=zz g7
  clear hg g6 g7
  go_wp2_with fail
  (try rw [aI])
  go_returns
  refine ⟨rfl,?_⟩
  rw [←HY.out]
  exact HG.out
 | false=>
  have c2:=g6.r.ci 2 y.i
  have f2:=g6.r.fr 2
  have g7:aA (Sep (aE A c q) (Cyc b {y with head:=(ix:Nat),at_:=0,i:=wrap64 (y.i+1)} Kt)) S w _:=g6.then (aH (fun S h=>((aA.begin h).put 1 (.int .i64 0) (cs':=aW {y with head:=(ix:Nat),at_:=0}) rfl).put 2 (.int .i64 (wrap64 (y.i+1))) (cs':=aW {y with head:=(ix:Nat),at_:=0,i:=wrap64 (y.i+1)}) rfl))
  have HG:=zz g7
  clear hg g6 g7
  go_wp2_with fail
  apply wp_label
  go_wp2_with fail
  (try rw [aI])
  go_returns
  refine ⟨rfl,?_⟩
  rw [←HY.out]
  exact HG.out
end
end Go.Proofs.YtgcmiahhkalfmaaGreat
