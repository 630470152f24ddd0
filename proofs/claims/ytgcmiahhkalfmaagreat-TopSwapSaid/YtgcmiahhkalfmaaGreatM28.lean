import Derived.Test.YtgcmiahhkalfmaaGreatM27
set_option maxRecDepth 100000
set_option maxHeartbeats 8000000
set_option linter.unusedVariables false
set_option linter.unusedSimpArgs false
namespace Go.Proofs.YtgcmiahhkalfmaaGreat
section
attribute [local go_sem] aF aI aO aV
open Go.Proofs.Tryz
open Go.RowKit
variable {args:Array Value} {cur:Bool} {A:CA} {c:Cf} {f:FuncId} {b s:Nat} {S:Nat→Prop} {P:Program} {x:SpX} {q:Sw.Q} {Kt:aC} {v:Value} {w w':World} {y:Yc}
def dO (A:CA) (c:Cf) (q:Sw.Q) (x:SpX):aC:=
 Sep (Var A.b (eO c A) 121) (Sep (aZ c A.g A.cap) (Sep (fP A.bm c q.m) (Sep (ShQ A.bs A.bt c q) (Sep (Sp A.bsp A.bt c q.fr q.ln x) (HnQ A.bh c.threads q)))))
section
variable {Y:aC}
theorem coi_current (w:World):aJ prog 106 #[.pointer (some ⟨b,0,none⟩)] w (fZ b (s:Int) ⟨cur,0,0,0⟩) (.int .i64 (cN cur)) (fZ b (s:Int) ⟨cur,0,0,0⟩):=.look fun S h=>coil_current h
theorem coi_used (k:Int) (hk:k=0∨k=1) (w:World):aJ prog 107 #[.pointer (some ⟨b,0,none⟩),.int .i64 k] w (fZ b (s:Int) ⟨cur,0,0,0⟩) (.int .i64 0) (fZ b (s:Int) ⟨cur,0,0,0⟩):=by
 rcases hk with rfl|rfl
 · exact .look fun S h=>coil_used0 h
 · exact .look fun S h=>coil_used1 h
theorem sh_coil (w:World):Calls prog 105 #[shV c x] w fun e w'=>e=.returned (.pointer (some ⟨x.k,0,none⟩))∧Below w.heap.size w w':=by
 have hb:=zz ((Below.refl w.heap.size w).alloc (Nat.le_refl _) (.cells (cE c x) 196))
 have D0:=Blk.new w (cE c x) 196
 have c10:=D0.cell 10
 clear D0
 unfold shV
 simp only [cE] at*
 simp at c10
 go_enter func105,ntmps105
 go_wp2_with fail
 go_ret
 exact ⟨rfl,hb.out⟩
theorem corex_open (h:(Sep (aE A c q) Y).at_ S w):∃ x,(Sep (dO A c q x) Y).at_ S w:=by
 obtain ⟨S1,T1,⟨S2,T2,v,⟨S3,T3,cf,⟨S4,T4,m,⟨S5,T5,sh,⟨S6,T6,⟨x,sp⟩,hn,r6⟩,r5⟩,r4⟩,r3⟩,r2⟩,k,r1⟩:=h
 exact ⟨x,S1,T1,⟨S2,T2,v,⟨S3,T3,cf,⟨S4,T4,m,⟨S5,T5,sh,⟨S6,T6,sp,hn,r6⟩,r5⟩,r4⟩,r3⟩,r2⟩,k,r1⟩
theorem corex_shut (h:(Sep (dO A c q x) Y).at_ S w):(Sep (aE A c q) Y).at_ S w:=by
 obtain ⟨S1,T1,⟨S2,T2,v,⟨S3,T3,cf,⟨S4,T4,m,⟨S5,T5,sh,⟨S6,T6,sp,hn,r6⟩,r5⟩,r4⟩,r3⟩,r2⟩,k,r1⟩:=h
 exact ⟨S1,T1,⟨S2,T2,v,⟨S3,T3,cf,⟨S4,T4,m,⟨S5,T5,sh,⟨S6,T6,⟨x,sp⟩,hn,r6⟩,r5⟩,r4⟩,r3⟩,r2⟩,k,r1⟩
theorem corex_coi (h:aJ P f args w (fZ x.k (c.spine:Int) ⟨x.cur,0,0,0⟩) v (fZ x.k (c.spine:Int) ⟨x.cur,0,0,0⟩)):aJ P f args w (dO A c q x) v (dO A c q x):=
 ((h.l.r.r.r:aJ P f args w (Sp A.bsp A.bt c q.fr q.ln x) v _).l.r.r.r.r:aJ P f args w (dO A c q x) v _)
theorem corex_conf (h:(dO A c q x).at_ S w):∃ S,(aZ c A.g A.cap).at_ S w:=by
 obtain ⟨S1,h1,_⟩:=aB.r h
 obtain ⟨S2,h2,_⟩:=aB.l h1
 exact ⟨S2,h2⟩
theorem corex9 (h:aA (dO A c q x) S w w'):w'.cell? ⟨A.b,0,none⟩=some (.int .i64 c.frags)∧w'.cell? ⟨A.b,1,none⟩=some (.int .i64 c.spine)∧w'.cell? ⟨A.b,2,none⟩=some (.int .i64 c.globals)∧w'.cell? ⟨A.b,3,none⟩=some (.int .i64 c.threads)∧w'.cell? ⟨A.b,4,none⟩=some (.int .i64 c.locals)∧w'.cell? ⟨A.b,5,none⟩=some (.int .i64 0)∧w'.cell? ⟨A.b,6,none⟩=some (.int .i64 c.stack)∧w'.cell? ⟨A.b,7,none⟩=some (.int .i64 c.low)∧w'.cell? ⟨A.b,8,none⟩=some (.slice (some ⟨A.g,0,none⟩) c.shapes.length A.cap):=
 ⟨h.c 0 rfl,h.c 1 rfl,h.c 2 rfl,h.c 3 rfl,h.c 4 rfl,h.c 5 rfl,h.c 6 rfl,h.c 7 rfl,h.c 8 rfl⟩
theorem fD (h:aA (dO A c q x) S w w'):w'.cell? ⟨A.bsp,4,none⟩=some (.int .i64 c.frags)∧w'.cell? ⟨A.bsp,5,none⟩=some (.int .i64 c.spine)∧w'.cell? ⟨A.bsp,6,none⟩=some (.int .i64 c.globals)∧w'.cell? ⟨A.bsp,7,none⟩=some (.int .i64 c.threads)∧w'.cell? ⟨A.bsp,8,none⟩=some (.int .i64 c.locals)∧w'.cell? ⟨A.bsp,9,none⟩=some (.int .i64 0)∧w'.cell? ⟨A.bsp,10,none⟩=some (.int .i64 c.stack)∧w'.cell? ⟨A.bsp,11,none⟩=some (.int .i64 c.low)∧w'.cell? ⟨A.bsp,12,none⟩=some (.slice (some ⟨x.g,0,none⟩) c.shapes.length x.cap)∧w'.cell? ⟨A.bsp,13,none⟩=some (.pointer (some ⟨x.p,0,none⟩))∧w'.cell? ⟨A.bsp,14,none⟩=some (.pointer (some ⟨x.k,0,none⟩))∧w'.cell? ⟨A.bsp,15,none⟩=some (.pointer (some ⟨x.w,0,none⟩)):=
 ⟨h.r.r.r.r.l.c 4 rfl,h.r.r.r.r.l.c 5 rfl,h.r.r.r.r.l.c 6 rfl,h.r.r.r.r.l.c 7 rfl,h.r.r.r.r.l.c 8 rfl,h.r.r.r.r.l.c 9 rfl,h.r.r.r.r.l.c 10 rfl,h.r.r.r.r.l.c 11 rfl,h.r.r.r.r.l.c 12 rfl,h.r.r.r.r.l.c 13 rfl,h.r.r.r.r.l.c 14 rfl,h.r.r.r.r.l.c 15 rfl⟩
theorem cy_hauls1 (hat:y.at_=2) (w:World):
 aJ prog 71 #[.pointer (some ⟨b,0,none⟩),.pointer (some ⟨A.b,0,none⟩)] w (Sep (aE A c q) (Cyc b y Kt)) (.tuple #[]) (Sep (aE A c {q with st:=0}) (Cyc b (y.to 8) Kt)):=by
 intro S h
 have c1:=(aA.begin h).r.ci 1 y.at_
 rw [hat] at c1
 have k12:=(aA.begin h).l.cp 12 A.bh
 have HL:=zz ((jK 0 false (by decide) (by decide) _).l.on (aA.begin h))
 clear h
 go_enter func71,ntmps71
 go_wp2_with fail
 refine qz HL.out fun w2 hg=>?_
 rw [show (q.sn != false)=q.sn by simp] at hg
 have HE:=zz (hg.call (cY fun S h=>cU 8 h))
 clear HL c1 k12 hg
 go_wp2_with fail
 refine qz HE.out fun w2 hg=>?_
 have HG:=zz hg
 clear HE hg
 go_wp2_with fail
 go_returns
 exact ⟨rfl,HG.out⟩
theorem cy_hauls0 (hc:c.ok) (hat:¬y.at_=2) (hh:y.h=.pointer none) (hmv:y.mv=0) (w:World):
 aN prog 71 #[.pointer (some ⟨b,0,none⟩),.pointer (some ⟨A.b,0,none⟩)] w (Sep (aE A c q) (Cyc b y Kt)) (fun (_:Value) e=>e=.returned (.tuple #[])) (fun hv=>Sep (aE A c q) (Cyc b {y with h:=hv,at_:=2} Kt)):=by
 intro S h
 have HM0:=zz hmv
 clear hmv
 obtain ⟨x,h⟩:=corex_open h
 have g0:=aA.begin h
 have c1:=g0.r.ci 1 y.at_
 have c6:=g0.r.cC 6 y.h
 rw [hh] at c6
 have k11:=g0.l.cp 11 A.bsp
 obtain ⟨s0,s1,s2,s3,s4,s5,s6,s7,s8,s9,s10,s11⟩:=fD g0.l
 have HS:=zz fun w1 (gg:aA (Sep (dO A c q x) (Cyc b y Kt)) S w w1)=>gg.plain (sh_coil (c:=c) (x:=x) w1)
 have HCU:=zz fun w1 (gg:aA (Sep (dO A c q x) (Cyc b y Kt)) S w w1)=>(corex_coi (coi_current w1)).l.on gg
 have HUS:=zz fun L (hL:L=0∨L=1) w1 (gg:aA (Sep (dO A c q x) (Cyc b y Kt)) S w w1)=>(corex_coi (coi_used L hL w1)).l.on gg
 have HNW:=zz fun L w1 (gg:aA (Sep (dO A c q x) (Cyc b y Kt)) S w w1)=>haul_new L y.sn hc (corex_conf gg.l.is).choose_spec
 have HST:=zz fun L hb g' cap' (hL:L=0∨L=1) w1 p q_ r (gg:aA (Sep (Sep (dO A c q x) (Cyc b {y with h:=.pointer (some ⟨hb,0,none⟩)} Kt)) (fO hb c g' cap' ⟨L,y.sn,0,0⟩)) S w w1)=>gg.call (cY fun S h=>haul_step (t:=⟨L,y.sn,0,0⟩) hc hL rfl h p q_ r)
 have HS2:=zz fun hb L g' cap' w1 (gg:aA (Sep (Sep (dO A c q x) (Cyc b {y with h:=.pointer (some ⟨hb,0,none⟩)} Kt)) (fO hb c g' cap' ⟨L,y.sn,0,0⟩)) S w w1)=>gg.plain (sh_coil (c:=c) (x:=x) w1)
 have HHH:=zz hh
 have HSA:=zz (HS.out _ g0)
 unfold shV at HS HSA HS2
 simp only [cE] at HS HSA HS2
 unfold cfV at HNW
 clear h g0 hc hh
 go_enter func71,ntmps71
 go_wp2_with fail
 refine qz HSA.out fun w1 hg=>?_
 have HCA:=zz (HCU.out _ hg)
 clear HSA HCU hg c1 c6 k11 s0 s1 s2 s3 s4 s5 s6 s7 s8 s9 s10 s11
 go_wp2_with fail
 refine qz HCA.out fun w2 hgx=>?_
 obtain ⟨cur,hcur⟩:∃ cur,x.cur=cur:=⟨_,rfl⟩
 rw [hcur]
 clear hcur
 have hg:aA (Sep (dO A c q x) (Cyc b y Kt)) S w w2:=hgx
 clear HCA hgx
 have hL:∃ L:Int,(1-cN cur)=L∧IntKind.i64.wrap L=L∧(L=0∨L=1):=by cases cur<;>exact ⟨_,rfl,by decide,by simp [cN]⟩
 obtain ⟨L,hL1,hL2,hL3⟩:=hL
 rw [show cN cur=1-L by omega]
 have e1:(1:Int)-(1-L)=L:=by omega
 clear hL1 cur
 have HL3:=zz hL3
 clear hL3
 go_upto_region 5 with fail
 have g5:=hg.drew_
 clear hg
 refine wp_region_held_drew (S:=fun w'=>w'.cell? ⟨A.b,11,none⟩=some (.pointer (some ⟨A.bsp,0,none⟩))∧w'.cell? ⟨b,7,none⟩=some (.bool y.sn)∧(w'.cell? ⟨A.b,0,none⟩=some (.int .i64 c.frags)∧w'.cell? ⟨A.b,1,none⟩=some (.int .i64 c.spine)∧w'.cell? ⟨A.b,2,none⟩=some (.int .i64 c.globals)∧w'.cell? ⟨A.b,3,none⟩=some (.int .i64 c.threads)∧w'.cell? ⟨A.b,4,none⟩=some (.int .i64 c.locals)∧w'.cell? ⟨A.b,5,none⟩=some (.int .i64 0)∧w'.cell? ⟨A.b,6,none⟩=some (.int .i64 c.stack)∧w'.cell? ⟨A.b,7,none⟩=some (.int .i64 c.low)∧w'.cell? ⟨A.b,8,none⟩=some (.slice (some ⟨A.g,0,none⟩) c.shapes.length A.cap))∧w'.cell? ⟨A.bsp,4,none⟩=some (.int .i64 c.frags)∧w'.cell? ⟨A.bsp,5,none⟩=some (.int .i64 c.spine)∧w'.cell? ⟨A.bsp,6,none⟩=some (.int .i64 c.globals)∧w'.cell? ⟨A.bsp,7,none⟩=some (.int .i64 c.threads)∧w'.cell? ⟨A.bsp,8,none⟩=some (.int .i64 c.locals)∧w'.cell? ⟨A.bsp,9,none⟩=some (.int .i64 0)∧w'.cell? ⟨A.bsp,10,none⟩=some (.int .i64 c.stack)∧w'.cell? ⟨A.bsp,11,none⟩=some (.int .i64 c.low)∧w'.cell? ⟨A.bsp,12,none⟩=some (.slice (some ⟨x.g,0,none⟩) c.shapes.length x.cap)∧w'.cell? ⟨A.bsp,13,none⟩=some (.pointer (some ⟨x.p,0,none⟩))∧w'.cell? ⟨A.bsp,14,none⟩=some (.pointer (some ⟨x.k,0,none⟩))∧w'.cell? ⟨A.bsp,15,none⟩=some (.pointer (some ⟨x.w,0,none⟩))) (by kernel_rfl) ⟨g5.l.cp 11 A.bsp,g5.r.cb 7 y.sn,corex9 g5.l,fD g5.l⟩ (fun hHeld=>?_)
 generalize w2.drew=wd at*
 refine tk 0 ?_
 refine tk 1 ?_
 refine tk 2 ?_
 refine tk 3 ?_
 refine tk 4 ?_
 refine tk 5 ?_
 refine tk 6 ?_
 refine tk 7 ?_
 refine tk 8 ?_
 refine tk 9 ?_
 refine tk 10 ?_
 refine tk 11 ?_
 refine tk 12 ?_
 refine tk 14 ?_
 refine tk 16 ?_
 refine tk 17 ?_
 refine tk 18 ?_
 refine tk 19 ?_
 have HSB:=zz (HS.out _ g5)
 clear HS
 refine rdy 13 fun K hK=>?_
 go_simp
 refine qz HSB.out fun w3 hg=>?_
 clear HSB g5 hHeld
 go_wp2_with fail
 refine hon hK ⟨hg.l.cp 11 A.bsp,hg.r.cb 7 y.sn,corex9 hg.l,fD hg.l⟩ fun hHeld=>?_
 clear hK K
 have HUA:=zz (HUS.out L HL3.out _ hg)
 clear HUS hg hHeld
 refine rdy 15 fun K hK=>?_
 go_simp
 refine qz HUA.out fun w4 hgx=>?_
 have hg:aA (Sep (dO A c q x) (Cyc b y Kt)) S w w4:=hgx
 clear HUA hgx
 go_wp2_with fail
 refine hon hK ⟨hg.l.cp 11 A.bsp,hg.r.cb 7 y.sn,corex9 hg.l,fD hg.l⟩ fun hHeld=>?_
 clear hK K
 have HNA:=zz (HNW.out L _ hg)
 clear HNW hHeld
 refine rdy 20 fun K hK=>?_
 go_simp
 with_reducible refine HNA.out.mono ?_
 rintro e w5 ⟨hb,g',cap',rfl,hs⟩
 have g6:aA (Sep (Sep (dO A c q x) (Cyc b y Kt)) (fO hb c g' cap' ⟨L,y.sn,0,0⟩)) S w w5:=hg.moreSt hs
 clear HNA hs hg
 go_wp2_with fail
 refine hon hK ⟨g6.l.l.cp 11 A.bsp,g6.l.r.cb 7 y.sn,corex9 g6.l.l,fD g6.l.l⟩ fun hHeld=>?_
 clear hK K
 refine tk 21 ?_
 refine tk 22 ?_
 have c6:=g6.l.r.cC 6 y.h
 rw [HHH.out] at c6
 have f6:=g6.l.r.fr 6
 have g7:aA (Sep (Sep (dO A c q x) (Cyc b {y with h:=.pointer (some ⟨hb,0,none⟩)} Kt)) (fO hb c g' cap' ⟨L,y.sn,0,0⟩)) S w _:=g6.then (aG (aH (fun S h=>(aA.begin h).put 6 (.pointer (some ⟨hb,0,none⟩)) (cs':=aW {y with h:=.pointer (some ⟨hb,0,none⟩)}) rfl)))
 clear hHeld
 refine rdy 23 fun K hK=>?_
 go_simp
 go_wp2_with fail
 refine hon hK ⟨g7.l.l.cp 11 A.bsp,g7.l.r.cb 7 y.sn,corex9 g7.l.l,fD g7.l.l⟩ fun hHeld=>?_
 clear hK K
 refine wpAnyH_done (by kernel_rfl) ?_ _
 clear hHeld g6 c6 f6 HHH
 generalize World.setCell _ _ _=w6 at*
 go_wp2_with fail
 have g8:=g7.drew_
 clear g7
 refine wp_region_held_drew (S:=fun w'=>w'.cell? ⟨b,6,none⟩=some (.pointer (some ⟨hb,0,none⟩))∧w'.cell? ⟨A.b,9,none⟩=some (.pointer (some ⟨A.bm,0,none⟩))∧w'.cell? ⟨A.b,10,none⟩=some (.pointer (some ⟨A.bs,0,none⟩))∧w'.cell? ⟨A.b,11,none⟩=some (.pointer (some ⟨A.bsp,0,none⟩))∧w'.cell? ⟨A.bsp,4,none⟩=some (.int .i64 c.frags)∧w'.cell? ⟨A.bsp,5,none⟩=some (.int .i64 c.spine)∧w'.cell? ⟨A.bsp,6,none⟩=some (.int .i64 c.globals)∧w'.cell? ⟨A.bsp,7,none⟩=some (.int .i64 c.threads)∧w'.cell? ⟨A.bsp,8,none⟩=some (.int .i64 c.locals)∧w'.cell? ⟨A.bsp,9,none⟩=some (.int .i64 0)∧w'.cell? ⟨A.bsp,10,none⟩=some (.int .i64 c.stack)∧w'.cell? ⟨A.bsp,11,none⟩=some (.int .i64 c.low)∧w'.cell? ⟨A.bsp,12,none⟩=some (.slice (some ⟨x.g,0,none⟩) c.shapes.length x.cap)∧w'.cell? ⟨A.bsp,13,none⟩=some (.pointer (some ⟨x.p,0,none⟩))∧w'.cell? ⟨A.bsp,14,none⟩=some (.pointer (some ⟨x.k,0,none⟩))∧w'.cell? ⟨A.bsp,15,none⟩=some (.pointer (some ⟨x.w,0,none⟩))) (by kernel_rfl) ⟨g8.l.r.cp 6 hb,g8.l.l.cp 9 A.bm,g8.l.l.cp 10 A.bs,g8.l.l.cp 11 A.bsp,fD g8.l.l⟩ (fun hHeld=>?_)
 generalize w6.drew=wd at*
 refine tk 0 ?_
 refine tk 1 ?_
 refine tk 2 ?_
 refine tk 3 ?_
 refine tk 4 ?_
 refine tk 5 ?_
 refine tk 6 ?_
 refine tk 7 ?_
 refine tk 8 ?_
 refine tk 9 ?_
 refine tk 10 ?_
 refine tk 11 ?_
 refine tk 12 ?_
 refine tk 13 ?_
 refine tk 14 ?_
 refine tk 15 ?_
 refine tk 16 ?_
 refine tk 17 ?_
 refine tk 18 ?_
 have HSC:=zz (HS2.out _ _ _ _ _ g8)
 clear HS2
 refine rdy 19 fun K hK=>?_
 go_simp
 refine qz HSC.out fun w7 hg=>?_
 clear HSC g8 hHeld
 go_wp2_with fail
 refine hon hK ⟨hg.l.r.cp 6 hb,hg.l.l.cp 9 A.bm,hg.l.l.cp 10 A.bs,hg.l.l.cp 11 A.bsp,fD hg.l.l⟩ fun hHeld=>?_
 clear hK K
 have HTA:=zz (HST.out _ _ _ _ HL3.out _ (.pointer (some ⟨A.bm,0,none⟩)) (.pointer (some ⟨A.bs,0,none⟩)) (.pointer (some ⟨x.k,0,none⟩)) hg)
 clear HST hg hHeld
 refine rdy 20 fun K hK=>?_
 go_simp
 refine qz HTA.out fun w8 hgx=>?_
 have hg:aA (Sep (Sep (dO A c q x) (Cyc b {y with h:=.pointer (some ⟨hb,0,none⟩)} Kt)) (fO hb c g' cap' ⟨L,y.sn,11,wrap64 (0+1)⟩)) S w w8:=hgx
 clear HTA hgx
 go_wp2_with fail
 refine hon hK ⟨hg.l.r.cp 6 hb,hg.l.l.cp 9 A.bm,hg.l.l.cp 10 A.bs,hg.l.l.cp 11 A.bsp,fD hg.l.l⟩ fun hHeld=>?_
 clear hK K
 refine wpAnyH_done (by kernel_rfl) ?_ _
 clear hHeld
 have HER:=zz (hg.look (lookR fun S h=>haul_errno h))
 have c6:=hg.l.r.cp 6 hb
 have c13:=hg.l.r.ci 13 0
 have f13:=hg.l.r.fr 13
 have g9:aA (Sep (Sep (dO A c q x) (Cyc b {y with h:=.pointer (some ⟨hb,0,none⟩)} Kt)) (fO hb c g' cap' ⟨L,y.sn,11,wrap64 (0+1)⟩)) S w _:=hg.then (aG (aH (fun S h=>(aA.begin h).put 13 (.int .i64 0) (cs':=aW {y with h:=.pointer (some ⟨hb,0,none⟩)}) rfl)))
 have HG9:=zz g9
 clear hg g9
 go_wp2_with fail
 refine qq HER.out ?_
 clear HER
 go_upto_region 8 with fail
 generalize World.setCell _ _ _=w10 at*
 clear c6 c13 f13
 have hg:=HG9.out.drew_
 clear HG9
 have HMV:=zz (hg.look (lookR fun S h=>haul_moved h))
 have c11:=hg.l.r.ci 11 y.mv
 rw [HM0.out] at c11
 refine wp_region_held_drew (S:=fun w'=>w'.cell? ⟨b,11,none⟩=some (.int .i64 0)∧w'.cell? ⟨b,6,none⟩=some (.pointer (some ⟨hb,0,none⟩))) (by kernel_rfl) ⟨c11,hg.l.r.cp 6 hb⟩ (fun hHeld=>?_)
 generalize w10.drew=wd at*
 refine tk 0 ?_
 refine tk 1 ?_
 refine tk 2 ?_
 refine tk 3 ?_
 refine tk 4 ?_
 refine tk 5 ?_
 refine tk 6 ?_
 refine tk 7 ?_
 refine rdy 8 fun K hK=>?_
 go_simp
 refine qq HMV.out ?_
 clear HMV hHeld
 go_wp2_with fail
 refine hon hK ⟨c11,hg.l.r.cp 6 hb⟩ fun hHeld=>?_
 clear hK K
 refine tk 9 ?_
 refine tk 10 ?_
 refine tk 11 ?_
 have f11:=hg.l.r.fr 11
 have g12:aA (Sep (Sep (dO A c q x) (Cyc b {y with h:=.pointer (some ⟨hb,0,none⟩)} Kt)) (fO hb c g' cap' ⟨L,y.sn,11,wrap64 (0+1)⟩)) S w (wd.setCell ⟨b,11,none⟩ (.int .i64 0)):=by
  have:=hg.then (aG (aH (fun S h=>(aA.begin h).put 11 (.int .i64 y.mv) (cs':=aW {y with h:=.pointer (some ⟨hb,0,none⟩)}) rfl)))
  have e0:(Value.int .i64 y.mv)=.int .i64 0:=by rw [HM0.out]
  exact e0▸this
 clear hHeld
 have c11b:=g12.l.r.ci 11 y.mv
 rw [HM0.out] at c11b
 refine rdy 12 fun K hK=>?_
 go_simp
 go_wp2_with fail
 refine hon hK ⟨c11b,g12.l.r.cp 6 hb⟩ fun hHeld=>?_
 clear hK K
 refine wpAnyH_done (by kernel_rfl) ?_ _
 clear hHeld hg c11 f11 c11b
 rw [show IntKind.i64.wrap 0=0 by decide]
 generalize wd.setCell ⟨b,11,none⟩ (.int .i64 0)=w12 at*
 have c1:=g12.l.r.ci 1 y.at_
 have f1:=g12.l.r.fr 1
 have g13:aA (Sep (Sep (dO A c q x) (Cyc b {y with h:=.pointer (some ⟨hb,0,none⟩),at_:=2} Kt)) (fO hb c g' cap' ⟨L,y.sn,11,wrap64 (0+1)⟩)) S w _:=g12.then (aG (aH (fun S h=>(aA.begin h).put 1 (.int .i64 2) (cs':=aW {y with h:=.pointer (some ⟨hb,0,none⟩),at_:=2}) rfl)))
 have HG:=zz (g13.l.conv fun _ _ h=>corex_shut h)
 clear g12 g13
 go_wp2_with fail
 go_returns
 exact ⟨_,rfl,HG.out⟩
end
def stageF (A:CA) (b:Nat) (st:Int) (f:FuncId) (args:Array Value):Prop:=
 (st=1∧f=66∧args=#[.pointer (some ⟨b,0,none⟩),.pointer (some ⟨A.b,0,none⟩)])∨
 (st=2∧f=67∧args=#[.pointer (some ⟨b,0,none⟩),.pointer (some ⟨A.b,0,none⟩),.int .i64 2,.int .i64 3])∨
 (st=3∧f=67∧args=#[.pointer (some ⟨b,0,none⟩),.pointer (some ⟨A.b,0,none⟩),.int .i64 3,.int .i64 4])∨
 (st=4∧f=68∧args=#[.pointer (some ⟨b,0,none⟩),.pointer (some ⟨A.b,0,none⟩)])∨
 (st=5∧f=69∧args=#[.pointer (some ⟨b,0,none⟩),.pointer (some ⟨A.b,0,none⟩)])∨
 (st=6∧f=70∧args=#[.pointer (some ⟨b,0,none⟩),.pointer (some ⟨A.b,0,none⟩)])∨
 (st=7∧f=71∧args=#[.pointer (some ⟨b,0,none⟩),.pointer (some ⟨A.b,0,none⟩)])∨
 (st=8∧f=72∧args=#[.pointer (some ⟨b,0,none⟩),.pointer (some ⟨A.b,0,none⟩)])∨
 (st=9∧f=73∧args=#[.pointer (some ⟨b,0,none⟩),.pointer (some ⟨A.b,0,none⟩)])∨
 (st=10∧f=74∧args=#[.pointer (some ⟨b,0,none⟩),.pointer (some ⟨A.b,0,none⟩)])
section
variable {α:Type} {O':α→aC}
theorem cy_stepN (hf:stageF A b y.st f args)
 (hW:∀ sp w,aN prog f args w (Sep (aE A c q) (Cyc b {y with sp:=sp} Kt)) (fun _ e=>e=.returned (.tuple #[])) O'):
 ∀ w,aN prog 31 #[.pointer (some ⟨b,0,none⟩),.pointer (some ⟨A.b,0,none⟩)] w (Sep (aE A c q) (Cyc b y Kt)) (fun _ e=>e=.returned (.tuple #[])) O':=by
 intro w S h
 unfold stageF at hf
 rcases hf with ⟨hst,rfl,rfl⟩|⟨hst,rfl,rfl⟩|⟨hst,rfl,rfl⟩|⟨hst,rfl,rfl⟩|⟨hst,rfl,rfl⟩|⟨hst,rfl,rfl⟩|⟨hst,rfl,rfl⟩|⟨hst,rfl,rfl⟩|⟨hst,rfl,rfl⟩|⟨hst,rfl,rfl⟩
 all_goals
  have g0:=aA.begin h
  have c13:=g0.r.ci 13 0
  have c8:=g0.r.ci 8 y.sd
  have c0:=g0.r.ci 0 y.st
  rw [hst] at c0
  have HW:=zz hW
  clear h hW
  by_cases hsd:0<y.sd
  · have c12:=g0.r.ci 12 y.sp
    have f12:=g0.r.fr 12
    have g1:aA (Sep (aE A c q) (Cyc b {y with sp:=wrap64 (y.sp+1)} Kt)) S w _:=g0.then (aH (fun S h=>(aA.begin h).put 12 (.int .i64 (wrap64 (y.sp+1))) (cs':=aW {y with sp:=wrap64 (y.sp+1)}) rfl))
    have HG:=zz g1
    clear g0 g1
    go_enter func31,ntmps31
    go_upto_region 3 with fail
    generalize World.setCell _ _ _=w1 at*
    clear c13 c8 c0 c12 f12 hsd
    have c0:=HG.out.r.ci 0 y.st
    rw [hst] at c0
    have HC:=zz ((HW.out _ _).on HG.out)
    clear HG HW
    go_wp2_with fail
    with_reducible refine HC.out.mono ?_
    rintro e w2 ⟨r,rfl,hg⟩
    have HG:=zz hg
    clear HC hg c0
    go_wp2_with fail
    go_returns
    exact ⟨r,rfl,HG.out⟩
  · have hd:decide (0<y.sd)=false:=by simpa using hsd
    have HC:=zz ((HW.out y.sp _).on g0)
    clear g0 HW
    go_enter func31,ntmps31
    go_wp2_with fail
    with_reducible refine HC.out.mono ?_
    rintro e w2 ⟨r,rfl,hg⟩
    have HG:=zz hg
    clear HC hg c0 c13 c8
    go_wp2_with fail
    go_returns
    exact ⟨r,rfl,HG.out⟩
theorem cy_step0 (hst:y.st=0) (w:World):
 aN prog 31 #[.pointer (some ⟨b,0,none⟩),.pointer (some ⟨A.b,0,none⟩)] w (Sep (aE A c q) (Cyc b y Kt)) (fun (_:Int) e=>e=.returned (.tuple #[])) (fun sp=>Sep (aE A c q) (Cyc b (cond (lnW q.ln||decide (cF c.frags q.fr<c.low)) (({y with sp:=sp}:Yc).to 1) {y with sp:=sp}) Kt)):=by
 intro S h
 have g0:=aA.begin h
 have c13:=g0.r.ci 13 0
 have c8:=g0.r.ci 8 y.sd
 have c0:=g0.r.ci 0 y.st
 rw [hst] at c0
 obtain ⟨rw_,hrw⟩:∃ r,(lnW q.ln||decide (cF c.frags q.fr<c.low))=r:=⟨_,rfl⟩
 have HRW:=zz hrw
 rw [hrw]
 have HY:∃ yf:Int→Yc,∀ sp,cond rw_ (({y with sp:=sp}:Yc).to 1) {y with sp:=sp}=yf sp:=⟨_,fun _=>rfl⟩
 obtain ⟨yf,hyf⟩:=HY
 simp only [hyf]
 have HY:=zz hyf
 clear h hrw hyf
 by_cases hsd:0<y.sd
 · have c12:=g0.r.ci 12 y.sp
   have f12:=g0.r.fr 12
   have g1:aA (Sep (aE A c q) (Cyc b {y with sp:=wrap64 (y.sp+1)} Kt)) S w _:=g0.then (aH (fun S h=>(aA.begin h).put 12 (.int .i64 (wrap64 (y.sp+1))) (cs':=aW {y with sp:=wrap64 (y.sp+1)}) rfl))
   have HG:=zz g1
   clear g0 g1
   go_enter func31,ntmps31
   go_upto_region 3 with fail
   generalize World.setCell _ _ _=w1 at*
   clear c13 c8 c0 c12 f12 hsd
   have c0:=HG.out.r.ci 0 y.st
   rw [hst] at c0
   have k11:=HG.out.l.cp 11 A.bsp
   have HWN:=zz ((iT (sp_wants _)).l.on HG.out)
   rw [HRW.out] at HWN
   clear HG
   go_wp2_with fail
   refine qz HWN.out fun w2 hgx=>?_
   have hg:aA (Sep (aE A c q) (Cyc b {y with sp:=wrap64 (y.sp+1)} Kt)) S w w2:=hgx
   clear HWN hgx k11 c0
   cases rw_ with
   | false=>
    have HG:=zz hg
    clear hg
    go_wp2_with fail
    go_returns
    exact ⟨_,rfl,by rw [←HY.out];exact HG.out⟩
   | true=>
    have HE:=zz (hg.call (cY fun S h=>cU 1 h))
    clear hg
    go_wp2_with fail
    refine qz HE.out fun w3 hg=>?_
    have HG:=zz hg
    clear HE hg
    go_wp2_with fail
    go_returns
    exact ⟨_,rfl,by rw [←HY.out];exact HG.out⟩
 · have hd:decide (0<y.sd)=false:=by simpa using hsd
   have HG:=zz g0
   clear g0
   go_enter func31,ntmps31
   have k11:=HG.out.l.cp 11 A.bsp
   have HWN:=zz ((iT (sp_wants _)).l.on HG.out)
   rw [HRW.out] at HWN
   clear HG
   go_wp2_with fail
   refine qz HWN.out fun w2 hgx=>?_
   have hg:aA (Sep (aE A c q) (Cyc b {y with sp:=y.sp} Kt)) S w w2:=hgx
   clear HWN hgx k11 c0 c8 c13
   cases rw_ with
   | false=>
    have HG:=zz hg
    clear hg
    go_wp2_with fail
    go_returns
    exact ⟨_,rfl,by rw [←HY.out];exact HG.out⟩
   | true=>
    have HE:=zz (hg.call (cY fun S h=>cU 1 h))
    clear hg
    go_wp2_with fail
    refine qz HE.out fun w3 hg=>?_
    have HG:=zz hg
    clear HE hg
    go_wp2_with fail
    go_returns
    exact ⟨_,rfl,by rw [←HY.out];exact HG.out⟩
end
end
section
open Go.Proofs.Tryz
open Go.RowKit
variable {args:Array Value} {A:CA} {c:Cf} {f:FuncId} {b n:Nat} {S:Nat→Prop} {q q':Sw.Q} {y y':Sw.Y} {C K:aC} {w w':World} {yc:Yc}
structure CyH where
 tr:Value
 h:Value
 sd:Int
 fi:Int
 fr:Int
 sp:Int
 tb:Nat
 K:aC
def cP (y:Sw.Y) (x:CyH):Yc:=⟨y.st,y.at_,(y.i:Nat),(y.hd:Nat),y.rs,x.tr,x.h,y.sn,x.sd,x.fi,x.fr,0,x.sp⟩
structure CyOk (c:Cf) (y:Sw.Y) (x:CyH):Prop where
 haul:y.st=7→y.at_≠2→x.h=.pointer none
 tr:y.st=5→y.at_=4→x.tr=.pointer (some ⟨x.tb,0,none⟩)∧x.K=TrO x.tb c y.sn y.tr
def CyO (b:Nat) (c:Cf) (y:Sw.Y):aC:=Ex fun x:CyH=>Pu (CyOk c y x) (Cyc b (cP y x) x.K)
def cyA (A:CA) (b:Nat):Array Value:=#[.pointer (some ⟨b,0,none⟩),.pointer (some ⟨A.b,0,none⟩)]
def bC (A:CA) (c:Cf) (b:Nat) (q:Sw.Q) (y:Sw.Y) (q':Sw.Q) (y':Sw.Y):Prop:=
 ∀ w,aJ prog 31 #[.pointer (some ⟨b,0,none⟩),.pointer (some ⟨A.b,0,none⟩)] w (Sep (aE A c q) (CyO b c y)) (.tuple #[]) (Sep (aE A c q') (CyO b c y'))
section
theorem CyOk.other {x:CyH} (h5:y.st≠5∨y.at_≠4) (h7:y.st≠7∨y.at_=2):CyOk c y x:=
 ⟨fun a b=>by rcases h7 with h|h;exact absurd a h;exact absurd h b,fun a b=>by rcases h5 with h|h;exact absurd a h;exact absurd b h⟩
theorem iC (x:CyH) (e:yc=cP y' x) (ek:K=x.K) (ok:CyOk c y' x) (h:(Sep C (Cyc b yc K)).at_ S w):(Sep C (CyO b c y')).at_ S w:=by
 subst e;subst ek
 exact aB.monoR (fun S h=>⟨x,ok,h⟩) h
theorem cyo_open (h:(Sep C (CyO b c y)).at_ S w):∃ x,CyOk c y x∧(Sep C (Cyc b (cP y x) x.K)).at_ S w:=by
 obtain ⟨S1,S2,h1,⟨x,ok,h2⟩,hr⟩:=h
 exact ⟨x,ok,S1,S2,h1,h2,hr⟩
theorem gL (hf:stageF A b y.st f args)
 (hW:∀ x,CyOk c y x→∃ (α:Type) (O':α→aC),(∀ sp w,aN prog f args w (Sep (aE A c q) (Cyc b {cP y x with sp:=sp} x.K)) (fun _ e=>e=.returned (.tuple #[])) O')∧∀ r S w,(O' r).at_ S w→(Sep (aE A c q') (CyO b c y')).at_ S w):bC A c b q y q' y':=by
 intro w S h
 obtain ⟨x,ok,h⟩:=cyo_open h
 obtain ⟨α,O',h1,h2⟩:=hW x ok
 exact (cy_stepN (y:=cP y x) hf h1 w S h).mono fun e w' ⟨r,he,hg⟩=>⟨he,hg.conv fun S w h=>h2 r S w h⟩
theorem cH (hf:stageF A b y.st f args) (yc':CyH→Int→Yc) (x':CyH→Int→CyH)
 (hW:∀ x,CyOk c y x→∀ sp w,aJ prog f args w (Sep (aE A c q) (Cyc b {cP y x with sp:=sp} x.K)) (.tuple #[]) (Sep (aE A c q') (Cyc b (yc' x sp) (x' x sp).K)))
 (he:∀ x sp,CyOk c y x→yc' x sp=cP y' (x' x sp)∧CyOk c y' (x' x sp)):bC A c b q y q' y':=by
 intro w S h
 obtain ⟨x,ok,h⟩:=cyo_open h
 refine (cy_stepN (α:=Int) (y:=cP y x) (O':=fun sp=>Sep (aE A c q') (Cyc b (yc' x sp) (x' x sp).K)) hf (fun sp w S h=>(hW x ok sp w S h).mono fun e w' ⟨he,hg⟩=>⟨sp,he,hg⟩) w S h).mono fun e w' ⟨sp,h1,hg⟩=>⟨h1,hg.conv fun S w h=>?_⟩
 exact iC (x' x sp) (he x sp ok).1 rfl (he x sp ok).2 h
theorem cs_starts0 (h1:y.st=1) (ha:y.at_=0):bC A c b q y {q with ln:=q.ln.map fun r=>{r with nt:=r.st==0}} {y with at_:=2}:=
 cH (f:=66) (args:=cyA A b) (.inl ⟨h1,rfl,rfl⟩) _ (fun x sp=>{x with sp:=sp}) (fun x ok sp w=>cy_starts0 ha w) fun x sp ok=>⟨rfl,.other (.inl (by show y.st≠5;omega)) (.inl (by show y.st≠7;omega))⟩
theorem cs_starts1 (h1:y.st=1) (ha:¬y.at_=0):bC A c b q y {q with st:=1,sn:=!q.sn} (({y with sn:=!y.sn}:Sw.Y).to 2):=
 cH (f:=66) (args:=cyA A b) (.inl ⟨h1,rfl,rfl⟩) _ (fun x sp=>{x with sp:=0,sd:=wrap64 (x.sd+1)}) (fun x ok sp w=>cy_starts1 ha w) fun x sp ok=>⟨rfl,.other (.inl (by show (2:Int)≠5;decide)) (.inl (by show (2:Int)≠7;decide))⟩
theorem cs_hands0 (h1:y.st=2∨y.st=3) (ha:y.at_=0) (hc:c.ok) (hi:y.i<c.threads):bC A c b q y q {y with i:=q.polls y.i,at_:=if q.polls y.i=c.threads then 2 else 0}:=by
 rcases h1 with h1|h1
 · exact cH (f:=67) (.inr (.inl ⟨h1,rfl,rfl⟩)) _ (fun x sp=>{x with sp:=sp}) (fun x ok sp w=>cy_hands0 2 3 hc ha rfl hi w) fun x sp ok=>⟨rfl,.other (.inl (by show y.st≠5;omega)) (.inl (by show y.st≠7;omega))⟩
 · exact cH (f:=67) (.inr (.inr (.inl ⟨h1,rfl,rfl⟩))) _ (fun x sp=>{x with sp:=sp}) (fun x ok sp w=>cy_hands0 3 4 hc ha rfl hi w) fun x sp ok=>⟨rfl,.other (.inl (by show y.st≠5;omega)) (.inl (by show y.st≠7;omega))⟩
theorem cs_hands1 (h1:y.st=2∨y.st=3) (ha:¬y.at_=0):bC A c b q y {q with st:=y.st} (y.to (y.st+1)):=by
 rcases h1 with h1|h1
 · rw [h1]
   exact cH (f:=67) (.inr (.inl ⟨h1,rfl,rfl⟩)) _ (fun x sp=>{x with sp:=sp}) (fun x ok sp w=>cy_hands1 2 3 (by decide) (by decide) ha w) fun x sp ok=>⟨rfl,.other (.inl (by show (2+1:Int)≠5;decide)) (.inl (by show (2+1:Int)≠7;decide))⟩
 · rw [h1]
   exact cH (f:=67) (.inr (.inr (.inl ⟨h1,rfl,rfl⟩))) _ (fun x sp=>{x with sp:=sp}) (fun x ok sp w=>cy_hands1 3 4 (by decide) (by decide) ha w) fun x sp ok=>⟨rfl,.other (.inl (by show (3+1:Int)≠5;decide)) (.inl (by show (3+1:Int)≠7;decide))⟩
theorem cs_turns0 (h1:y.st=6) (ha:y.at_=0) (hc:c.ok):bC A c b q y q {y with at_:=2}:=
 cH (f:=70) (args:=cyA A b) (.inr (.inr (.inr (.inr (.inr (.inl ⟨h1,rfl,rfl⟩)))))) _ (fun x sp=>{x with sp:=sp}) (fun x ok sp w=>cy_turns0 hc ha w) fun x sp ok=>⟨rfl,.other (.inl (by show y.st≠5;omega)) (.inl (by show y.st≠7;omega))⟩
theorem cs_turns1 (h1:y.st=6) (ha:y.at_=2):bC A c b q y {q with st:=4} {y with at_:=1}:=
 cH (f:=70) (args:=cyA A b) (.inr (.inr (.inr (.inr (.inr (.inl ⟨h1,rfl,rfl⟩)))))) _ (fun x sp=>{x with sp:=sp}) (fun x ok sp w=>cy_turns1 ha w) fun x sp ok=>⟨rfl,.other (.inl (by show y.st≠5;omega)) (.inl (by show y.st≠7;omega))⟩
theorem cs_hauls1 (h1:y.st=7) (ha:y.at_=2):bC A c b q y {q with st:=0} (y.to 8):=
 cH (f:=71) (args:=cyA A b) (.inr (.inr (.inr (.inr (.inr (.inr (.inl ⟨h1,rfl,rfl⟩))))))) _ (fun x sp=>{x with sp:=sp}) (fun x ok sp w=>cy_hauls1 ha w) fun x sp ok=>⟨rfl,.other (.inl (by show (8:Int)≠5;decide)) (.inl (by show (8:Int)≠7;decide))⟩
theorem cs_settles0 (h1:y.st=8) (ha:y.at_=0) (hc:c.ok) (hi:y.i<c.threads):bC A c b q y q {y with i:=q.polls y.i,at_:=if q.polls y.i=c.threads then 7 else 0}:=
 cH (f:=72) (args:=cyA A b) (.inr (.inr (.inr (.inr (.inr (.inr (.inr (.inl ⟨h1,rfl,rfl⟩)))))))) _ (fun x sp=>{x with sp:=sp}) (fun x ok sp w=>cy_settles0 hc ha rfl hi w) fun x sp ok=>⟨rfl,.other (.inl (by show y.st≠5;omega)) (.inl (by show y.st≠7;omega))⟩
theorem cs_settles1 (h1:y.st=8) (ha:¬y.at_=0):bC A c b q y q (y.to 9):=
 cH (f:=72) (args:=cyA A b) (.inr (.inr (.inr (.inr (.inr (.inr (.inr (.inl ⟨h1,rfl,rfl⟩)))))))) _ (fun x sp=>{x with sp:=sp}) (fun x ok sp w=>cy_settles1 ha w) fun x sp ok=>⟨rfl,.other (.inl (by show (9:Int)≠5;decide)) (.inl (by show (9:Int)≠7;decide))⟩
end
end
section
attribute [local go_sem] aF aI aO aV
open Go.Proofs.Tryz
open Go.RowKit
variable {c:Cf} {xs:List Value} {n:Nat} {S:Nat→Prop} {O:aC} {v:Value} {w w':World}
theorem Tryz.info27:(prog.info? 27).map (fun i=>(i.zero,i.size,i.bytes))=some (some (.agg #[.int .i64 0,.int .i64 0,.int .i64 0,.int .i64 0,.int .i64 0,.complex .f64 0 0]),6,56):=by kernel_rfl
section
theorem clone_ops (hn:n≤1000) (hne:n≠0) (hx:∀ x∈xs,x.oneCell'=true) (h:(Seq 6 v n xs).at_ S w):
 Calls prog 63 #[v] w fun e w'=>∃ og oc,e=.returned (.slice (some ⟨og,0,none⟩) n oc)∧St w (Seq 6 (.slice (some ⟨og,0,none⟩) n oc) n xs) w':=by
 obtain ⟨g,o,cap,cs,t,rfl,h2,h3,h4,hb,h6,h7,h8⟩:=h
 obtain ⟨i0,hi,hz0,hz1,hz2⟩:=info_parts Tryz.info27
 have he:=Lib.run_eql_slice_nil (P:=prog) w 24 27 (some ⟨g,o,none⟩) n cap 0 0 underlying24
 have HC:=zz h7
 have HB:=zz hb
 have HX:=zz hx
 clear hb h6 h7 h8 hx
 go_enter func63,ntmps63
 go_wp2_with (at_builtin;refine bI rfl _ _ 24 rfl 27 i0 (.agg #[.int .i64 0,.int .i64 0,.int .i64 0,.int .i64 0,.int .i64 0,.complex .f64 0 0]) 6 56 underlying24 hi hz0 hz1 hz2 rfl (by decide) _ _ _ rfl (World.ownsRow_made w #[] 0 (Nat.zero_le _) (Nat.zero_le _) rfl) ⟨g,o,none⟩ n cap xs rfl ?c0 ?c1 ?c2 ?c3 (by decide) ?_)
 case c0=>exact h4
 case c1=>
  intro j u hj
  rw [bU,(HB.out.alloc _).cell]
  exact HC.out j u hj
 case c2=>exact HX.out
 case c3=>omega
 intro v' w1 hown hg hb
 have G:=zz hg
 have B:=zz hb
 have HO:=zz hown
 clear hg hb hown
 go_wp2_with fail
 go_ret
 have ho:w1.ownsRow 0 27 6 v' n xs:=by simpa using HO.out
 have hbel:Below w.heap.size w w1:=((Below.refl _ _).alloc (Nat.le_refl _) _).grown G.out (by simp) (fun k hk=>by simp [Value.ownBlock] at hk;omega)
 have hrow:(cQ 27 6 v' n xs).at_ (fun k=>v'.ownBlock=some k) w1:=⟨ho,fun k=>Iff.rfl⟩
 rcases ho.2 with ⟨_,e⟩|⟨g',cap',cur,e,_,e2,e3,e4,e5,e6⟩
 · exact absurd e hne
 · subst e
   refine ⟨g',cap',rfl,⟨_,cX hrow hne,fun k hk=>?_⟩,hbel⟩
   have:=dF HO.out hk
   rcases B.out with e|e
   · rw [e] at hk;simp [Value.ownBlock] at hk;omega
   · rw [e] at hk;simp at hk;omega
theorem cycle_new (w:World):Calls prog 29 #[] w fun e w'=>∃ b,e=.returned (.pointer (some ⟨b,0,none⟩))∧St w (Cyc b ⟨0,0,0,0,false,.pointer none,.pointer none,false,0,0,0,0,0⟩ Emp) w':=by
 have hs:=zz ((St.fresh (w:=w) (aW ⟨0,0,0,0,false,.pointer none,.pointer none,false,0,0,0,0,0⟩) 151).conv (B:=Cyc w.heap.size ⟨0,0,0,0,false,.pointer none,.pointer none,false,0,0,0,0,0⟩ Emp) fun S w h=>gK h)
 simp only [aW] at hs
 go_enter func29,ntmps29
 go_wp2_with fail
 go_ret
 exact ⟨_,rfl,hs.out⟩
def y00:Sw.Y:=⟨0,0,0,0,false,false,⟨0,0,[],0⟩⟩
theorem cycle_newO (w:World):Calls prog 29 #[] w fun e w'=>∃ b,e=.returned (.pointer (some ⟨b,0,none⟩))∧St w (CyO b c y00) w':=
 (cycle_new w).mono fun e w' ⟨b,he,hs⟩=>⟨b,he,hs.conv fun S w h=>⟨⟨.pointer none,.pointer none,0,0,0,0,0,Emp⟩,⟨fun h=>by simp [y00] at h,fun h=>by simp [y00] at h⟩,h⟩⟩
end
def tc0:Tc:=⟨0,0,false,0,0,0,.slice none 0 0,0,0,.pointer none,0,false,0,0,0,0,.slice none 0 0,.slice none 0 0⟩
def lc0:Nat→Lc:=fun _=>⟨false,0,0⟩
theorem make_locals (n:Nat) (hn:n≤100) (w:World):(Instr.makeSlice 59 (.int .i64 n) (.int .i64 n)).run prog w=.ok (.slice (some ⟨w.heap.size,0,none⟩) n n) (w.alloc (.cells (madeCells #[.bool false,.complex .f64 0 0] (n*2)) 39)):=by
 obtain ⟨i0,hi,hz0,hz1,hz2⟩:=info_parts Tryz.info39
 have:=run_make (P:=prog) w 59 39 i0 _ underlying59 hi hz0 .i64 .i64 n n (by omega) (by omega) (by rw [hz2];omega) (by omega)
 rw [this,hz1];simp [Value.cells]
theorem St.locals (w:World) (n:Nat):St w (bV w.heap.size (n*2) 39 (cG lc0)) (w.alloc (.cells (madeCells #[.bool false,.complex .f64 0 0] (n*2)) 39)):=
 ⟨⟨fun k=>k=w.heap.size,⟨_,Blk.new w _ _,by simp [madeCells],fun j hj=>by
  have h2:j%2=0∨j%2=1:=by omega
  unfold cG lc0 cx
  rw [fl0]
  rcases h2 with h2|h2<;>simp [madeCells,hj,h2],rfl,fun _ h=>h⟩,fun k hk=>by omega⟩,(Below.refl _ _).alloc (Nat.le_refl _) _⟩
section
variable {no t:Nat}
theorem act_new (hn:1≤n) (hn8:n≤8) (hno:no≤1000) (hne:no≠0) (hx:∀ x∈xs,x.oneCell'=true) (hO:∀ S w,O.at_ S w→∃ S',(Seq 6 v no xs).at_ S' w) (h:O.at_ S w):
 Calls prog 30 #[.int .i64 (t:Int),.int .i64 (n:Int),v] w fun e w'=>∃ b og oc lg,e=.returned (.pointer (some ⟨b,0,none⟩))∧aA (Sep O (aT b t (.slice (some ⟨og,0,none⟩) no oc) lg n tc0 lc0 (Seq 6 (.slice (some ⟨og,0,none⟩) no oc) no xs))) S w w':=by
 have g0:=(aA.begin h).drew_
 have HC:=zz fun w1 (gg:aA O S w w1)=>clone_ops hno hne hx (hO _ _ gg.is).choose_spec
 have HC2:=zz fun w1 Z (gg:aA (Sep O Z) S w w1)=>clone_ops hno hne hx (hO _ _ gg.l.is).choose_spec
 have hmk:=fun w=>make_locals n (by omega) w
 have hmax:max (n:Int) 0=(n:Int):=by omega
 clear h hx hO
 go_enter func30,ntmps30
 go_wp2_with fail
 refine wp_region_held_drew (S:=fun w'=>True) (by kernel_rfl) trivial (fun hHeld=>?_)
 generalize w.drew=wd at*
 refine tk 0 ?_
 refine tk 1 ?_
 refine tk 3 ?_
 refine tk 4 ?_
 refine wpAnyH_ready (rs:=[2,5]) (by kernel_rfl) (by simp) ?_
 refine AllReadyH.cons (o:=_) rfl ?cA (AllReadyH.cons (o:=_) rfl ?cB AllReadyH.nil)
 case cA=>
  intro K hK
  go_simp
  with_reducible refine (HC.out _ g0).mono ?_
  rintro e w1 ⟨og,oc,rfl,hs⟩
  have g1:=g0.moreSt hs
  go_wp2_with fail
  refine hon hK trivial fun hHeld=>?_
  clear hK K
  refine rdy 5 fun K hK=>?_
  go_simp
  have g2:=g1.moreSt (St.locals w1 n)
  generalize w1.heap.size=lb at*
  generalize w1.alloc _=w2 at*
  go_wp2_with fail
  refine hon hK trivial fun hHeld=>?_
  clear hK K
  clear hHeld
  have g3:=g2.moreSt (St.fresh (aM t (.slice (some ⟨og,0,none⟩) no oc) (.slice (some ⟨lb,0,none⟩) n n) tc0) 158)
  have HG:=zz (g3.conv (O':=Sep O (aT w2.heap.size t (.slice (some ⟨og,0,none⟩) no oc) lb n tc0 lc0 (Seq 6 (.slice (some ⟨og,0,none⟩) no oc) no xs))) fun S w h=>aB.monoR (fun _ h=>aB.swap (aB.monoL (fun _ h=>aB.swap h) h)) (aB.assoc (aB.monoL (fun _ h=>aB.assoc h) h)))
  simp only [aM,tc0] at HG
  clear g3 g2 g1 g0 HC HC2 hmk hmax
  refine tk 6 ?_
  refine rdy 7 fun K hK=>?_
  go_simp
  go_wp2_with fail
  refine hon hK trivial fun hHeld=>?_
  clear hK K
  refine tk 8 ?_
  refine wpAnyH_done (by kernel_rfl) ?_ _
  clear hHeld
  go_wp2_with fail
  go_ret
  exact ⟨_,_,_,_,rfl,HG.out⟩
 case cB=>
  intro K hK
  go_simp
  have g1:=g0.moreSt (St.locals wd n)
  go_wp2_with fail
  refine hon hK trivial fun hHeld=>?_
  clear hK K
  generalize wd.heap.size=lb at*
  generalize wd.alloc _=w1 at*
  refine rdy 2 fun K hK=>?_
  go_simp
  with_reducible refine (HC2.out _ _ g1).mono ?_
  rintro e w2 ⟨og,oc,rfl,hs⟩
  have g2:=(g1.moreSt hs).conv fun S w h=>aB.rot h
  go_wp2_with fail
  refine hon hK trivial fun hHeld=>?_
  clear hK K
  clear hHeld
  have g3:=g2.moreSt (St.fresh (aM t (.slice (some ⟨og,0,none⟩) no oc) (.slice (some ⟨lb,0,none⟩) n n) tc0) 158)
  have HG:=zz (g3.conv (O':=Sep O (aT w2.heap.size t (.slice (some ⟨og,0,none⟩) no oc) lb n tc0 lc0 (Seq 6 (.slice (some ⟨og,0,none⟩) no oc) no xs))) fun S w h=>aB.monoR (fun _ h=>aB.swap (aB.monoL (fun _ h=>aB.swap h) h)) (aB.assoc (aB.monoL (fun _ h=>aB.assoc h) h)))
  simp only [aM,tc0] at HG
  clear g3 g2 g1 g0 HC HC2 hmk hmax
  refine tk 6 ?_
  refine rdy 7 fun K hK=>?_
  go_simp
  go_wp2_with fail
  refine hon hK trivial fun hHeld=>?_
  clear hK K
  refine tk 8 ?_
  refine wpAnyH_done (by kernel_rfl) ?_ _
  clear hHeld
  go_wp2_with fail
  go_ret
  exact ⟨_,_,_,_,rfl,HG.out⟩
end
end
end Go.Proofs.YtgcmiahhkalfmaaGreat
