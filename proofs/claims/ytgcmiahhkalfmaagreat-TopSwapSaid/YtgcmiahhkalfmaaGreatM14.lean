import Derived.Test.YtgcmiahhkalfmaaGreatM13
import Derived.Maps.OwnSet
import Derived.WalkArith
set_option maxRecDepth 100000
set_option maxHeartbeats 8000000
set_option linter.unusedVariables false
set_option linter.unusedSimpArgs false
namespace Go.Proofs.YtgcmiahhkalfmaaGreat
section
attribute [local go_sem] aF aI aO aV
open Go.Proofs.Tryz
open Go.RowKit
variable {c:Cf} {l rl:List Bool} {ws:List Int} {tl:List Nat} {cap g k k0 wk:Nat} {S:Nat→Prop} {m:Nat→Value} {x0:Option Addr} {q:Sw.Q} {A B Z:aC} {fr rv tv:Value} {X:VwX} {w w':World}
section
variable {b:Nat} {t:Tr} {bm gm n:Nat} {X Y:aC}
theorem aA.drop (h:aA A S w w') (hc:∀ S w,A.at_ S w→∃ S',B.at_ S' w∧∀ k,S' k→S k):aA B S w w':=by
 obtain ⟨⟨S1,h1,h2⟩,h3⟩:=h
 obtain ⟨S2,h4,h5⟩:=hc S1 _ h1
 exact ⟨⟨S2,h4,fun k hk=>h2 k (h5 k hk)⟩,h3⟩
def aU (A B:aC):Prop:=∀ S w,A.at_ S w→∃ S',B.at_ S' w∧∀ k,S' k→S k
theorem aU.refl (A:aC):aU A A:=fun S _ h=>⟨S,h,fun _ h=>h⟩
theorem aU.left (A B:aC):aU (Sep A B) A:=fun _ _ h=>aB.l h
theorem aU.right (A B:aC):aU (Sep A B) B:=fun _ _ h=>aB.r h
theorem aU.both {C D:aC} (h1:aU A C) (h2:aU B D):aU (Sep A B) (Sep C D):=fun S w ⟨S1,S2,a1,a2,a3,a4,a5,a6⟩=>by
 obtain ⟨T1,b1,b2⟩:=h1 _ _ a1
 obtain ⟨T2,c1,c2⟩:=h2 _ _ a2
 exact ⟨fun k=>T1 k∨T2 k,⟨T1,T2,b1,c1,fun k hk hk'=>a3 k (b2 k hk) (c2 k hk'),fun k h=>.inl h,fun k h=>.inr h,fun k h=>h⟩,fun k hk=>hk.elim (fun h=>a4 k (b2 k h)) (fun h=>a5 k (c2 k h))⟩
theorem aU.emp (A:aC):aU A Emp:=fun _ _ _=>⟨fun _=>False,fun _ h=>h,fun _ h=>h.elim⟩
def fX (b:Nat) (c:Cf) (g cap:Nat) (t:Tr) (ws:List Int) (l:List Bool):aC:=bP b c g cap t (Sep (WSq t.words ws) (Sep (dS t.rv l) Emp))
def Tr.read (t:Tr) (wk:Nat) (ws:List Int) (wv:Value):Tr:={t with pc:=if ixB wk 1 then 2 else if ws.length=0 then 9 else 1,words:=wv,next:=(ixI wk 1:Nat)}
theorem trace_walks1 (hc:c.ok) (hx:t.rv=.slice x0 l.length k0) (hl:l.length≤6) (hpc:t.pc=1) (hk:k<8) (hws:ws.length≤100) (hh:t.head<c.frags) (hn:t.head*8+k<n) (hn2:n≤20000) (hm:m (t.head*8+k)=cx wk 1) (hwk:wk≤63)
 (h:(Sep (fX b c g cap t (k::ws) l) (Sep (Mem bm gm n m) Y)).at_ S w) (p:Value):
 Calls prog 302 #[.pointer (some ⟨b,0,none⟩),.pointer (some ⟨bm,0,none⟩),p] w fun e w'=>∃ wv,e=.returned (.bool true)∧aA (Sep (fX b c g cap (t.read wk ws wv) ws l) (Sep (Mem bm gm n m) Y)) S w w':=by
 obtain ⟨gw,ow,cw,hwv,hw1,hw2⟩:=bN (kK (aA.begin h).l.r.r.l.is)
 have g0:=aA.begin h
 have c11:=g0.l.ci 11 t.pc
 rw [hpc] at c11
 have c14:=g0.drew_.l.ci 14 (t.head:Int)
 have c16:=g0.drew_.l.cC 16 t.words
 rw [hwv] at c16
 have hseq:=g0.drew_.l.r.r.l.conv fun _ _ h=>kK h
 have cw0:(w.drew).cell? ⟨gw,ow,none⟩=some (.int .i64 (k:Int)):=by rw [hwv] at hseq;exact hseq.seq (i:=0) rfl
 have HR:=zz (g0.drew_.call fun S h=>trace_read t.head k hc hh hk hn hn2 h)
 rw [hm] at HR
 have HWV:=zz hwv
 have HC:=zz hc
 have HPC:=zz hpc
 have HX:=zz hx
 obtain ⟨nw,hl1⟩:∃ nw,ws.length+1=nw:=⟨_,rfl⟩
 have h00:0<nw:=by omega
 have h01:(0:Int)<(nw:Int):=by omega
 have h02:nw=ws.length+1:=by omega
 have h03:nw≤101:=by omega
 have h04:1≤nw:=by omega
 have h05:(1:Int)≤(nw:Int):=by omega
 rw [hl1] at c16 hw1
 have HL1:=zz hl1
 have HL2:=zz h02
 clear g0 h hc hm hpc hseq hx hl1 h02
 go_enter func302,ntmps302
 go_wp2_with fail
 refine bA 1 fun F hF=>?_
 go_wp2_with fail
 go_region_held3 (fun w'=>w'.cell? ⟨b,14,none⟩=some (.int .i64 (t.head:Int))∧w'.cell? ⟨b,16,none⟩=some (.slice (some ⟨gw,ow,none⟩) nw cw)∧w'.cell? ⟨gw,ow,none⟩=some (.int .i64 (k:Int))) (first|exact ⟨c14,c16,cw0⟩|exact ⟨d14,d16,dw0⟩)
  ((go_at_call 299;(with_reducible refine HR.out.mono ?_);rintro e w7 ⟨rfl,hg⟩;have d14:=hg.l.ci 14 (t.head:Int);have d16:=hg.l.cC 16 t.words;rw [HWV.out,HL1.out] at d16;have dsq:=hg.l.r.r.l.conv fun _ _ h=>kK h;rw [HWV.out] at dsq;have dw0:=dsq.seq (i:=0) (x:=.int .i64 (k:Int)) rfl))
 clear HR c14 c16 cw0 d14 dw0
 have HG:=zz hg
 have HD:=zz dsq
 have fd:=hg.l.fr 16
 have HI1:=zz (fun w=>word_is wk 1 w hwk (by omega))
 have HI2:=zz (fun w=>cW wk 1 w hwk (by omega))
 rw [show ((1:Nat)==1)=true from rfl] at HI1
 clear hg dsq
 unfold cx at*
 generalize fl wk=z1 at*
 generalize fl 1=z2 at*
 have hcw:cw=1∨2≤cw:=by omega
 go_upto_region 10 with (with_reducible refine (HI1.out _).mono ?_;rintro e w8 ⟨rfl,rfl⟩)
 rcases hcw with rfl|hcw
 case' inl=>
  obtain rfl:nw=1:=by omega
  have hws0:ws=[]:=by have:=HL1.out;exact List.length_eq_zero_iff.1 (by omega)
  have key:∀ S w,(WSq t.words (k::ws)).at_ S w→(WSq (.slice (some ⟨gw,ow,none⟩) 0 0) ws).at_ S w:=by
   intro S1 w1 h5
   rw [HWV.out] at h5
   subst hws0
   obtain ⟨g',o',cap',cs,tt,h1,h2,h3,h4,h5,h6,h7,h8⟩:=kK h5
   cases h1
   exact .inl ⟨gw,ow,0,cs,tt,rfl,by simp,by simp,by simp,h5,h6,fun i x hx=>by simp at hx,h8⟩
  obtain ⟨w8,a2,c2,e8,G8⟩:∃ w8 a2 c2,w7.setCell ⟨b,16,none⟩ (.slice (some ⟨gw,ow,none⟩) 0 0)=w8∧aA (Sep (fX b c g cap {t with words:=.slice a2 ws.length c2} ws l) (Sep (Mem bm gm n m) Y)) S w w8:=
   ⟨_,some ⟨gw,ow,none⟩,0,rfl,by subst hws0;exact (HG.out.then (aG (fun S h=>(aA.begin h).put 16 (.slice (some ⟨gw,ow,none⟩) 0 0) (cs':=dL c g cap {t with words:=.slice (some ⟨gw,ow,none⟩) 0 0}) rfl))).conv fun S w h=>aB.monoL (fun S h=>aB.monoR (fun S h=>aB.monoR (fun S h=>aB.monoL (fun S h=>key S w h) h) h) h) h⟩
  clear key HD HG
 case' inr=>
  have key:∀ S w,(WSq t.words (k::ws)).at_ S w→(WSq (.slice (some ⟨gw,ow+1,none⟩) (nw-1) (cw-1)) ws).at_ S w:=by
   intro S1 w1 h5
   rw [HWV.out] at h5
   have e:=HL2.out
   subst e
   exact wsq_tail (n:=ws.length) rfl h5
  obtain ⟨w8,a2,c2,e8,G8⟩:∃ w8 a2 c2,w7.setCell ⟨b,16,none⟩ (.slice (some ⟨gw,ow+1,none⟩) (nw-1) (cw-1))=w8∧aA (Sep (fX b c g cap {t with words:=.slice a2 ws.length c2} ws l) (Sep (Mem bm gm n m) Y)) S w w8:=by
   have hn1:nw-1=ws.length:=by have:=HL1.out;omega
   refine ⟨_,some ⟨gw,ow+1,none⟩,cw-1,rfl,?_⟩
   rw [←hn1]
   exact (HG.out.then (aG (fun S h=>(aA.begin h).put 16 (.slice (some ⟨gw,ow+1,none⟩) (nw-1) (cw-1)) (cs':=dL c g cap {t with words:=.slice (some ⟨gw,ow+1,none⟩) (nw-1) (cw-1)}) rfl))).conv fun S w h=>aB.monoL (fun S h=>aB.monoR (fun S h=>aB.monoR (fun S h=>aB.monoL (fun S h=>key S w h) h) h) h) h
  clear key HD HG
 all_goals
  go_upto_region 11 with fail
  (try rw [e8])
  clear fd d16 e8 HI1
  generalize hnw:ws.length=nx at*
  have hnx:nx≤100:=hws
  have f17:=G8.l.fr 17
  have d17:=G8.l.ci 17 t.next
  have HG9:=zz (G8.then (aG (fun S h=>(aA.begin h).put 17 (.int .i64 (ixI wk 1)) (cs':=dL c g cap {t with words:=.slice a2 nx c2,next:=(ixI wk 1:Nat)}) rfl)))
  have HE:∀ pc:Int,pc=(if ixB wk 1 then 2 else if ws.length=0 then 9 else 1)→({t with pc:=pc,words:=.slice a2 nx c2,next:=(ixI wk 1:Nat)}:Tr)=t.read wk ws (.slice a2 nx c2):=fun pc e=>by rw [e];rfl
  rw [hnw] at HE
  have HE:=zz HE
  have d11:=HG9.out.l.ci 11 t.pc
  have f11:=HG9.out.l.fr 11
  clear G8 hnw
  go_wp2_with fail
  refine qq (HI2.out _) ?_
  clear HI2
  cases hB:ixB wk 1 with
  | true=>
   have HG7:=zz (HG9.out.then (aG (fun S h=>(aA.begin h).put 11 (.int .i64 2) (cs':=dL c g cap {t with pc:=2,words:=.slice a2 nx c2,next:=(ixI wk 1:Nat)}) rfl)))
   have HE:=zz (HE.out 2 (by rw [hB];rfl))
   clear HG9 hB
   generalize ixI wk 1=ni at*
   go_wp2_with fail
   (try rw [aI])
   go_ret
   exact ⟨_,rfl,HE.out▸HG7.out⟩
  | false=>
   have HGO:=zz (jT (t:={t with words:=.slice a2 nx c2,next:=(ixI wk 1:Nat)}) (x1:=a2) (n1:=nx) (k1:=c2) hl HX.out rfl hnx HG9.out.l.is)
   have HE:=zz (HE.out _ (by rw [hB]))
   obtain ⟨pcv,hpcv⟩:∃ pcv:Int,(if nx=0 then 9 else 1)=pcv:=⟨_,rfl⟩
   simp only [Bool.false_eq_true,if_false] at HE
   rw [hpcv] at HGO HE
   clear hB hpcv
   generalize ixI wk 1=ni at*
   go_wp2_with fail
   refine wp_goto (show Exit.via F _ _ 1 (.goto 3) _ _ from ⟨_,by rw [hF.out];rfl,?_⟩)
   clear hF
   generalize World.setCell _ ⟨b,17,none⟩ _=w9 at*
   go_wp2_with fail
   refine qz (HGO.out) fun w5 hb5=>?_
   have G6:=HG9.out.below_ hb5
   have d11:=G6.l.ci 11 t.pc
   have f11:=G6.l.fr 11
   have HG7:=zz (G6.then (aG (fun S h=>(aA.begin h).put 11 (.int .i64 pcv) (cs':=dL c g cap {t with pc:=pcv,words:=.slice a2 nx c2,next:=(ni:Nat)}) rfl)))
   clear HGO HG9 hb5 G6 f17 d17
   go_wp2_with fail
   (try rw [aI])
   go_ret
   exact ⟨_,rfl,HE.out▸HG7.out⟩
end
section
variable {fl:List Nat} {i i0 hb vb:Nat} {H F T V R R0:aC}
theorem vw_new (h:aA (Sep (Sep H (aZ c g cap)) (Var vb (vwC c hb g cap (.slice none 0 0) (.slice none 0 0) (.slice none 0 0) i) 133)) S w w'):aA (Sep H (Vw ⟨hb,vb,g,cap⟩ c (.slice none 0 0) [] (.slice none 0 0) [] (.slice none 0 0) [] i)) S w w':=by
 have g1:=h.conv (O':=Sep H (Sep (Var vb (vwC c hb g cap (.slice none 0 0) (.slice none 0 0) (.slice none 0 0) i) 133) (aZ c g cap))) fun _ _ h=>aB.monoR (fun _ h=>aB.swap h) (aB.assoc h)
 have g2:aA (Sep (Sep H _) (dS (.slice none 0 0) [])) S w w':=g1.more ⟨fun _=>False,⟨.inl ⟨rfl,rfl⟩,fun _ h=>h.elim⟩,fun k hk=>hk.elim⟩ (Below.refl _ _)
 exact (kZ (kZ g2)).conv fun _ _ h=>aB.assoc (aB.monoL (fun _ h=>aB.assoc (aB.monoL (fun _ h=>aB.assoc h) h)) h)
theorem vw_refs (h:aA (Sep (Sep H (Sep (Sep (Sep V R0) F) T)) R) S w w'):aA (Sep H (Sep (Sep (Sep V R) F) T)) S w w':=
 (h.conv (O':=Sep H (Sep (Sep (Sep (Sep V R) R0) F) T)) fun _ _ h=>aB.monoR (fun _ h=>aB.monoL (fun _ h=>aB.monoL (fun _ h=>aB.rot h) h) (aB.monoL (fun _ h=>aB.rot h) (aB.rot h))) (aB.assoc h)).drop (aU.both (aU.refl _) (aU.both (aU.both (aU.left _ _) (aU.refl _)) (aU.refl _)))
theorem aud_looks (a:AuH H c hb q) (hc:c.ok) (hs:c.shapes[0]? = some (false,rl)) (hi:i<c.frags) (hd:(q.t i).hd=true) (h1:q.m (i*8+1)=⟨0,1⟩) (hw:∀ k,rl[k]? = some true→(q.m (i*8+(2+k))).i=1∧(q.m (i*8+(2+k))).k≤63) (w:World):
 aN prog 49 #[.pointer (some ⟨hb,0,none⟩),.int .i64 (i:Int)] w H (fun (z:VwX×Value×Value×Value) e=>e=.returned (.tuple #[.pointer (some ⟨z.1.vb,0,none⟩),.bool true])) (fun z=>Sep H (Vw z.1 c z.2.1 rl z.2.2.1 [i] z.2.2.2 (rfN q.m i rl rl.length) i)):=by
 intro S h
 have hrl:rl.length≤6:=(hc.shape _ (List.mem_of_getElem? hs)).1
 have HC:=zz ((a.conf w).on (aA.begin h))
 have HH:=zz fun (V:aC) w1 (gg:aA (Sep H V) S w w1)=>((a.head i hi w1).l).on gg
 have HT:=zz fun w=>jA 0 1 w (by omega) (by omega)
 have HW:=zz fun (X:VwX) (e:X.hb=hb) w=>aud_word (X:=X) (i:=i) (i0:=i) (k:=1) (rv:=.slice none 0 0) (rl:=[]) (fr:=.slice none 0 0) (fl:=[]) (tv:=.slice none 0 0) (tl:=[]) (e▸a) hc hi (by omega) w
 have HO:=zz fun (X:VwX) (e:X.hb=hb) rv w=>aud_object (X:=X) (rv:=rv) (e▸a) hc hrl hi hw w
 have HS:=zz fun (S:Nat→Prop) (w:World) (g cap:Nat) (h:(aZ c g cap).at_ S w)=>dM (i:=0) hc h hs
 rw [hd] at HH
 rw [h1] at HW
 unfold cfV at HC HS
 rw [show ((0:Nat):Int)=0 from rfl] at HS HT
 rw [show ((1:Nat):Int)=1 from rfl] at HW HT
 dsimp only at HW
 clear h hc hs hi hd h1 hw a
 go_enter func49,ntmps49
 go_wp2_with fail
 with_reducible refine HC.out.mono ?_
 rintro e w1 ⟨⟨g,cap⟩,rfl,hg⟩
 have g1:=vw_new (hg.moreSt (St.fresh (vwC c hb g cap (.slice none 0 0) (.slice none 0 0) (.slice none 0 0) i) 133))
 obtain ⟨vb,hvb⟩:∃ k,w1.heap.size=k:=⟨_,rfl⟩
 rw [hvb] at g1
 obtain ⟨X,hX⟩:∃ X:VwX,X=⟨hb,vb,g,cap⟩:=⟨_,rfl⟩
 rw [←hX] at g1
 simp only [vwC] at g1
 have EB:=zz (show X.hb=hb by rw [hX])
 obtain rfl:vb=X.vb:=by rw [hX]
 clear hX
 have G1:=zz g1
 clear HC hg g1
 dsimp only
 go_upto_region 2 with fail
 generalize w1.alloc _=w2 at*
 have HHC:=zz (HH.out _ _ G1.out)
 clear HH G1 hvb
 go_wp2_with fail
 refine qz HHC.out fun w3 hg=>?_
 have HWC:=zz ((HW.out X EB.out _).on hg)
 clear HHC hg HW
 go_wp2_with fail
 refine qz HWC.out fun w4 hg=>?_
 have HG:=zz hg
 clear HWC hg
 go_wp2_with fail
 refine qq (HT.out _) ?_
 obtain ⟨c0,c1,c2,c3,c4,c5,c6,c7,c8,c9⟩:=vw_c HG.out.r
 have HSC:=zz (HS.out _ _ _ _ HG.out.r.l.l.l.r.is)
 clear HT HS
 go_wp2_with fail
 with_reducible refine HSC.out.mono ?_
 rintro e w6 ⟨rv,rfl,hb6,S6,hr6,hs6⟩
 have g6:=HG.out.more (B:=dS rv rl) ⟨S6,⟨hr6,fun k hk=>(hs6 k hk).2⟩,fun k hk=>(hs6 k hk).1⟩ hb6
 obtain ⟨x6,n6,rfl⟩:=hr6.slice
 have g7:=(show aA (Sep (Sep H (Vw X c (.slice none 0 0) [] (.slice none 0 0) [] (.slice none 0 0) [] i)) (dS (.slice x6 rl.length n6) rl)) S w w6 from g6).moreSt (St.fresh #[.bool false,.slice x6 rl.length n6] 55)
 have G7:=zz g7
 clear HSC HG hb6 hr6 hs6 g6 g7 c0 c1 c2 c3 c4 c5 c6 c7 c8 c9
 dsimp only
 go_upto_region 6 with fail
 generalize w6.heap.size=sb at*
 generalize w6.alloc _=w7 at*
 have s0:=G7.out.r.vb 0 false
 have s1:=G7.out.r.vC 1 (.slice x6 rl.length n6)
 have d10:=G7.out.l.l.r.l.l.l.l.vb 10 false
 have d11:=G7.out.l.l.r.l.l.l.l.vC 11 (.slice none 0 0)
 have d13:=G7.out.l.l.r.l.l.l.l.vi 13 0
 have f10:=G7.out.l.l.r.l.l.l.l.vf 10
 have f11:=G7.out.l.l.r.l.l.l.l.vf 11
 have f13:=G7.out.l.l.r.l.l.l.l.vf 13
 have g8:=G7.out.then (aG (aG (aH (aG (aG (aG (aG (fun S h=>(((aA.begin h).vput 10 (.bool false) (cs':=vwC c X.hb X.g X.cap (.slice none 0 0) (.slice none 0 0) (.slice none 0 0) i) rfl).vput 11 (.slice x6 rl.length n6) (cs':=vwC c X.hb X.g X.cap (.slice x6 rl.length n6) (.slice none 0 0) (.slice none 0 0) i) rfl).vput 13 (.int .i64 0) (cs':=vwC c X.hb X.g X.cap (.slice x6 rl.length n6) (.slice none 0 0) (.slice none 0 0) i) rfl))))))))
 have t0:=g8.r.vb 0 false
 have HOC:=zz ((HO.out X EB.out _ _).on (vw_refs g8.l))
 clear G7 g8 HO
 go_wp2_with fail
 with_reducible refine HOC.out.mono ?_
 rintro e w9 ⟨⟨fr,tv⟩,rfl,hg⟩
 have HG:=zz hg
 clear HOC hg
 go_wp2_with fail
 go_ret2
 exact ⟨(X,_,fr,tv),rfl,HG.out⟩
end
end
section
open Go.Proofs.Tryz
open Go.RowKit
variable {b j n t:Nat} {f:Nat→Bool} {S:Nat→Prop} {w:World}
def mapAt (b n:Nat) (f:Nat→Bool) (S:Nat→Prop) (w:World):Prop:=
 (∃ D:DataW Unit,w.ownsMap prog 3 (plainElem prog 4) b n D∧∀ j:Nat,j≤1024→D.atKey (.int .i64 (j:Int)) (.lit (.bool false))=.lit (.bool (f j)))∧S b∧∀ k,S k→k=b
def MapS (b n:Nat) (f:Nat→Bool):aC where
 at_:=mapAt b n f
 lt:=fun ⟨⟨_,h,_⟩,_,h3⟩ k hk=>by rw [h3 k hk];exact h.lt
 kept:=fun ⟨⟨D,⟨es,ck,hb,r⟩,h2⟩,hS,h3⟩ hk _=>⟨⟨D,⟨es,ck,(hk _ hS).trans hb,r⟩,h2⟩,hS,h3⟩
theorem St.map (w:World):St w (MapS w.heap.size 0 fun _=>false) (w.alloc (.map #[] 0)):=
 ⟨⟨fun k=>k=w.heap.size,⟨⟨.map [],World.ownsMap_made w _ _ _,fun j _=>rfl⟩,rfl,fun _ h=>h⟩,fun k hk=>by omega⟩,(Below.refl _ _).alloc (Nat.le_refl _) _⟩
theorem wf_small (hj:j≤1024):(Lit.int .i64 (j:Int)).wf=true:=WalkArith.wf_i64 (by omega)
theorem zero_bool (w:World):(zeroValue 4).run prog w=.ok (.bool false) w:=by kernel_rfl
theorem map_get (ht:prog.underlying t=some (.map 3 4)) (h:(MapS b n f).at_ S w) (hj:j≤1024):
 (Instr.lookup t (.map (some b)) (.int .i64 (j:Int)) false).run prog w=.ok (.bool (f j)) w:=by
 obtain ⟨⟨D,h1,h2⟩,_⟩:=h
 obtain ⟨v,ps,hr,hv⟩:=h1.lookup (Maps.int_keyed underlying3) ht (zero_bool w) (plainElem_bool underlying4 false) (Maps.keyOf_int_mk underlying3 (wf_small hj))
 rw [h2 j hj] at hv
 unfold plainElem at hv
 rw [underlying4] at hv
 cases v<;>simp at hv
 rw [hr,hv.1]
theorem map_put (ht:prog.underlying t=some (.map 3 4)) (h:(MapS b n f).at_ S w) (hj:j≤1024) (hn:n≤1024):
 ∃ w',(Instr.mapUpdate t (.map (some b)) (.int .i64 (j:Int)) (.bool true)).run prog w=.ok () w'∧aA (MapS b (n+1) fun k=>if k=j then true else f k) S w w':=by
 obtain ⟨⟨D,h1,h2⟩,hS,h3⟩:=h
 obtain ⟨w',hr,ho,hg⟩:=h1.update (Maps.int_keyed underlying3) ht (by unfold maxLen;omega) (Maps.keyOf_int_mk underlying3 (wf_small hj)) (plainElem_bool underlying4 true)
 refine ⟨w',hr,⟨⟨S,⟨⟨_,ho,fun k hk=>?_⟩,hS,h3⟩,fun k hk=>.inl hk⟩,aY.grown (aY.refl S w) hg fun k hk=>by cases hk;exact .inl hS⟩⟩
 dsimp only
 by_cases e:k=j
 · subst e;rw [if_pos rfl];exact Maps.atKey_put_same h1.isMap (by simp [WideAt.IsKeyLit]) _ _
 · rw [if_neg e,Maps.atKey_put_other (fun h=>e (by simp at h;omega))];exact h2 k hk
def okp (x:Nat):Prop:=decide (18437736874454810624<IntKind.u64.wrap ((x:Int)*2))=false
theorem okp_fl (k:Nat) (hk:k≤63):okp (fl k):=by
 have:=all17 (p:=fun k=>!decide (18437736874454810624<IntKind.u64.wrap (((fl k:Nat):Int)*2))) (by kernel_rfl) k hk
 simpa [okp] using this
theorem sp_part (x:Nat) (w:World) (ho:okp x):Calls prog 19 #[.float .f64 x] w fun e w'=>e=.returned (.int .u64 x)∧w=w':=by
 have hb:=bits_run x w
 unfold okp at ho
 go_enter func19,ntmps19
 go_wp2_with fail
 go_ret
 exact ⟨rfl,rfl⟩
theorem sp_word0 (p q r s:Nat) (w:World) (hp:okp p) (hq:okp q) (hr:okp r) (hs:okp s):Calls prog 8 #[.complex .f64 p q,.complex .f64 r s] w fun e w'=>e=.returned (.bool (sameB p q r s))∧w=w':=by
 unfold sameB
 cases hpr:((p:Int)==(r:Int))
 all_goals
  have HP:=zz hp
  have HQ:=zz hq
  have HR:=zz hr
  have HS:=zz hs
  clear hp hq hr hs
  go_enter func8,ntmps8
  go_wp2_with fail
  refine qq (sp_part p _ HP.out) ?_
  go_wp2_with fail
  refine qq (sp_part r _ HR.out) ?_
  go_wp2_with fail
  try (
   refine qq (sp_part q _ HQ.out) ?_
   go_wp2_with fail
   refine qq (sp_part s _ HS.out) ?_
   go_wp2_with fail)
  go_ret
  exact ⟨by simp,rfl⟩
theorem kU (k i j m:Nat) (w:World) (h1:k≤63) (h2:i≤63) (h3:j≤63) (h4:m≤63):Calls prog 8 #[cx k i,cx j m] w fun e w'=>e=.returned (.bool (k==j&&i==m))∧w=w':=by
 rw [←sameB_fl k i j m h1 h2 h3 h4]
 exact sp_word0 _ _ _ _ w (okp_fl k h1) (okp_fl i h2) (okp_fl j h3) (okp_fl m h4)
theorem jD (w:World):Calls prog 37 #[] w fun e w'=>e=.returned cJ∧w=w':=by
 go_enter func37,ntmps37
 go_wp2_with fail
 go_ret
 exact ⟨rfl,rfl⟩
theorem sr_ref (i:Nat) (w:World) (hi:i≤2000):Calls prog 42 #[.int .i64 (i:Int)] w fun e w'=>e=.returned (cx (i+1) 1)∧w=w':=by
 have e1:cx (i+1) 1=.complex .f64 (floatOfInt .f64 ((i:Int)+1)) 4607182418800017408:=by unfold cx;rw [fl1];rfl
 rw [e1]
 clear e1
 go_enter func42,ntmps42
 go_wp2_with fail
 go_ret
 exact ⟨rfl,rfl⟩
theorem ge1_fl (k:Nat) (hk:k≤63):(FloatKind.f64.format.order (fl k) 4607182418800017408==some Ordering.gt||FloatKind.f64.format.order (fl k) 4607182418800017408==some Ordering.eq)=decide (1≤k):=by
 have:=all17 (p:=fun k=>(FloatKind.f64.format.order (fl k) 4607182418800017408==some Ordering.gt||FloatKind.f64.format.order (fl k) 4607182418800017408==some Ordering.eq)==decide (1≤k)) (by kernel_rfl) k hk
 simpa using this
theorem le40_fl (k:Nat) (hk:k≤63):(FloatKind.f64.format.order (fl k) 4787326403894841344==some Ordering.lt||FloatKind.f64.format.order (fl k) 4787326403894841344==some Ordering.eq)=true:=by
 have:=all17 (p:=fun k=>(FloatKind.f64.format.order (fl k) 4787326403894841344==some Ordering.lt||FloatKind.f64.format.order (fl k) 4787326403894841344==some Ordering.eq)) (by kernel_rfl) k hk
 exact this
theorem sr_index (k i:Nat) (w:World) (hk:k≤63) (hi:i≤63):Calls prog 16 #[cx k i] w fun e w'=>e=.returned (.tuple #[.int .i64 (ixI k i),.bool (ixB k i)])∧w=w':=by
 have h1:=ge1_fl k hk
 have h2:=le40_fl k hk
 have h3:∀ w,(convert 28 3 (.float .f64 (fl k))).run prog w=.ok (.int .i64 (k:Int)) w:=fun w=>run_convert_float_int w 29 3 .f64 .i64 _ _ (by kernel_rfl) underlying3 (int_fl k hk)
 have HR:=zz (fun w=>sr_ref (k-1) w (by omega))
 have HS:=zz (fun w=>kU k i k 1 w hk hi hk (by omega))
 have hI:((ixI k i:Nat):Int)=if ixB k i then (k:Int)-1 else 0:=by
  unfold ixI;split
  · next h=>simp [ixB] at h;omega
  · rfl
 rw [hI]
 unfold ixB
 by_cases h0:1≤k
 · rw [show k-1+1=k by omega,show ((k-1:Nat):Int)=(k:Int)-1 by omega] at HR
   simp only [beq_self_eq_true,Bool.true_and] at HS
   simp only [h0,decide_true,Bool.true_and] at h1 ⊢
   have hk1:(1:Int)≤k:=by omega
   have hk2:(k:Int)≤63:=by omega
   unfold cx at*
   generalize fl k=x at*
   generalize fl i=y at*
   generalize (k:Int)=n at*
   clear hI h0 hk
   generalize (i==1)=bb at*
   cases bb
   all_goals
    go_enter func16,ntmps16
    go_wp2_with fail
    refine qq (HR.out _) ?_
    go_wp2_with fail
    refine qq (HS.out _) ?_
    go_wp2_with fail
    go_ret2
    exact ⟨by simp,rfl⟩
 · simp only [h0,decide_false,Bool.false_and] at h1 ⊢
   unfold cx at*
   generalize fl k=x at*
   generalize fl i=y at*
   clear hI h0 HR HS h3
   go_enter func16,ntmps16
   go_wp2_with fail
   go_ret2
   exact ⟨by simp,rfl⟩
end
section
attribute [local go_sem] aF aI aO aV
open Go.Proofs.Tryz
open Go.RowKit
variable {c:Cf} {K:Int} {l:List Bool} {cap g:Nat} {S:Nat→Prop} {w w':World}
theorem kQ (n a b:Int) (w:World) (h1:a≤n) (h2:n≤b):Calls prog 80 #[.int .i64 n,.int .i64 a,.int .i64 b] w fun e w'=>e=.returned (.bool true)∧w=w':=by
 go_enter func80,ntmps80
 go_wp2_with fail
 go_ret
 exact ⟨rfl,rfl⟩
theorem sr_may (a:Bool) (x:Option Addr) (n cap:Nat) (w:World) (hn:n≤40) (ha:a=true→n=1):Calls prog 81 #[.agg #[.bool a,.slice x n cap]] w fun e w'=>e=.returned (.bool true)∧Below w.heap.size w w':=by
 cases a with
 | true=>
  obtain rfl:=ha rfl
  clear ha
  go_enter func81,ntmps81
  go_wp2_with fail
  go_ret
  exact ⟨rfl,(Below.refl _ _).alloc (Nat.le_refl _) _⟩
 | false=>
  clear ha
  have hn2:(n:Int)≤40:=by omega
  go_enter func81,ntmps81
  go_wp2_with fail
  go_ret
  exact ⟨by simp [hn2],(Below.refl _ _).alloc (Nat.le_refl _) _⟩
section
theorem sr_check (hc:c.ok) (h:(aZ c g cap).at_ S w):Calls prog 36 #[cfV c g cap] w fun e w'=>e=.returned (.int .i64 0)∧Below w.heap.size w w':=by
 have hb0:Below w.heap.size w (w.alloc (.cells (aD c (.slice (some ⟨g,0,none⟩) c.shapes.length cap)) 34)):=(Below.refl w.heap.size w).alloc (Nat.le_refl _) _
 have C0:Blk (w.alloc (.cells (aD c (.slice (some ⟨g,0,none⟩) c.shapes.length cap)) 34)) w.heap.size (aD c (.slice (some ⟨g,0,none⟩) c.shapes.length cap)) 34:=Blk.new w _ _
 have HB0:=zz hb0
 have HC0:=zz C0
 have g0:=zz ((aA.begin h).below_ hb0)
 have HK:=zz hc
 obtain ⟨⟨a1,a2⟩,b2,c2,⟨d1,d2⟩,⟨e1,e2⟩,⟨g1,g2⟩,h2,⟨i1,i2⟩,_⟩:=hc
 have W1:=zz (fun w=>kQ (c.frags:Int) 4 1024 w (by omega) (by omega))
 have W2:=zz (fun w=>kQ (c.spine:Int) 0 2048 w (by omega) (by omega))
 have W3:=zz (fun w=>kQ (c.globals:Int) 0 8 w (by omega) (by omega))
 have W4:=zz (fun w=>kQ (c.threads:Int) 1 16 w (by omega) (by omega))
 have W5:=zz (fun w=>kQ (c.locals:Int) 1 8 w (by omega) (by omega))
 have W6:=zz (fun w=>kQ 0 0 8 w (by omega) (by omega))
 have W7:=zz (fun w=>kQ (c.stack:Int) 1 256 w (by omega) (by omega))
 have W8:=zz (fun w=>kQ (c.low:Int) 0 c.frags w (by omega) (by omega))
 have W9:=zz (fun w=>kQ (c.shapes.length:Int) 1 8 w (by omega) (by omega))
 unfold cfV at*
 simp only [aD] at*
 clear h hb0
 go_enter func36,ntmps36
 go_upto_region 1 with fail
 generalize w.alloc _=W at*
 obtain ⟨c0,c1,c2,c3,c4,c5,c6,c7,c8⟩:=cf9 C0
 go_wp2_with fail
 refine qq (W1.out _) ?_
 go_wp2_with fail
 refine qq (W2.out _) ?_
 go_wp2_with fail
 refine qq (W3.out _) ?_
 go_wp2_with fail
 refine qq (W4.out _) ?_
 go_wp2_with fail
 refine qq (W5.out _) ?_
 go_wp2_with fail
 refine qq (W6.out _) ?_
 go_wp2_with fail
 refine qq (W7.out _) ?_
 go_wp2_with fail
 refine qq (W8.out _) ?_
 go_wp2_with fail
 refine qq (W9.out _) ?_
 go_wp2_with fail
 clear c0 c1 c2 c3 c4 c5 c6 c7 c8 W1 W2 W3 W4 W5 W6 W7 W8 W9
 go_loopw [2,3] (fun _ i wr=>∃ q:Nat,q≤c.shapes.length∧i=.int .i64 q∧Below W.heap.size W wr) (fun _ i _=>c.shapes.length-(intOf i).toNat)
 case atStart=>exact ⟨0,Nat.zero_le _,rfl,Below.refl _ _⟩
 case round=>
  obtain ⟨q,hq,rfl,hb⟩:=hrel
  have C1:=aK HC0.out hb
  have c8:=C1.cell 8
  simp at c8
  by_cases hlt:q<c.shapes.length
  · obtain ⟨v,s1,s2,hr⟩:=fL (g0.out.below_ hb).is (List.getElem?_eq_getElem hlt)
    obtain ⟨x,k,rfl⟩:=hr.slice
    have hs:=HK.out.shape c.shapes[q] (List.getElem_mem hlt)
    have HM:=zz (fun w=>sr_may c.shapes[q].1 x c.shapes[q].2.length k w (by omega) hs.2)
    have HB:=zz hb
    clear hr hs hb C1
    generalize c.shapes[q].1=b1 at*
    generalize c.shapes[q].2.length=n1 at*
    go_wp2_with fail
    refine qz (HM.out _) fun w' hb=>?_
    go_wp2_with fail
    go_round
    case rel=>exact ⟨q+1,by omega,by go_num,HB.out.trans (hb.mono HB.out.size)⟩
    case measure=>simp [intOf];omega
  · obtain rfl:q=c.shapes.length:=by omega
    have HB:=zz (HB0.out.trans (hb.mono HB0.out.size))
    clear hb C1
    go_wp2_with fail
    go_ret
    exact ⟨rfl,HB.out⟩
end
theorem sg_word1 (w:World):Calls prog 82 #[.int .i64 1] w fun e w'=>e=.returned (.tuple #[.string ⟨#[110,101,119]⟩,.string ⟨#[65,107]⟩])∧w=w':=by
 go_enter func82,ntmps82
 go_wp2_with fail
 go_ret2
 exact ⟨rfl,rfl⟩
theorem sg_word3 (w:World):Calls prog 82 #[.int .i64 3] w fun e w'=>e=.returned (.tuple #[.string ⟨#[108,111,97,100]⟩,.string ⟨#[65,66,78]⟩])∧w=w':=by
 go_enter func82,ntmps82
 go_wp2_with fail
 go_ret2
 exact ⟨rfl,rfl⟩
theorem sg_word4 (w:World):Calls prog 82 #[.int .i64 4] w fun e w'=>e=.returned (.tuple #[.string ⟨#[115,116,111,114,101]⟩,.string ⟨#[65,78,66]⟩])∧w=w':=by
 go_enter func82,ntmps82
 go_wp2_with fail
 go_ret2
 exact ⟨rfl,rfl⟩
theorem sg_word7 (w:World):Calls prog 82 #[.int .i64 7] w fun e w'=>e=.returned (.tuple #[.string ⟨#[108,111,111,107]⟩,.string ⟨#[65,78]⟩])∧w=w':=by
 go_enter func82,ntmps82
 go_wp2_with fail
 go_ret2
 exact ⟨rfl,rfl⟩
theorem sg_word8 (w:World):Calls prog 82 #[.int .i64 8] w fun e w'=>e=.returned (.tuple #[.string ⟨#[115,101,116]⟩,.string ⟨#[78,66]⟩])∧w=w':=by
 go_enter func82,ntmps82
 go_wp2_with fail
 go_ret2
 exact ⟨rfl,rfl⟩
theorem sg_word12 (w:World):Calls prog 82 #[.int .i64 12] w fun e w'=>e=.returned (.tuple #[.string ⟨#[110,117,109,98,101,114]⟩,.string ⟨#[65,122]⟩])∧w=w':=by
 go_enter func82,ntmps82
 go_wp2_with fail
 go_ret2
 exact ⟨rfl,rfl⟩
theorem sg_word13 (w:World):Calls prog 82 #[.int .i64 13] w fun e w'=>e=.returned (.tuple #[.string ⟨#[99,108,101,97,114]⟩,.string ⟨#[65]⟩])∧w=w':=by
 go_enter func82,ntmps82
 go_wp2_with fail
 go_ret2
 exact ⟨rfl,rfl⟩
theorem sg_word18 (w:World):Calls prog 82 #[.int .i64 18] w fun e w'=>e=.returned (.tuple #[.string ⟨#[108,101,97,118,101]⟩,.string ⟨#[]⟩])∧w=w':=by
 go_enter func82,ntmps82
 go_wp2_with fail
 go_ret2
 exact ⟨rfl,rfl⟩
section
theorem sr_size (x:Option Addr) (n cap:Nat) (w:World) (hn:n≤6):Calls prog 84 #[.agg #[.bool false,.slice x n cap],.int .i64 0] w fun e w'=>e=.returned (.int .i64 1)∧Below w.heap.size w w':=by
 have hb0:Below w.heap.size w (w.alloc (.cells #[.bool false,.slice x n cap] 55)):=(Below.refl w.heap.size w).alloc (Nat.le_refl _) _
 have HB:=zz hb0
 have HM:=zz (fun w=>sr_may false x n cap w (by omega) (by simp))
 have C0:=zz (Blk.new w #[.bool false,.slice x n cap] 55)
 clear hb0
 have hn2:(n:Int)≤6:=by omega
 go_enter func84,ntmps84
 go_wp2_with fail
 refine qz (HM.out _) fun w1 hb=>?_
 have C1:=aK C0.out hb
 have c0:=C1.cell 0
 have c1:=C1.cell 1
 simp at c0 c1
 have HB1:=zz (HB.out.trans (hb.mono HB.out.size))
 clear C1 C0 HB hb HM
 go_wp2_with fail
 go_ret
 exact ⟨rfl,HB1.out⟩
theorem sr_spine (x:Option Addr) (n cap:Nat) (k:Int) (w:World) (hn:n≤6):Calls prog 85 #[.agg #[.bool false,.slice x n cap],.int .i64 k] w fun e w'=>e=.returned (.int .i64 0)∧Below w.heap.size w w':=by
 have hb0:Below w.heap.size w (w.alloc (.cells #[.bool false,.slice x n cap] 55)):=(Below.refl w.heap.size w).alloc (Nat.le_refl _) _
 have HB:=zz hb0
 have HM:=zz (fun w=>sr_may false x n cap w (by omega) (by simp))
 have C0:=zz (Blk.new w #[.bool false,.slice x n cap] 55)
 clear hb0
 go_enter func85,ntmps85
 go_wp2_with fail
 refine qz (HM.out _) fun w1 hb=>?_
 have C1:=aK C0.out hb
 have c0:=C1.cell 0
 simp at c0
 have HB1:=zz (HB.out.trans (hb.mono HB.out.size))
 clear C1 C0 HB hb HM
 go_wp2_with fail
 go_ret
 exact ⟨rfl,HB1.out⟩
def ShapeAt (l:List Bool) (S:Nat→Prop) (w:World) (e:Ending) (w':World):Prop:=
 ∃ (x:Option Addr) (k:Nat),e=.returned (.tuple #[.agg #[.bool false,.slice x l.length k],.bool true])∧Below w.heap.size w w'∧cL (.slice x l.length k) l S w'
theorem sr_shape (hc:c.ok) (h:(aZ c g cap).at_ S w) (hs:c.shapes[0]? = some (false,l)):Calls prog 83 #[cfV c g cap,.int .i64 0] w (ShapeAt l S w):=by
 have hl:=hc.shapes
 have hb0:Below w.heap.size w ((w.alloc (.cells (aD c (.slice (some ⟨g,0,none⟩) c.shapes.length cap)) 34)).alloc (.cells #[.bool false,.slice none 0 0] 55)):=((Below.refl w.heap.size w).alloc (Nat.le_refl _) _).alloc (by simp) _
 have C0:Blk ((w.alloc (.cells (aD c (.slice (some ⟨g,0,none⟩) c.shapes.length cap)) 34)).alloc (.cells #[.bool false,.slice none 0 0] 55)) w.heap.size (aD c (.slice (some ⟨g,0,none⟩) c.shapes.length cap)) 34:=(Blk.new w _ _).alloc _
 have D0:Blk ((w.alloc (.cells (aD c (.slice (some ⟨g,0,none⟩) c.shapes.length cap)) 34)).alloc (.cells #[.bool false,.slice none 0 0] 55)) (w.heap.size+1) #[.bool false,.slice none 0 0] 55:=by have:=Blk.new (w.alloc (.cells (aD c (.slice (some ⟨g,0,none⟩) c.shapes.length cap)) 34)) #[.bool false,.slice none 0 0] 55;rw [World.size_alloc] at this;exact this
 have HB0:=zz hb0
 have HC0:=zz C0
 have HD0:=zz D0
 have h1:=keep h hb0
 obtain ⟨u,c1,c2,hr⟩:=fL h1 hs
 obtain ⟨x,k,rfl⟩:=hr.slice
 have hlt:∀ j,S j→j≠w.heap.size+1:=fun j hj=>by have:=(aZ c g cap).lt h j hj;omega
 have c8:=C0.cell 8
 have d0:=D0.cell 0
 have d1:=D0.cell 1
 have f0:=D0.free 0
 have f1:=D0.free 1
 have F9:=Blk.fill D0 [.bool false,.slice x l.length k] rfl
 have B9:=bX (b:=w.heap.size+1) (by omega) [.bool false,.slice x l.length k] _ 0 hb0
 have R9:=hr.kept fun j hj=>gZ (hlt j hj) [.bool false,.slice x l.length k] _ 0
 have HB:=zz B9
 have HR:=zz R9
 have e0:=F9.cell 0
 have e1:=F9.cell 1
 unfold cfV
 simp only [aD,setCells] at*
 have hl0:(0:Int)<(c.shapes.length:Int):=by omega
 have hl1:¬(c.shapes.length:Int)≤0:=by omega
 clear h h1 hb0 C0 D0 HC0 HD0 HB0 hr hs F9 B9 R9 hlt hc
 generalize c.shapes.length=nsh at*
 go_enter func83,ntmps83
 go_upto_region 1 with fail
 generalize (w.alloc _).alloc _=W1 at*
 simp at d0 d1 c8 e0 e1
 go_wp2_with fail
 exact bodyPost_ret (v:=.tuple #[.agg #[.bool false,.slice x l.length k],.bool true]) (by simp [results,results83,go_sem,e0,e1]) rfl ⟨x,k,rfl,HB.out,HR.out⟩
end
section
theorem sg_check {A B C N z1 z2:Nat} (hk:K=3∨K=4∨K=7∨K=8∨K=12∨K=13∨K=18) (hc:c.ok) (hA:A<c.locals) (hB:B<c.locals) (hN:K=7∨K=8→N<c.globals) (h:(aZ c g cap).at_ S w):
 Calls prog 39 #[cfV c g cap,.agg #[.int .i64 K,.int .i64 A,.int .i64 B,.int .i64 C,.int .i64 N,.complex .f64 z1 z2]] w fun e w'=>e=.returned (.int .i64 0)∧Below w.heap.size w w':=by
 have hb0:Below w.heap.size w ((w.alloc (.cells (aD c (.slice (some ⟨g,0,none⟩) c.shapes.length cap)) 34)).alloc (.cells #[.int .i64 K,.int .i64 A,.int .i64 B,.int .i64 C,.int .i64 N,.complex .f64 z1 z2] 27)):=((Below.refl w.heap.size w).alloc (Nat.le_refl _) _).alloc (by simp) _
 have C0:Blk ((w.alloc (.cells (aD c (.slice (some ⟨g,0,none⟩) c.shapes.length cap)) 34)).alloc (.cells #[.int .i64 K,.int .i64 A,.int .i64 B,.int .i64 C,.int .i64 N,.complex .f64 z1 z2] 27)) w.heap.size (aD c (.slice (some ⟨g,0,none⟩) c.shapes.length cap)) 34:=(Blk.new w _ _).alloc _
 have D0:Blk ((w.alloc (.cells (aD c (.slice (some ⟨g,0,none⟩) c.shapes.length cap)) 34)).alloc (.cells #[.int .i64 K,.int .i64 A,.int .i64 B,.int .i64 C,.int .i64 N,.complex .f64 z1 z2] 27)) (w.heap.size+1) #[.int .i64 K,.int .i64 A,.int .i64 B,.int .i64 C,.int .i64 N,.complex .f64 z1 z2] 27:=by have:=Blk.new (w.alloc (.cells (aD c (.slice (some ⟨g,0,none⟩) c.shapes.length cap)) 34)) #[.int .i64 K,.int .i64 A,.int .i64 B,.int .i64 C,.int .i64 N,.complex .f64 z1 z2] 27;rw [World.size_alloc] at this;exact this
 have HB0:=zz hb0
 have HC0:=zz C0
 have HD0:=zz D0
 have g0:=zz ((aA.begin h).below_ hb0)
 have HK:=zz hc
 have hA1:¬(c.locals:Int)≤(A:Int):=by omega
 have hB1:¬(c.locals:Int)≤(B:Int):=by omega
 have hA2:¬c.locals≤A:=by omega
 have hB2:¬c.locals≤B:=by omega
 have hL1:=hc.locals
 have hL2:¬(c.locals:Int)≤0:=by omega
 have hN1:K=7∨K=8→¬c.globals≤N∧¬(c.globals:Int)≤(N:Int):=fun h=>by have:=hN h;omega
 unfold cfV at*
 simp only [aD] at*
 clear h hc hb0 hN
 rcases hk with rfl|rfl|rfl|rfl|rfl|rfl|rfl<;>(
  try (have hN3:=hN1 (by decide);obtain ⟨hN4,hN5⟩:=hN3)
  clear hN1
  go_enter func39,ntmps39
  go_upto_region 1 with fail
  generalize (w.alloc _).alloc _=W1 at*
  generalize hob:w.heap.size+1=ob at*
  have d0:=D0.cell 0
  simp at d0
  go_wp2_with fail
  first
   | (with_reducible refine (sg_word3 _).mono ?_;rintro e w2 ⟨rfl,rfl⟩)
   | (with_reducible refine (sg_word4 _).mono ?_;rintro e w2 ⟨rfl,rfl⟩)
   | (with_reducible refine (sg_word7 _).mono ?_;rintro e w2 ⟨rfl,rfl⟩)
   | (with_reducible refine (sg_word8 _).mono ?_;rintro e w2 ⟨rfl,rfl⟩)
   | (with_reducible refine (sg_word12 _).mono ?_;rintro e w2 ⟨rfl,rfl⟩)
   | (with_reducible refine (sg_word13 _).mono ?_;rintro e w2 ⟨rfl,rfl⟩)
   | (with_reducible refine (sg_word18 _).mono ?_;rintro e w2 ⟨rfl,rfl⟩)
  have HCK:=zz (sr_check HK.out g0.out.is)
  obtain ⟨c0,c1,c2,c3,c4,c5,c6,c7,c8⟩:=cf9 C0
  unfold cfV at HCK
  go_wp2_with fail
  refine qz HCK.out fun w3 hb=>?_
  have C3:=aK HC0.out hb
  have D3:=aK HD0.out hb
  have HB3:=zz (HB0.out.trans (hb.mono HB0.out.size))
  have G3:=zz (g0.out.below_ hb)
  clear c0 c1 c2 c3 c4 c5 c6 c7 c8 d0 C0 D0 HC0 HD0 HB0 hb HCK g0
  obtain ⟨c0,c1,c2,c3,c4,c5,c6,c7,c8⟩:=cf9 C3
  have d0:=D3.cell 0
  have d1:=D3.cell 1
  have d2:=D3.cell 2
  have d4:=D3.cell 4
  simp at d0 d1 d2 d4
  clear C3 D3
  go_wp2_with fail
  go_loop [4,7,8] (fun _ i _=>∃ q:Nat,q≤3∧i=.int .i64 q) (fun _ i _=>3-(intOf i).toNat)
  case atStart=>exact ⟨0,by omega,rfl⟩
  case round=>
   obtain ⟨q,hq,rfl⟩:=hrel
   have hcase:q=0∨q=1∨q=2∨q=3:=by omega
   rcases hcase with rfl|rfl|rfl|rfl<;>(
    go_wp2_with fail
    first
     | (go_round
        case rel=>first|exact ⟨1,by omega,rfl⟩|exact ⟨2,by omega,rfl⟩|exact ⟨3,by omega,rfl⟩
        case measure=>simp [intOf])
     | (go_ret
        exact ⟨rfl,HB3.out⟩)))
end
end
end Go.Proofs.YtgcmiahhkalfmaaGreat
