import Derived.Test.YtgcmiahhkalfmaaGreatM28
import Derived.Shelf.Sort.Plain
import Derived.Sort.OwnSortedInts
set_option maxRecDepth 100000
set_option maxHeartbeats 8000000
set_option linter.unusedVariables false
set_option linter.unusedSimpArgs false
namespace Go.Proofs.YtgcmiahhkalfmaaGreat
section
attribute [local go_sem] aF aI aO aV
open Go.Proofs.Tryz
open Go.RowKit
variable {c:Cf} {rl:List Bool} {b j n q u:Nat} {f:Nat→Bool} {ph st:Nat→Int} {lo:Nat→Nat→Lc} {R S:Nat→Prop} {m:Nat→Value} {g:Sw.Gr} {t:TypeId} {w w':World}
def vgsAt (q n:Nat) (t:TypeId) (m:Nat→Value) (S:Nat→Prop) (w:World):Prop:=∃ cs:Array Value,Blk w q cs t∧n≤cs.size∧(∀ j,j<n→cs[j]? = some (m j))∧S q∧∀ k,S k→k=q
def Vgs (q n:Nat) (t:TypeId) (m:Nat→Value):aC where
 at_:=vgsAt q n t m
 lt:=fun ⟨_,h1,_,_,_,h3⟩ k hk=>by rw [h3 k hk];exact h1.lt
 kept:=fun ⟨cs,h1,a,b,h2,h3⟩ hk _=>⟨cs,by unfold Blk at *;rw [hk q h2];exact h1,a,b,h2,h3⟩
theorem vgs_set (h:(Vgs q n t m).at_ S w) (j:Nat) (x:Value):aA (Vgs q n t (dH m j x)) S w (w.setCell ⟨q,j,none⟩ x):=by
 obtain ⟨cs,h1,h2,h3,h4,h5⟩:=h
 refine ⟨⟨S,⟨_,h1.set j x,by simpa using h2,fun k hk=>?_,h4,h5⟩,fun _ h=>.inl h⟩,(aY.refl S w).setCell (.inl h4) _⟩
 by_cases e:k=j
 · subst e
   have:k<cs.size:=by omega
   simp [dH,this]
 · rw [Array.getElem?_setIfInBounds_ne (by omega)];simp only [dH,e,if_false];exact h3 k hk
theorem eS (h:(Vgs q n t m).at_ S w) (hj:j<n):w.cell? ⟨q,j,none⟩=some (m j):=by
 obtain ⟨cs,h1,h2,h3,_⟩:=h
 rw [h1.cell];exact h3 j hj
theorem vgs_free (h:(Vgs q n t m).at_ S w) (j:Nat):w.frozen? ⟨q,j,none⟩=false:=by
 obtain ⟨cs,h1,_⟩:=h
 exact h1.free j
structure GrX where
 g:Nat
 cap:Nat
 lv:Value
 wb:Nat→Nat
 wc:Nat→Nat
 tb:Nat
 lb:Nat
 gb:Nat
 gc:Nat
 xb:Nat→Nat
def grC (c:Cf) (x:GrX):Array Value:=#[.int .i64 c.frags,.int .i64 c.spine,.int .i64 c.globals,.int .i64 c.threads,.int .i64 c.locals,.int .i64 0,.int .i64 c.stack,.int .i64 c.low,.slice (some ⟨x.g,0,none⟩) c.shapes.length x.cap,
 x.lv,.slice (some ⟨x.tb,0,none⟩) 2 2,.slice (some ⟨x.lb,0,none⟩) 2 2,.slice (some ⟨x.gb,0,none⟩) 2 x.gc]
def fI (x:GrX):Nat→List Value
 | 0=>[]
 | d+1=>fI x d++[.int .i64 0,.int .i64 0,.slice (some ⟨x.wb d,0,none⟩) 3 (x.wc d)]
def jM (f:Nat→Sw.Wd) (j:Nat):Value:=cx (f j).k (f j).i
def thM (th:Nat→Bool) (j:Nat):Value:=.bool (th j)
def lsM (c:Cf) (x:GrX) (th:Nat→Bool) (j:Nat):Value:=if th j then .slice (some ⟨x.xb j,0,none⟩) c.locals c.locals else .slice none 0 0
def LsT (c:Cf) (x:GrX) (g:Sw.Gr) (t:Nat):aC:=if g.th t then bV (x.xb t) (c.locals*2) 39 (cG (g.l t)) else Emp
def GrB (b:Nat) (c:Cf) (x:GrX) (g:Sw.Gr):aC:=
 Sep (Var b (grC c x) 73) (Sep (aZ c x.g x.cap) (Sep (Sep (cQ 177 3 x.lv g.len (fI x g.len)) (All g.len fun d=>Vgs (x.wb d) 3 25 (jM (g.f d))))
  (Sep (Sep (bV x.tb 2 4 (thM g.th)) (bV x.lb 2 59 (lsM c x g.th))) (Sep (Vgs x.gb 2 25 (jM g.g)) (All 2 (LsT c x g))))))
def GrO (b:Nat) (c:Cf) (g:Sw.Gr):aC:=Ex fun x:GrX=>GrB b c x g
section
variable {t:Nat} {x:GrX}
theorem iR (h:aA (GrB b c x g) S w w'):w'.cell? ⟨b,9,none⟩=some x.lv∧w'.cell? ⟨b,10,none⟩=some (.slice (some ⟨x.tb,0,none⟩) 2 2)∧w'.cell? ⟨b,11,none⟩=some (.slice (some ⟨x.lb,0,none⟩) 2 2)∧w'.cell? ⟨b,12,none⟩=some (.slice (some ⟨x.gb,0,none⟩) 2 x.gc)∧
 (∀ j,j<2→w'.cell? ⟨x.tb,j,none⟩=some (.bool (g.th j)))∧(∀ j,j<2→w'.cell? ⟨x.lb,j,none⟩=some (lsM c x g.th j)):=
 ⟨h.c 9 rfl,h.c 10 rfl,h.c 11 rfl,h.c 12 rfl,fun j hj=>aR h.r.r.r.l.l.is hj,fun j hj=>aR h.r.r.r.l.r.is hj⟩
theorem gr_isB (ht:t<2) (w:World):aJ prog 38 #[.pointer (some ⟨b,0,none⟩),.int .i64 (t:Int)] w (GrB b c x g) (.bool (g.th t)) (GrB b c x g):=by
 refine .look fun S h=>?_
 obtain ⟨_,c10,_,_,ct,_⟩:=iR (aA.begin h)
 have ct1:=ct t ht
 have h0:(0:Int)≤(t:Int):=by omega
 have h2:(t:Int)<2:=by omega
 clear h ct
 go_enter func38,ntmps38
 go_wp2_with fail
 go_ret
 exact ⟨rfl,rfl⟩
theorem gr_is (ht:t<2) (w:World):aJ prog 38 #[.pointer (some ⟨b,0,none⟩),.int .i64 (t:Int)] w (GrO b c g) (.bool (g.th t)) (GrO b c g):=.ex fun x=>⟨x,gr_isB ht w⟩
theorem lsM_on (x:GrX) (th:Nat→Bool) (t u:Nat):lsM c {x with xb:=fun k=>if k=t then u else x.xb k} (Sw.set th t true)=dH (lsM c x th) t (.slice (some ⟨u,0,none⟩) c.locals c.locals):=by
 funext k
 unfold lsM dH Sw.set
 by_cases e:k=t<;>simp [e]
theorem thM_on (th:Nat→Bool) (t:Nat) (z:Bool):thM (Sw.set th t z)=dH (thM th) t (.bool z):=by
 funext k
 unfold thM dH Sw.set
 by_cases e:k=t<;>simp [e]
theorem all2 {T:Nat→aC} (h:(All 2 T).at_ S w):(Sep (T 0) (T 1)).at_ S w:=aB.monoL (fun _ h=>fU (aB.swap h)) h
theorem all2' {T:Nat→aC} (h:(Sep (T 0) (T 1)).at_ S w):(All 2 T).at_ S w:=aB.monoL (fun S h=>aB.swap (⟨S,fun _=>False,h,fun _ h=>h,fun _ _ h=>h,fun _ h=>h,fun _ h=>h.elim,fun _ h=>.inl h⟩:(Sep _ Emp).at_ S w)) h
theorem ls_join (ht:t<2) (h:(Sep (All 2 (LsT c x g)) (bV u (c.locals*2) 39 (cG lc0))).at_ S w) (hz:g.th t=false):(All 2 (LsT c {x with xb:=fun k=>if k=t then u else x.xb k} (g.join t))).at_ S w:=by
 have e0:∀ k,k≠t→LsT c {x with xb:=fun k=>if k=t then u else x.xb k} (g.join t) k=LsT c x g k:=fun k hk=>by
  unfold LsT Sw.Gr.join Sw.set;simp [hk]
 have e1:LsT c {x with xb:=fun k=>if k=t then u else x.xb k} (g.join t) t=bV u (c.locals*2) 39 (cG lc0):=by
  unfold LsT Sw.Gr.join Sw.set;simp;rfl
 have e2:LsT c x g t=Emp:=by unfold LsT;rw [hz];rfl
 have:t=0∨t=1:=by omega
 rcases this with rfl|rfl
 · refine all2' ?_
   rw [e1,e0 1 (by decide)]
   have h1:=aB.monoL (fun _ h=>all2 h) h
   rw [e2] at h1
   exact aB.swap (aB.monoL (fun _ h=>fU (aB.swap h)) h1)
 · refine all2' ?_
   rw [e1,e0 0 (by decide)]
   have h1:=aB.monoL (fun _ h=>all2 h) h
   rw [e2] at h1
   exact aB.monoL (fun _ h=>fU h) h1
end
section
variable {i mb hb:Nat} {H B F T:aC} {q:Sw.Q}
theorem aU.frs (H B F T:aC):aU (Sep H (Sep (Sep B F) T)) (Sep H F):=aU.both (aU.refl _) fun S w h=>by
 obtain ⟨S1,h1,k1⟩:=aB.l h
 obtain ⟨S2,h2,k2⟩:=aB.r h1
 exact ⟨S2,h2,fun k hk=>k1 k (k2 k hk)⟩
theorem aud_look (a:AuH H c hb q) (hc:c.ok) (hs:c.shapes[0]? = some (false,rl)) (hi:i<c.frags) (hd:(q.t i).hd=true) (h1:q.m (i*8+1)=⟨0,1⟩) (hw:∀ k,rl[k]? = some true→(q.m (i*8+(2+k))).i=1∧(q.m (i*8+(2+k))).k≤63) (w:World):
 aN prog 24 #[.pointer (some ⟨hb,0,none⟩),.int .i64 (i:Int)] w H (fun (z:Option Addr×Nat) e=>e=.returned (.tuple #[.agg #[.int .i64 (i:Int),.int .i64 0,.int .i64 0,.slice z.1 1 z.2,.int .i64 (-1),.int .i64 0],.bool true])) (fun z=>Sep H (dU (.slice z.1 1 z.2) [i])):=by
 intro S h
 have g0:=(aA.begin h).moreSt (St.fresh #[.int .i64 0,.int .i64 0,.int .i64 0,.slice none 0 0,.int .i64 0,.int .i64 0] 93)
 obtain ⟨rb,hrb⟩:∃ k,w.heap.size=k:=⟨_,rfl⟩
 rw [hrb] at g0
 have HL:=zz fun w1 (gg:aA (Sep H (Var rb #[.int .i64 0,.int .i64 0,.int .i64 0,.slice none 0 0,.int .i64 0,.int .i64 0] 93)) S w w1)=>(aN.l (aud_looks a hc hs hi hd h1 hw w1)).on gg
 have G0:=zz g0
 clear h hc hs hi hd h1 hw a g0
 go_enter func24,ntmps24
 go_upto_region 1 with fail
 generalize w.alloc _=w1 at*
 have HLC:=zz (HL.out _ G0.out)
 clear HL G0 hrb
 go_wp2_with fail
 with_reducible refine HLC.out.mono ?_
 rintro e w2 ⟨⟨X,rv,fr,tv⟩,rfl,hg⟩
 dsimp only at hg
 obtain ⟨fa,fk,rfl⟩:=dJ hg.l.r.l.r.is
 have v0:=hg.l.r.l.l.l.l.vi 12 (i:Int)
 have v1:=hg.l.r.l.l.l.l.vi 13 0
 have v2:=hg.l.r.l.l.l.l.vi 14 0
 have v3:=hg.l.r.l.l.l.l.vC 15 (.slice fa 1 fk)
 have v4:=hg.l.r.l.l.l.l.vi 16 (-1)
 have v5:=hg.l.r.l.l.l.l.vi 17 0
 have f0:=hg.r.vf 0
 have f1:=hg.r.vf 1
 have f2:=hg.r.vf 2
 have f3:=hg.r.vf 3
 have f4:=hg.r.vf 4
 have f5:=hg.r.vf 5
 have r0:=hg.r.vi 0 0
 have r1:=hg.r.vi 1 0
 have r2:=hg.r.vi 2 0
 have r3:=hg.r.vC 3 (.slice none 0 0)
 have r4:=hg.r.vi 4 0
 have r5:=hg.r.vi 5 0
 have gz:=hg.then (aH (fun S h=>(aA.begin h).p6 (.int .i64 (i:Int)) (.int .i64 0) (.int .i64 0) (.slice fa 1 fk) (.int .i64 (-1)) (.int .i64 0)))
 have k0:=gz.r.vi 0 (i:Int)
 have k1:=gz.r.vi 1 0
 have k2:=gz.r.vi 2 0
 have k3:=gz.r.vC 3 (.slice fa 1 fk)
 have k4:=gz.r.vi 4 (-1)
 have k5:=gz.r.vi 5 0
 have HF:=zz (gz.l.drop (aU.frs _ _ _ _))
 clear HLC hg gz
 go_wp2_with fail
 (try rw [aI])
 exact bodyPost_ret (v:=.tuple #[.agg #[.int .i64 (i:Int),.int .i64 0,.int .i64 0,.slice fa 1 fk,.int .i64 (-1),.int .i64 0],.bool true]) (by simp [results,results24,go_sem,k0,k1,k2,k3,k4,k5]) rfl ⟨(fa,fk),rfl,HF.out⟩
theorem aud_takes (hj:j≤1024) (hn:n≤1024) (hf:f j=false) (w:World):aJ prog 27 #[.map (some mb),.int .i64 (j:Int)] w (MapS mb n f) (.bool true) (MapS mb (n+1) fun k=>if k=j then true else f k):=by
 intro S h
 have hl:=map_get underlying90 h hj
 rw [hf] at hl
 obtain ⟨w2,hr,hg⟩:=map_put underlying90 h hj hn
 have HG:=zz hg
 clear h hg hf
 go_enter func27,ntmps27
 go_wp2_with fail
 go_ret
 exact ⟨rfl,HG.out⟩
theorem aU.ll (A B C D:aC):aU (Sep (Sep (Sep A B) C) D) (Sep A D):=aU.both (fun S w h=>by
 obtain ⟨S1,h1,k1⟩:=aB.l h
 obtain ⟨S2,h2,k2⟩:=aB.l h1
 exact ⟨S2,h2,fun k hk=>k1 k (k2 k hk)⟩) (aU.refl _)
structure AuT (H:aC) (c:Cf) (hb:Nat) (ph st:Nat→Int) (lo:Nat→Nat→Lc):Prop where
 thr:∀ t,t<c.threads→∀ w,aN prog 12 #[.pointer (some ⟨hb,0,none⟩),.int .i64 (t:Int)] w H (fun (x:Nat×Nat) e=>e=.returned (.tuple #[.int .i64 (ph t),.int .i64 (st t),.slice (some ⟨x.1,0,none⟩) c.locals x.2])) (fun x=>Sep H (Vgs x.1 (c.locals*2) 39 (cG (lo t))))
def RfOk (R:Nat→Prop) (u:Sw.Wd):Prop:=u.k≤63∧u.i≤63∧(u.i=1→1≤u.k→R (u.k-1))
def cfA (c:Cf) (g cap:Nat):Array Value:=#[.int .i64 c.frags,.int .i64 c.spine,.int .i64 c.globals,.int .i64 c.threads,.int .i64 c.locals,.int .i64 0,.int .i64 c.stack,.int .i64 c.low,.slice (some ⟨g,0,none⟩) c.shapes.length cap]
def RtT (H:aC) (c:Cf) (g cap cb:Nat) (v:Value) (l:List Nat):aC:=Sep (Sep (Sep H (aZ c g cap)) (Var cb (cfA c g cap) 34)) (dU v l)
def RtR (R:Nat→Prop) (H:aC) (c:Cf) (g cap cb:Nat) (S:Nat→Prop) (w:World) (n:Nat) (v:Value) (wr:World):Prop:=∃ l:List Nat,l.length≤n∧(∀ x∈l,R x)∧aA (RtT H c g cap cb v l) S w wr
theorem aud_roots (a:AuH H c hb q) (b:AuT H c hb ph st lo) (hc:c.ok) (hl:∀ t,t<c.threads→ph t≠0→ph t≠4→∀ j,j<c.locals→(lo t j).k≤63∧(lo t j).i≤63∧((lo t j).ref=true→RfOk R (lo t j).w)) (hgl:∀ g,g<c.globals→RfOk R (q.m (c.gw g))) (w:World):
 aN prog 48 #[.pointer (some ⟨hb,0,none⟩)] w H (fun (z:Value×List Nat) e=>e=.returned z.1∧z.2.length≤200∧∀ x∈z.2,R x) (fun z=>Sep H (dU z.1 z.2)):=by
 intro S h
 have HC:=zz ((a.conf w).on (aA.begin h))
 have HT:=zz fun (B C D:aC) t (ht:t<c.threads) w1 (gg:aA (Sep (Sep (Sep H B) C) D) S w w1)=>(aN.lX (aN.lX (aN.lX (b.thr t ht w1)))).on gg
 have HP:=zz fun (B C D:aC) k (hk:k<c.words) w1 (gg:aA (Sep (Sep (Sep H B) C) D) S w w1)=>(((a.peek k hk w1).l).l).l.on gg
 have HAG:=zz fun (S:Nat→Prop) (w:World) (g cap:Nat) (k:Nat) (hk:k<c.globals) (h:(aZ c g cap).at_ S w)=>fW k hc h hk
 have HLO:=zz hl
 have HGL:=zz hgl
 have HK:=zz hc
 have HI:=zz fun (k i:Nat) w (hk:k≤63) (hi:i≤63)=>cW k i w hk hi
 unfold cfV at HC HAG
 clear h hl hgl hc a b
 go_enter func48,ntmps48
 go_wp2_with fail
 with_reducible refine HC.out.mono ?_
 rintro e w1 ⟨⟨g,cap⟩,rfl,hg⟩
 have g1:=hg.moreSt (St.fresh (cfA c g cap) 34)
 obtain ⟨cb,hcb⟩:∃ k,w1.heap.size=k:=⟨_,rfl⟩
 rw [hcb] at g1
 simp only [cfA] at g1
 have G1:=zz (kZ g1)
 clear HC hg g1
 dsimp only
 go_upto_region 3 with fail
 generalize w1.alloc _=w2 at*
 have c3:=G1.out.l.r.vi 3 c.threads
 go_wp2_with fail
 clear c3 hcb
 go_loopw [3,5,6,7,8,10,11,12,22] (fun l _ _ _ _ _ _ _ j wr=>∃ (t:Nat) (v:Value) (wx:World),wx=wr∧v=l∧t≤c.threads∧j=.int .i64 (t:Int)∧RtR R H c g cap cb S w (8*t) v wx) (fun _ _ _ _ _ _ _ _ j _=>c.threads-(intOf j).toNat)
 case atStart=>exact ⟨0,_,_,rfl,rfl,Nat.zero_le _,rfl,[],Nat.le_refl _,fun _ h=>absurd h (by simp),G1.out⟩
 case round=>
  clear G1
  obtain ⟨t,v,wr,rfl,rfl,ht,rfl,l,hl,hR,hg⟩:=hrel
  have ht16:(c.threads:Int)≤16:=by have:=HK.out.threads;omega
  by_cases hlt:t<c.threads
  · have hlt2:(t:Int)<(c.threads:Int):=by omega
    have HTC:=zz (HT.out _ _ _ t hlt _ hg)
    have HR:=zz (And.intro hl hR)
    have HG:=zz hg
    have HLT:=zz hlt
    clear hg hl hR hlt ht
    rcases (show ph t=0∨ph t=4∨(ph t≠0∧ph t≠4) by omega) with e|e|⟨e0,e4⟩
    any_goals
     rw [e] at HTC
     clear e
     go_wp2_with fail
     with_reducible refine HTC.out.mono ?_
     rintro e w3 ⟨x,rfl,hg⟩
     have HG2:=zz hg.l
     clear HTC hg HG
     go_wp2_with fail
     go_round
     case rel=>exact ⟨t+1,v,_,rfl,rfl,HLT.out,by go_num,l,by have:=HR.out.1;omega,HR.out.2,HG2.out⟩
     case measure=>have:=HLT.out;simp [intOf];omega
    have HL1:=zz (HLO.out t HLT.out e0 e4)
    generalize ph t=pt at*
    have b0:(pt==0)=false:=by simpa using e0
    have b4:(pt==4)=false:=by simpa using e4
    go_wp2_with fail
    with_reducible refine HTC.out.mono ?_
    rintro e w3 ⟨⟨vg,vc⟩,rfl,hg⟩
    have HG2:=zz hg
    clear HTC hg HG
    dsimp only at HG2 ⊢
    go_wp2_with fail
    clear e0 e4 b0 b4
    go_loopw [3,10,11,12,40] (fun l _ _ _ k wr=>∃ (kk:Nat) (v:Value) (l':List Nat) (wx:World),wx=wr∧v=l∧kk≤c.locals∧k=.int .i64 (kk:Int)∧l'.length≤8*t+kk∧(∀ x∈l',R x)∧aA (Sep (RtT H c g cap cb v l') (Vgs vg (c.locals*2) 39 (cG (lo t)))) S w wx) (fun _ _ _ _ k _=>c.locals-(intOf k).toNat)
    case atStart=>exact ⟨0,_,l,_,rfl,rfl,Nat.zero_le _,rfl,HR.out.1,HR.out.2,HG2.out⟩
    case round=>
     clear HG2 HR
     obtain ⟨kk,v,l',wr,rfl,rfl,hk,rfl,hl,hR,hg⟩:=hrel
     have hc8:(c.locals:Int)≤8:=by have:=HK.out.locals;omega
     by_cases hkl:kk<c.locals
     · have hkl2:(kk:Int)<(c.locals:Int):=by omega
       obtain ⟨h6,h7,h8⟩:=HL1.out kk hkl
       have e0:=eS (j:=kk*2) hg.r.is (by omega)
       have e1:=eS (j:=kk*2+1) hg.r.is (by omega)
       rw [locM0] at e0
       rw [locM1] at e1
       have H8:=zz h8
       have HIX:=zz fun w=>HI.out (lo t kk).k (lo t kk).i w h6 h7
       have HR:=zz (And.intro hl hR)
       have HKL:=zz hkl
       obtain ⟨va,vk,rfl⟩:=dJ (hg.l).r.is
       clear h6 h7 h8 hkl hl hR hk
       have hw:(lo t kk).w=⟨(lo t kk).k,(lo t kk).i⟩:=rfl
       rw [hw] at H8
       clear hw
       generalize (lo t kk).ref=rf at*
       generalize (lo t kk).k=x at*
       generalize (lo t kk).i=y at*
       have HG:=zz (hg.moreSt (St.fresh #[.bool rf,cx x y] 39))
       clear hg
       unfold cx at*
       go_upto_region 11 with fail
       clear e0 e1
       generalize wr.heap.size=ob at*
       generalize wr.alloc _=w4 at*
       have e0:=HG.out.r.vb 0 rf
       have e1:=HG.out.r.vC 1 (.complex .f64 (fl x) (fl y))
       go_wp2_with fail
       refine qq (HIX.out _) ?_
       clear HIX e1
       cases hrf:(rf&&ixB x y) with
       | true=>
        have hb:rf=true∧ixB x y=true:=by simpa using hrf
        obtain ⟨rfl,hb⟩:=hb
        rw [hb]
        have hxy:y=1∧1≤x:=by unfold ixB at hb;simp at hb;exact ⟨hb.2,hb.1⟩
        obtain ⟨d,rfl⟩:∃ d,x=d+1:=⟨x-1,by omega⟩
        have ei:ixI (d+1) y=d:=by unfold ixI;rw [if_pos hb];rfl
        rw [ei]
        have HX:=zz ((H8.out rfl).2.2 hxy.1 hxy.2)
        have HG3:=zz (HG.out.l.conv fun _ _ h=>aB.rot h)
        clear hb hrf hxy ei HG
        go_wp2_with (at_builtin;refine lK (j:=d) rfl _ _ rfl HG3.out rfl rfl (by have:=HR.out.1;omega) ?_)
        intro na nc w5 g5
        have HG4:=zz (g5.conv fun _ _ h=>aB.rot h)
        clear g5 HG3
        go_wp2_with fail
        go_round
        case rel=>exact ⟨kk+1,_,l'++[d],_,rfl,rfl,HKL.out,by go_num,by have:=HR.out.1;simp;omega,fun z hz=>by
         rcases List.mem_append.1 hz with h|h
         · exact HR.out.2 z h
         · simp at h;subst h;exact HX.out,HG4.out⟩
        case measure=>have:=HKL.out;simp [intOf];omega
       | false=>
        cases rf with
        | true=>
         have hb:ixB x y=false:=by simpa using hrf
         rw [hb]
         clear hb hrf
         go_wp2_with fail
         go_round
         case rel=>exact ⟨kk+1,_,l',_,rfl,rfl,HKL.out,by go_num,by have:=HR.out.1;omega,HR.out.2,HG.out.l⟩
         case measure=>have:=HKL.out;simp [intOf];omega
        | false=>
         clear hrf
         go_wp2_with fail
         go_round
         case rel=>exact ⟨kk+1,_,l',_,rfl,rfl,HKL.out,by go_num,by have:=HR.out.1;omega,HR.out.2,HG.out.l⟩
         case measure=>have:=HKL.out;simp [intOf];omega
     · obtain rfl:kk=c.locals:=by omega
       have HG:=zz hg.l
       have HR:=zz (And.intro hl hR)
       clear hg hl hR hk hkl
       go_wp2_with fail
       go_round
       case rel=>exact ⟨t+1,v,_,rfl,rfl,HLT.out,by go_num,l',by have:=HR.out.1;omega,HR.out.2,HG.out⟩
       case measure=>have:=HLT.out;simp [intOf];omega
  · obtain rfl:t=c.threads:=by omega
    have c2:=hg.l.r.vi 2 c.globals
    have HG:=zz hg
    have HR:=zz (And.intro hl hR)
    clear hg hl hR ht hlt
    go_wp2_with fail
    clear c2
    go_loopw [3,13,14,15,16,17,63] (fun l _ _ _ _ _ k wr=>∃ (kk:Nat) (v:Value) (l':List Nat) (wx:World),wx=wr∧v=l∧kk≤c.globals∧k=.int .i64 (kk:Int)∧l'.length≤128+kk∧(∀ x∈l',R x)∧aA (RtT H c g cap cb v l') S w wx) (fun _ _ _ _ _ _ k _=>c.globals-(intOf k).toNat)
    case atStart=>exact ⟨0,_,l,_,rfl,rfl,Nat.zero_le _,rfl,by have:=HR.out.1;have:=HK.out.threads;omega,HR.out.2,HG.out⟩
    case round=>
     clear HG HR
     obtain ⟨kk,v,l',wr,rfl,rfl,hk,rfl,hl,hR,hg⟩:=hrel
     have hc8:(c.globals:Int)≤8:=by have:=HK.out.globals;omega
     by_cases hkl:kk<c.globals
     · have hkl2:(kk:Int)<(c.globals:Int):=by omega
       have gv:=hg.l.r
       have k0:=gv.vi 0 c.frags
       have k1:=gv.vi 1 c.spine
       have k2:=gv.vi 2 c.globals
       have k3:=gv.vi 3 c.threads
       have k4:=gv.vi 4 c.locals
       have k5:=gv.vi 5 0
       have k6:=gv.vi 6 c.stack
       have k7:=gv.vi 7 c.low
       have k8:=gv.vC 8 (.slice (some ⟨g,0,none⟩) c.shapes.length cap)
       have HAC:=zz (HAG.out _ _ _ _ kk hkl hg.l.l.r.is)
       have HG:=zz hg
       have HKL:=zz hkl
       have HR:=zz (And.intro hl hR)
       obtain ⟨va,vk,rfl⟩:=dJ hg.r.is
       clear hg gv hl hR hk hkl
       go_wp2_with fail
       refine qz HAC.out fun w4 hb=>?_
       have g4:=HG.out.below_ hb
       have HPC:=zz (HP.out _ _ _ (c.gw kk) (by have:=HKL.out;unfold Cf.gw Cf.words;omega) _ g4)
       rw [show ((c.gw kk:Nat):Int)=(kk:Int)+(c.frags:Int)*8+c.spine+c.spine by unfold Cf.gw;push_cast;omega] at HPC
       have H8:=zz (HGL.out kk HKL.out)
       generalize (q.m (c.gw kk))=u at*
       obtain ⟨x,y⟩:=u
       have HIX:=zz fun w=>HI.out x y w H8.out.1 H8.out.2.1
       clear hb g4 HG HAC k0 k1 k2 k3 k4 k5 k6 k7 k8
       dsimp only at HPC
       unfold cx at*
       go_wp2_with fail
       refine qz HPC.out fun w5 hg=>?_
       have HG:=zz hg
       clear HPC hg
       go_wp2_with fail
       refine qq (HIX.out _) ?_
       clear HIX
       cases hb:ixB x y with
       | true=>
        have hxy:y=1∧1≤x:=by unfold ixB at hb;simp at hb;exact ⟨hb.2,hb.1⟩
        obtain ⟨d,rfl⟩:∃ d,x=d+1:=⟨x-1,by omega⟩
        have ei:ixI (d+1) y=d:=by unfold ixI;rw [if_pos hb];rfl
        rw [ei]
        have HX:=zz (H8.out.2.2 hxy.1 hxy.2)
        clear hb hxy ei
        go_wp2_with (at_builtin;refine lK (j:=d) rfl _ _ rfl HG.out rfl rfl (by have:=HR.out.1;omega) ?_)
        intro na nc w5 g5
        have HG4:=zz g5
        clear g5 HG
        go_wp2_with fail
        go_round
        case rel=>exact ⟨kk+1,_,l'++[d],_,rfl,rfl,HKL.out,by go_num,by have:=HR.out.1;simp;omega,fun z hz=>by
         rcases List.mem_append.1 hz with h|h
         · exact HR.out.2 z h
         · simp at h;subst h;exact HX.out,HG4.out⟩
        case measure=>have:=HKL.out;simp [intOf];omega
       | false=>
        clear hb
        go_wp2_with fail
        go_round
        case rel=>exact ⟨kk+1,_,l',_,rfl,rfl,HKL.out,by go_num,by have:=HR.out.1;omega,HR.out.2,HG.out⟩
        case measure=>have:=HKL.out;simp [intOf];omega
     · obtain rfl:kk=c.globals:=by omega
       have HG:=zz (hg.drop (aU.ll _ _ _ _))
       have HR:=zz (And.intro hl hR)
       clear hg hl hR hk hkl
       go_wp2_with fail
       go_ret
       exact ⟨(v,l'),⟨rfl,by have:=HR.out.1;have:=HK.out.globals;show l'.length≤200;omega,HR.out.2⟩,HG.out⟩
end
end
section
open Go.Proofs.Tryz
open Go.RowKit
variable {l:List Nat} {S:Nat→Prop} {v:Value} {w:World}
def srtR:Go.Shelf.Ren:=⟨fun|189=>50|125=>104|257=>103|128=>185|129=>186|294=>176|295=>177|296=>178|297=>179|298=>180|299=>181|216=>182|300=>183|301=>184|328=>246|329=>247|330=>248|331=>249|332=>250|215=>251|343=>298|n=>n,
 fun|28=>22|46=>114|51=>251|53=>76|183=>245|182=>244|131=>67|218=>298|222=>302|228=>339|229=>320|n=>n,fun n=>n⟩
theorem srtL:Lays.n189 prog srtR:=by constructor<;>(intros;kernel_rfl)
theorem ins_sort_nil (w:World):Calls prog 176 #[.slice none 0 0,.int .i64 0,.int .i64 0] w fun e w'=>e=.returned (.tuple #[])∧w=w':=by
 go_enter func176,ntmps176
 go_wp2_with fail
 go_loop [6,7] (fun i _=>i=.int .i64 1) (fun _ _=>0)
 case atStart=>exact rfl
 case round=>
  obtain rfl:=hrel
  go_wp2_with fail
  go_returns
  exact ⟨rfl,rfl⟩
theorem pdq_nil (k:Int) (w:World):Calls prog 103 #[.slice none 0 0,.int .i64 0,.int .i64 0,.int .i64 k] w fun e w'=>e=.returned (.tuple #[])∧w=w':=by
 go_enter func103,ntmps103
 go_wp2_with fail
 go_loop [1,2,3,8,9,10,11,12,13,14,15,16,17,18] (fun a b _ _ _ _ _ _ _ _ _ _ _ _=>a=.int .i64 0∧b=.int .i64 0) (fun _ _ _ _ _ _ _ _ _ _ _ _ _ _=>0)
 case atStart=>exact ⟨rfl,rfl⟩
 case round=>
  obtain ⟨rfl,rfl⟩:=hrel
  go_wp2_with fail
  refine qq (ins_sort_nil _) ?_
  go_wp2_with fail
  go_returns
  exact ⟨rfl,rfl⟩
theorem bits_len64_0 (w:World):Calls prog 186 #[.int .u64 0] w fun e w'=>∃ k:Int,e=.returned (.int .i64 k)∧w=w':=by
 go_enter func186,ntmps186
 go_wp2_with fail
 go_ret
 exact ⟨_,rfl,rfl⟩
theorem bits_len_0 (w:World):Calls prog 104 #[.int .u64 0] w fun e w'=>∃ k:Int,e=.returned (.int .i64 k)∧w=w':=by
 go_enter func104,ntmps104
 go_wp2_with fail
 with_reducible refine (bits_len64_0 _).mono ?_
 rintro e w2 ⟨k,rfl,rfl⟩
 go_wp2_with fail
 go_ret
 exact ⟨_,rfl,rfl⟩
theorem sort_nil (w:World):Calls prog 50 #[.slice none 0 0] w fun e w'=>e=.returned (.tuple #[])∧w=w':=by
 go_enter func50,ntmps50
 go_wp2_with fail
 with_reducible refine (bits_len_0 _).mono ?_
 rintro e w2 ⟨k,rfl,rfl⟩
 go_wp2_with fail
 refine qq (pdq_nil k _) ?_
 go_wp2_with fail
 go_returns
 exact ⟨rfl,rfl⟩
theorem sort_num (hl:l.length≤2000) (h:(dU v l).at_ S w):Calls prog 50 #[v] w fun e w'=>∃ l',e=.returned (.tuple #[])∧l'.Perm l∧aA (dU v l') S w w':=by
 obtain ⟨⟨h0,h1⟩,h2⟩:=h
 rcases h1 with ⟨rfl,e⟩|⟨g,cap,cur,rfl,hb,h4,h5,h6,h7,h8⟩
 · obtain rfl:l=[]:=List.length_eq_zero_iff.1 e
   exact (sort_nil w).mono fun e w' ⟨h,hw⟩=>⟨[],h,.refl _,hw▸aA.same ⟨⟨h0,.inl ⟨rfl,rfl⟩⟩,h2⟩⟩
 · have e1:l.map (fun j:Nat=>Value.int .i64 (j:Int))=(l.map fun j:Nat=>(j:Int)).map (Value.int .i64):=by simp
   have hlen:(l.map fun j:Nat=>(j:Int)).length=l.length:=by simp
   rw [e1,Nat.mul_one,←hlen] at h8
   have hsp:=List.mergeSort_perm (l.map fun j:Nat=>(j:Int)) fun x y=>decide (x≤y)
   have hgl:g<w.heap.size:=(Array.getElem?_eq_some_iff.1 h4).1
   have:=Any.slices_Sort_int srtL g 0 cap (l.map fun j:Nat=>(j:Int)) w (holds_of_blockI h4 h8) hgl (by rw [hlen];omega)
   rw [hlen] at this
   refine this.mono fun e w' ⟨he,n,os,hw⟩=>⟨((l.map fun j:Nat=>(j:Int)).mergeSort fun x y=>decide (x≤y)).map Int.toNat,he,?_,?_⟩
   · have:=hsp.map Int.toNat
     rw [List.map_map,show (Int.toNat∘fun j:Nat=>(j:Int))=id from funext fun j=>by simp,List.map_id] at this
     exact this
   · have e2:(((l.map fun j:Nat=>(j:Int)).mergeSort fun x y=>decide (x≤y)).map Int.toNat).map (fun j:Nat=>Value.int .i64 (j:Int))=((l.map fun j:Nat=>(j:Int)).mergeSort fun x y=>decide (x≤y)).map (Value.int .i64):=by
      rw [List.map_map]
      refine List.map_congr_left fun x hx=>?_
      have:=hsp.mem_iff.1 hx
      simp at this
      obtain ⟨y,_,rfl⟩:=this
      simp
     have e3:((l.map fun j:Nat=>(j:Int)).mergeSort fun x y=>decide (x≤y)).length=(l.map fun j:Nat=>(j:Int)).length:=hsp.length_eq
     have ho:=ownsRow_sortedI (w:=w) (base:=0) (g:=g) (cap:=cap) (n:=n) (e:=3) (os:=os) (cur:=cur) (ss:=l.map fun j:Nat=>(j:Int)) (ts:=(l.map fun j:Nat=>(j:Int)).mergeSort fun x y=>decide (x≤y)) e3 (Nat.zero_le _) h4 (by rw [hlen];exact h5) h6 h7
     rw [←hw,hlen] at ho
     have hg:w.grownBy w' (some g):=by rw [hw];exact grownBy_sortedI _
     unfold dU
     rw [List.length_map,e3,hlen,e2]
     exact ⟨⟨S,⟨ho,h2⟩,fun k hk=>.inl hk⟩,aY.grown (aY.refl S w) hg fun k hk=>.inl ((h2 k).2 hk)⟩
end
end Go.Proofs.YtgcmiahhkalfmaaGreat
