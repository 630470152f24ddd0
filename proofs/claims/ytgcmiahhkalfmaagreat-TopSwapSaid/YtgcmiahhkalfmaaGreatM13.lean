import Derived.Test.YtgcmiahhkalfmaaGreatM12
set_option maxRecDepth 100000
set_option maxHeartbeats 8000000
set_option linter.unusedVariables false
set_option linter.unusedSimpArgs false
namespace Go.Proofs.YtgcmiahhkalfmaaGreat
attribute [local go_sem] aF
open Go.Proofs.Tryz
open Go.RowKit
variable {args:Array Value} {s:Bool} {c:Cf} {fi:FuncId} {k:Int} {l:List Bool} {ws:List Int} {a b bm bs bt cap g gm i k0 k1 md n n0 n1 t:Nat} {f fr':Nat→Bool} {S U:Nat→Prop} {m:Nat→Value} {x0 x1:Option Addr} {ln':Option Sw.Rq} {P:Program} {x:SpX} {q:Sw.Q} {r:Sw.Rq} {A B C X:aC} {v:Value} {w w':World}
theorem gS {f:Nat→Bool}:∀ {n i:Nat},Sw.topF f n=some i→i<n∧f i=true∧∀ j,i<j→j<n→f j=false
 | 0,i,h=>by simp [Sw.topF] at h
 | n+1,i,h=>by
  unfold Sw.topF at h
  split at h
  · simp at h;subst h;rename_i e;exact ⟨by omega,e,fun j h1 h2=>by omega⟩
  · rename_i e
    obtain ⟨h1,h2,h3⟩:=gS h
    refine ⟨by omega,h2,fun j h4 h5=>?_⟩
    by_cases ej:j=n
    · subst ej;simpa using e
    · exact h3 j h4 (by omega)
theorem topF_none {f:Nat→Bool}:∀ {n:Nat},Sw.topF f n=none→cF n f=0
 | 0,h=>rfl
 | n+1,h=>by
  unfold Sw.topF at h
  split at h
  · simp at h
  · rename_i e;simp [cF,topF_none h,e]
theorem top_pcnt (h:Sw.topF f n=some i):1≤cF n f:=by
 obtain ⟨h1,h2,_⟩:=gS h
 have:=pcnt_off h1 h2
 omega
theorem best_top (h:Sw.topF f n=some i):iZ n f 1 (some i):=by
 obtain ⟨h1,h2,h3⟩:=gS h
 refine ⟨by omega,by simp;omega,fun j hj=>?_,fun b hb hn hr=>?_⟩
 · have:j=0:=by simp at hj;exact hj
   subst this;exact h2
 · have:=hr 0 (by simp)
   rw [Nat.add_zero,h3 b hb (by simp at hn;omega)] at this;cases this
theorem aA.nilRow (h:aA A S w w'):aA (Sep A (RowT (.slice none 0 0) [])) S w w':=
 h.conv fun S w h=>⟨S,fun _=>False,h,row_nil w,fun _ _ h=>h,fun _ h=>h,fun _ h=>h.elim,fun _ h=>.inl h⟩
section
variable {k:Nat} {z:Sl}
theorem pool_take1 (hn:n≤1024) (ht:Sw.topF f n=some a) (h:(dP b g n f).at_ S w):
 Calls prog 262 #[.pointer (some ⟨b,0,none⟩),.int .i64 1] w fun e w'=>∃ z:Sl,e=.returned (.tuple #[.slice z.1 z.2.1 z.2.2,.bool true])∧aA (Sep (dP b g n (Sw.set f a false)) (Got (slV z) a)) S w w':=by
 obtain ⟨i0,hi,hz0,hz1,hz2⟩:=info_parts Tryz.info3
 obtain ⟨c0,c1,-⟩:=eM h
 have C1:=zz (pool_run 1 hn h)
 have hb:=best_top ht
 obtain ⟨han,hfa,-⟩:=gS ht
 have hp:=top_pcnt ht
 rw [hb.some.1,hb.some.2] at C1
 have h1:=zz (aA.begin h).nilRow
 generalize cF n f=pn at*
 have HH:=zz (And.intro han hfa)
 clear h hb ht hfa
 go_enter func262,ntmps262
 go_wp2_with fail
 refine qq C1.out ?_
 clear C1 c0 c1
 go_wp2_with fail
 go_loopw [8,9] (fun u i w'=>∃ (m:Nat) (v:Value),m≤1∧u=v∧i=.int .i64 ((a:Int)+m)∧aA (Sep (dP b g n (rnF f a m)) (RowT v (rnL a m))) S w w') (fun _ i _=>a+1-(intOf i).toNat)
 case atStart=>exact ⟨0,_,Nat.zero_le _,rfl,by simp,h1.out⟩
 case round=>
  clear h1
  obtain ⟨m,v,hm,rfl,rfl,hs⟩:=hrel
  have hrow:=hs.r.is.1
  obtain ⟨av,cp,rfl,hc1,hc2⟩:=bK hrow
  by_cases hlt:m<1
  · obtain rfl:m=0:=by omega
    have C1:=zz (hs.call (bR fun S h=>pool_takes a hn HH.out.1 HH.out.2 h))
    clear hs hrow
    simp only [rnL,rnF,List.length_nil] at*
    have ha2:(a:Int)+0=a:=by omega
    simp only [Int.natCast_zero,Int.add_zero] at*
    go_wp2_with fail
    refine qz C1.out fun w1 h7=>?_
    clear C1
    have HO:=zz h7.r.is.1
    go_wp2_with (at_builtin;refine wpList_push rfl _ _ 22 rfl 3 i0 (.int .i64 0) 8 underlying22 hi hz0 hz1 hz2 rfl _ _ _ rfl (HO.out.alloc _) ⟨w1.heap.size,0,none⟩ (.int .i64 (a:Int)) rfl ?c1 rfl (by simp) (by decide) ?_)
    case c1=>exact World.cell?_alloc_new _ _ _ 0
    intro v' w2 ho hg hbk
    have h8:=zz (h7.then (w2:=w2) (aH fun S h=>row_push h ho hg (by simpa using hbk)))
    clear h7 HO ho hg hbk
    go_wp2_with fail
    go_round
    case rel=>exact ⟨1,v',by omega,rfl,by go_num,h8.out⟩
    case measure=>simp [intOf]
  · obtain rfl:m=1:=by omega
    simp only [rnL,List.length_cons,List.length_nil,List.nil_append] at hrow
    go_wp2_with fail
    go_ret2
    exact ⟨(_,_,_),rfl,hs.then fun S h=>aA.same (aB.monoR (fun S h=>cX (e:=3) (n:=1) h (by decide)) h)⟩
theorem pool_low0 (hn:n≤1024) (hn1:1≤n) (h:(dP b g n f).at_ S w):
 Calls prog 311 #[.pointer (some ⟨b,0,none⟩),.int .i64 0] w fun e w'=>e=.returned (.slice none 0 0)∧w=w':=by
 obtain ⟨c0,c1,-⟩:=eM h
 clear h
 go_enter func311,ntmps311
 go_wp2_with fail
 go_loop [5,6] (fun u i=>u=.slice none 0 0∧i=.int .i64 0) (fun _ _=>0)
 case atStart=>exact ⟨rfl,rfl⟩
 case round=>
  obtain ⟨rfl,rfl⟩:=hrel
  go_wp2_with fail
  go_ret
  exact ⟨rfl,rfl⟩
theorem sh_fits (hn:n≤1024) (w:World):aJ prog 208 #[shV c x,.int .i64 1,.int .i64 0] w (dP x.p g n f) (.bool (Sw.topF f n).isSome) (dP x.p g n f):=by
 intro S h
 have hb:=(Below.refl w.heap.size w).alloc (Nat.le_refl _) (.cells (cE c x) 196)
 have D0:=Blk.new w (cE c x) 196
 have c9:=D0.cell 9
 have HG:=zz (aA.later h hb)
 have HL:=zz (pool_free (keep h hb))
 have HR:=zz (pool_run 1 hn (keep h hb))
 clear hb D0
 unfold shV
 simp only [cE] at*
 simp at c9
 clear h
 cases ht:Sw.topF f n with
 | some i=>
  have hbf:=best_top ht
  have hp:=top_pcnt ht
  rw [hbf.some.1,hbf.some.2] at HR
  clear hbf ht
  generalize cF n f=pn at*
  go_enter func208,ntmps208
  go_wp2_with fail
  refine qq HL.out ?_
  clear HL
  go_wp2_with fail
  refine qq HR.out ?_
  clear HR
  go_wp2_with fail
  go_ret
  exact ⟨rfl,HG.out⟩
 | none=>
  rw [topF_none ht] at HL
  clear HR ht
  go_enter func208,ntmps208
  go_wp2_with fail
  refine qq HL.out ?_
  clear HL
  go_wp2_with fail
  go_ret
  exact ⟨rfl,HG.out⟩
theorem sh_takes (hn:n≤1024) (ht:Sw.topF f n=some a) (w:World):aN prog 209 #[shV c x,.int .i64 1,.int .i64 0] w (dP x.p g n f) (fun (z:Sl) e=>e=.returned (.tuple #[.slice z.1 z.2.1 z.2.2,.int .i64 (-1)])) (fun z=>Sep (dP x.p g n (Sw.set f a false)) (Got (slV z) a)):=by
 intro S h
 have hb:=(Below.refl w.heap.size w).alloc (Nat.le_refl _) (.cells (cE c x) 196)
 have D0:=Blk.new w (cE c x) 196
 have c9:=D0.cell 9
 have HL:=zz ((aA.later h hb).callx (R:=fun (z:Sl) e=>e=.returned (.tuple #[.slice z.1 z.2.1 z.2.2,.bool true])) (O':=fun z=>Sep (dP x.p g n (Sw.set f a false)) (Got (slV z) a)) fun S h=>pool_take1 hn ht h)
 clear hb D0 ht
 unfold shV
 simp only [cE] at*
 simp at c9
 clear h
 go_enter func209,ntmps209
 go_wp2_with fail
 with_reducible refine HL.out.mono ?_
 rintro e w2 ⟨z,rfl,hg⟩
 have HG:=zz hg
 clear HL hg c9
 go_wp2_with fail
 go_ret2
 exact ⟨z,rfl,HG.out⟩
theorem sp_set_nil (st:Int) (s:Bool) (w:World):Calls prog 210 #[.pointer (some ⟨b,0,none⟩),.slice none 0 0,.int .i64 st,.bool s] w fun e w'=>e=.returned (.tuple #[])∧w=w':=by
 go_enter func210,ntmps210
 go_wp2_with fail
 go_loop [9,12] (fun _ i=>i=.int .i64 0) (fun _ _=>0)
 case atStart=>exact rfl
 case round=>
  obtain rfl:=hrel
  go_wp2_with fail
  go_end0
  exact ⟨rfl,rfl⟩
theorem tq_set2 (hk:k<c.frags) (w:World):aJ prog 256 #[.pointer (some ⟨bt,0,none⟩),.int .i64 (k:Int),.int .i64 2,.bool false,.bool s] w (ShQ bs bt c q) (.bool true) (ShQ bs bt c {q with t:=Sw.set q.t k ⟨2,false,s⟩}):=tq_set (st:=2) hk (by decide) w
theorem sp_set_one (hk:k<c.frags) (w:World):aJ prog 210 #[.pointer (some ⟨b,0,none⟩),.slice z.1 z.2.1 z.2.2,.int .i64 2,.bool s] w (Sep (cV bs b bt c q x) (Got (slV z) k)) (.tuple #[]) (Sep (cV bs b bt c {q with t:=Sw.set q.t k ⟨2,false,s⟩} x) (Got (slV z) k)):=by
 intro S h
 have g0:=zz (aA.begin h)
 obtain ⟨gs,o,cp,hv,h1,h2⟩:=bN g0.out.r.is
 obtain ⟨za,zn,zc⟩:=z
 simp only [slV,Value.slice.injEq] at hv g0 ⊢
 obtain ⟨rfl,rfl,rfl⟩:=hv
 have HK:=zz hk
 clear h hk
 go_enter func210,ntmps210
 go_wp2_with fail
 go_loopw [9,12] (fun _ i wr=>∃ j:Nat,j≤1∧i=.int .i64 j∧aA (Sep (cV bs b bt c {q with t:=if j=0 then q.t else Sw.set q.t k ⟨2,false,s⟩} x) (Got (.slice (some ⟨gs,o,none⟩) 1 zc) k)) S w wr) (fun _ i _=>1-(intOf i).toNat)
 case atStart=>exact ⟨0,Nat.zero_le _,rfl,g0.out⟩
 case round=>
  clear g0
  obtain ⟨j,hq,rfl,hs⟩:=hrel
  by_cases hlt:j<1
  · obtain rfl:j=0:=by omega
    have c0:=hs.l.r.cp 0 bt
    have ck:=hs.r.seq (i:=0) (x:=.int .i64 (k:Int)) rfl
    have HL:=zz ((two_l (b:=b) (x:=x) (tq_set2 (bs:=bs) (bt:=bt) (q:=q) (s:=s) HK.out _) rfl rfl).l.on hs)
    clear hs
    simp only [Int.natCast_zero,Nat.add_zero] at*
    go_wp2_with fail
    refine qz HL.out fun w2 hg=>?_
    have HG:=zz hg
    clear HL hg c0 ck
    go_wp2_with fail
    go_round
    case rel=>exact ⟨1,by omega,by go_num,HG.out⟩
    case measure=>simp [intOf]
  · obtain rfl:j=1:=by omega
    have HG:=zz hs
    clear hs
    go_wp2_with fail
    go_end0
    exact ⟨rfl,HG.out⟩
theorem sp_none (st:Int) (w:World):aJ prog 239 #[.int .i64 st] w A (.agg #[.int .i64 st,.slice none 0 0,.int .i64 (-1)]) A:=by
 intro S h
 have HG:=zz ((aA.begin h).alloc_ (.cells #[.int .i64 st,.slice none 0 0,.int .i64 (-1)] 233))
 have D:=Blk.new w #[.int .i64 st,.slice none 0 0,.int .i64 (-1)] 233
 have r0:=D.cell 0
 have r1:=D.cell 1
 have r2:=D.cell 2
 simp at r0 r1 r2
 clear h D
 go_enter func239,ntmps239
 go_wp2_with fail
 exact bodyPost_ret (v:=.agg #[.int .i64 st,.slice none 0 0,.int .i64 (-1)]) (by simp [results,results239,go_sem,r0,r1,r2]) rfl ⟨rfl,HG.out⟩
end
section
variable {k:Nat} {z:Sl}
theorem sp_serve0 (hl:lnW q.ln=false) (w:World):aJ prog 144 #[.pointer (some ⟨b,0,none⟩),.bool s] w (Two bs b bt c q) (.bool false) (Two bs b bt c q):=by
 intro S h
 obtain ⟨x,h⟩:=dY h
 have g0:=aA.begin h
 have c3:=g0.r.ci 3 x.ct
 have f3:=g0.r.fr 3
 have g1:=dX g0
 have d15:=g1.r.cp 15 x.w
 have HL:=zz ((lq_FirstN (b:=x.w) hl _).l.r.r.r.r.r.on g1)
 clear g0 g1 h hl
 go_enter func144,ntmps144
 go_wp2_with fail
 refine qz HL.out fun w2 hg=>?_
 have HF:=zz (hg.alloc_ (.cells aS 272))
 unfold dC
 simp only [aS] at*
 clear HL hg c3 d15
 go_wp2_with fail
 go_ret
 exact ⟨rfl,eT HF.out⟩
theorem aB.rot (h:(Sep (Sep A B) C).at_ U w):(Sep (Sep A C) B).at_ U w:=aB.assoc' (aB.monoR (fun _ h=>aB.swap h) (aB.assoc h))
theorem twox_ex (h:aA (cV bs b bt c q x) S w w'):∃ x1,aA (cV bs b bt c q x1) S w (w'.setCell ⟨b,3,none⟩ (.int .i64 (wrap64 (x.ct+1)))):=⟨_,dX h⟩
theorem tw_ln (h:aJ P fi args w (LnQ x.w q.ln) v (LnQ x.w ln')):aJ P fi args w (cV bs b bt c q x) v (cV bs b bt c {q with ln:=ln'} x):=h.l.r.r.r.r.r
theorem tw_plR (h:aJ P fi args w (dP x.p x.pg c.frags q.fr) v (dP x.p x.pg c.frags q.fr)):aJ P fi args w (cV bs b bt c q x) v (cV bs b bt c q x):=h.l.r.r.r
theorem tw_first (hl:q.ln=some r) (h0:r.st=0) (w:World):aJ prog 207 #[.pointer (some ⟨x.w,0,none⟩)] w (cV bs b bt c q x) (.tuple #[rqV r (.slice none 0 0),.bool true]) (cV bs b bt c q x):=by
 obtain ⟨m,t,pl,lo,fr,ln,st,sn,own⟩:=q
 simp only at hl
 subst hl
 exact tw_ln (q:=⟨m,t,pl,lo,fr,some r,st,sn,own⟩) (lq_First h0 w)
theorem tw_takes (hn:c.frags≤1024) (ht:Sw.topF q.fr c.frags=some a) (w:World):aN prog 209 #[shV c x,.int .i64 1,.int .i64 0] w (cV bs b bt c q x) (fun (z:Sl) e=>e=.returned (.tuple #[.slice z.1 z.2.1 z.2.2,.int .i64 (-1)])) (fun z=>Sep (cV bs b bt c {q with fr:=Sw.set q.fr a false} x) (Got (slV z) a)):=
 (sh_takes hn ht w).lX.rX.rX.rX
theorem tw_grant (hl:q.ln=some r) (h0:r.st=0) (w:World):aJ prog 211 #[.pointer (some ⟨x.w,0,none⟩),.slice z.1 z.2.1 z.2.2,.int .i64 (-1)] w (Sep (cV bs b bt c q x) (Got (slV z) a)) (.bool true) (cV bs b bt c {q with ln:=some {r with st:=1,got:=a}} x):=by
 obtain ⟨m,t,pl,lo,fr,ln,st,sn,own⟩:=q
 simp only at hl
 subst hl
 have h:=((lq_grant (b:=x.w) (i:=a) (z:=z) h0 w).l (B:=Stks x c.threads)).r (B:=fZ x.k (c.spine:Int) ⟨x.cur,0,0,0⟩)
 have h:=(((h.r (B:=dP x.p x.pg c.frags fr)).r (B:=aZ c x.g x.cap)).r (B:=Var b (dG c bt x) 198)).r (B:=ShQ bs bt c ⟨m,t,pl,lo,fr,some r,st,sn,own⟩)
 exact h.conv (fun _ _ hs=>aB.monoR (fun _ h=>aB.monoR (fun _ h=>aB.monoR (fun _ h=>aB.monoR (fun _ h=>aB.monoR (fun _ h=>aB.rot h) (aB.assoc h)) (aB.assoc h)) (aB.assoc h)) (aB.assoc h)) (aB.assoc hs)) fun _ _ h=>h
theorem tw_fail (hl:q.ln=some r) (h0:r.st=0) (w:World):aJ prog 212 #[.pointer (some ⟨x.w,0,none⟩)] w (cV bs b bt c q x) (.bool true) (cV bs b bt c {q with ln:=some {r with st:=2}} x):=by
 obtain ⟨m,t,pl,lo,fr,ln,st,sn,own⟩:=q
 simp only at hl
 subst hl
 exact tw_ln (q:=⟨m,t,pl,lo,fr,some r,st,sn,own⟩) (lq_fail h0 w)
def svQ (c:Cf) (q:Sw.Q) (s:Bool) (r:Sw.Rq):Bool×Sw.Q:=
 match Sw.topF q.fr c.frags with
 | some i=>(true,{q.take i s with ln:=some {r with st:=1,got:=i}})
 | none=>if 2≤r.cy then (true,{q with ln:=some {r with st:=2}}) else (false,q)
def SvO (rb bs b bt:Nat) (c:Cf) (q:Sw.Q) (x:SpX) (r:Sw.Rq):aC:=Sep (cV bs b bt c q x) (Var rb (rqC r (.slice none 0 0)) 272)
theorem sp_serve (hl:q.ln=some r) (h0:r.st=0) (hc:c.ok) (w:World):aJ prog 144 #[.pointer (some ⟨b,0,none⟩),.bool s] w (Two bs b bt c q) (.bool (svQ c q s r).1) (Two bs b bt c (svQ c q s r).2):=by
 intro S h
 obtain ⟨x,h⟩:=dY h
 have g0:=aA.begin h
 have c3:=g0.r.ci 3 x.ct
 have f3:=g0.r.fr 3
 obtain ⟨x1,g1⟩:=twox_ex g0
 have d15:=g1.r.cp 15 x1.w
 have HL:=zz ((tw_first hl h0 _).on g1)
 have HA:=zz (And.intro hl (And.intro h0 hc))
 obtain ⟨R,hR⟩:∃ R,svQ c q s r=R:=⟨_,rfl⟩
 rw [hR]
 have hR:=zz hR
 clear g0 g1 h hl h0 hc
 go_enter func144,ntmps144
 go_wp2_with fail
 refine qz HL.out fun w2 hg=>?_
 have hgz:=hg.moreSt (St.fresh (rqC r (.slice none 0 0)) 272)
 obtain ⟨rb,hrb⟩:∃ rb,w2.heap.size=rb:=⟨_,rfl⟩
 rw [hrb] at hgz
 have HG:=zz hgz
 have hgz:=hgz
 unfold rqV
 unfold rqC at*
 clear HL hg c3 d15
 go_upto_region 5 with fail
 generalize w2.alloc _=w3 at*
 have hg:=HG.out.drew_
 have HF:=zz ((tw_plR (sh_fits (c:=c) (x:=x1) (g:=x1.pg) HA.out.2.2.frags.2 _)).l.on hg)
 have HT:=zz fun (i:Nat) (ht:Sw.topF q.fr c.frags=some i) (w4:World) (hg:aA (SvO rb bs b bt c q x1 r) S w w4)=>(tw_takes (x:=x1) (bs:=bs) (b:=b) (bt:=bt) (q:=q) HA.out.2.2.frags.2 ht _).lX.on hg.drew_
 unfold shV cE at HF HT
 clear HG f3
 refine wp_region_held_drew (S:=fun w'=>w'.cell? ⟨b,4,none⟩=some (.int .i64 c.frags)∧w'.cell? ⟨b,5,none⟩=some (.int .i64 c.spine)∧w'.cell? ⟨b,6,none⟩=some (.int .i64 c.globals)∧w'.cell? ⟨b,7,none⟩=some (.int .i64 c.threads)∧w'.cell? ⟨b,8,none⟩=some (.int .i64 c.locals)∧w'.cell? ⟨b,9,none⟩=some (.int .i64 0)∧w'.cell? ⟨b,10,none⟩=some (.int .i64 c.stack)∧w'.cell? ⟨b,11,none⟩=some (.int .i64 c.low)∧w'.cell? ⟨b,12,none⟩=some (.slice (some ⟨x1.g,0,none⟩) c.shapes.length x1.cap)∧w'.cell? ⟨b,13,none⟩=some (.pointer (some ⟨x1.p,0,none⟩))∧w'.cell? ⟨b,14,none⟩=some (.pointer (some ⟨x1.k,0,none⟩))∧w'.cell? ⟨b,15,none⟩=some (.pointer (some ⟨x1.w,0,none⟩))∧w'.cell? ⟨rb,1,none⟩=some (.int .i64 1)∧w'.cell? ⟨rb,2,none⟩=some (.int .i64 0)) (by kernel_rfl) ⟨hg.l.r.ci 4 c.frags,hg.l.r.ci 5 c.spine,hg.l.r.ci 6 c.globals,hg.l.r.ci 7 c.threads,hg.l.r.ci 8 c.locals,hg.l.r.ci 9 0,hg.l.r.ci 10 c.stack,hg.l.r.ci 11 c.low,hg.l.r.cC 12 (.slice (some ⟨x1.g,0,none⟩) c.shapes.length x1.cap),hg.l.r.cp 13 x1.p,hg.l.r.cp 14 x1.k,hg.l.r.cp 15 x1.w,hg.r.vi 1 1,hg.r.vi 2 0⟩ (fun hHeld=>?_)
 refine tk 0 ?_
 refine tk 1 ?_
 refine tk 2 ?_
 refine tk 3 ?_
 refine tk 4 ?_
 refine tk 5 ?_
 refine tk 6 ?_
 refine tk 7 ?_
 refine rdy 8 fun K hK=>?_
 go_simp
 refine qz HF.out fun w5 hg2=>?_
 clear HF hg
 go_wp2_with fail
 refine hon hK ⟨hg2.l.r.ci 4 c.frags,hg2.l.r.ci 5 c.spine,hg2.l.r.ci 6 c.globals,hg2.l.r.ci 7 c.threads,hg2.l.r.ci 8 c.locals,hg2.l.r.ci 9 0,hg2.l.r.ci 10 c.stack,hg2.l.r.ci 11 c.low,hg2.l.r.cC 12 (.slice (some ⟨x1.g,0,none⟩) c.shapes.length x1.cap),hg2.l.r.cp 13 x1.p,hg2.l.r.cp 14 x1.k,hg2.l.r.cp 15 x1.w,hg2.r.vi 1 1,hg2.r.vi 2 0⟩ fun hHeld=>?_
 clear hK K
 refine tk 9 ?_
 refine wpAnyH_done (by kernel_rfl) ?_ _
 clear hHeld
 cases ht:Sw.topF q.fr c.frags with
 | some i=>
  have hR:=hR.out
  rw [svQ,ht] at hR
  simp only at hR
  subst hR
  have HT:=zz (HT.out i ht _ hg2)
  have hi:=(gS ht).1
  have hg:=hg2.drew_
  go_wp2_with fail
  refine wp_region_held_drew (S:=fun w'=>w'.cell? ⟨b,4,none⟩=some (.int .i64 c.frags)∧w'.cell? ⟨b,5,none⟩=some (.int .i64 c.spine)∧w'.cell? ⟨b,6,none⟩=some (.int .i64 c.globals)∧w'.cell? ⟨b,7,none⟩=some (.int .i64 c.threads)∧w'.cell? ⟨b,8,none⟩=some (.int .i64 c.locals)∧w'.cell? ⟨b,9,none⟩=some (.int .i64 0)∧w'.cell? ⟨b,10,none⟩=some (.int .i64 c.stack)∧w'.cell? ⟨b,11,none⟩=some (.int .i64 c.low)∧w'.cell? ⟨b,12,none⟩=some (.slice (some ⟨x1.g,0,none⟩) c.shapes.length x1.cap)∧w'.cell? ⟨b,13,none⟩=some (.pointer (some ⟨x1.p,0,none⟩))∧w'.cell? ⟨b,14,none⟩=some (.pointer (some ⟨x1.k,0,none⟩))∧w'.cell? ⟨b,15,none⟩=some (.pointer (some ⟨x1.w,0,none⟩))∧w'.cell? ⟨rb,1,none⟩=some (.int .i64 1)∧w'.cell? ⟨rb,2,none⟩=some (.int .i64 0)) (by kernel_rfl) ⟨hg.l.r.ci 4 c.frags,hg.l.r.ci 5 c.spine,hg.l.r.ci 6 c.globals,hg.l.r.ci 7 c.threads,hg.l.r.ci 8 c.locals,hg.l.r.ci 9 0,hg.l.r.ci 10 c.stack,hg.l.r.ci 11 c.low,hg.l.r.cC 12 (.slice (some ⟨x1.g,0,none⟩) c.shapes.length x1.cap),hg.l.r.cp 13 x1.p,hg.l.r.cp 14 x1.k,hg.l.r.cp 15 x1.w,hg.r.vi 1 1,hg.r.vi 2 0⟩ (fun hHeld=>?_)
  refine tk 0 ?_
  refine tk 1 ?_
  refine tk 2 ?_
  refine tk 3 ?_
  refine tk 4 ?_
  refine tk 5 ?_
  refine tk 6 ?_
  refine tk 7 ?_
  refine rdy 8 fun K hK=>?_
  go_simp
  with_reducible refine HT.out.mono ?_
  rintro e w6 ⟨z,rfl,hg3⟩
  clear HT hg hg2
  go_wp2_with fail
  refine hon hK ⟨hg3.l.l.r.ci 4 c.frags,hg3.l.l.r.ci 5 c.spine,hg3.l.l.r.ci 6 c.globals,hg3.l.l.r.ci 7 c.threads,hg3.l.l.r.ci 8 c.locals,hg3.l.l.r.ci 9 0,hg3.l.l.r.ci 10 c.stack,hg3.l.l.r.ci 11 c.low,hg3.l.l.r.cC 12 (.slice (some ⟨x1.g,0,none⟩) c.shapes.length x1.cap),hg3.l.l.r.cp 13 x1.p,hg3.l.l.r.cp 14 x1.k,hg3.l.l.r.cp 15 x1.w,hg3.l.r.vi 1 1,hg3.l.r.vi 2 0⟩ fun hHeld=>?_
  clear hK K
  refine tk 9 ?_
  refine tk 10 ?_
  refine tk 11 ?_
  refine tk 12 ?_
  refine tk 13 ?_
  refine wpAnyH_done (by kernel_rfl) ?_ _
  have hg4:aA (Sep (cV bs b bt c {q with fr:=Sw.set q.fr i false} x1) (Got (slV z) i)) S w w6:=(hg3.conv fun _ _ h=>aB.rot h).l
  have HS:=zz ((sp_set_one (s:=s) hi _).on hg4)
  clear hHeld hg3 hg4 hi
  go_wp2_with fail
  refine qz HS.out fun w7 hg=>?_
  have d15:=hg.l.r.cp 15 x1.w
  have HR:=zz ((tw_grant (q:={q with t:=Sw.set q.t i ⟨2,false,s⟩,fr:=Sw.set q.fr i false}) HA.out.1 HA.out.2.1 _).on hg)
  clear hg HS
  go_wp2_with fail
  refine qz HR.out fun w8 hg=>?_
  have HG:=zz hg
  clear hg HR d15 HA
  go_wp2_with fail
  go_ret
  exact ⟨rfl,eT HG.out⟩
 | none=>
  have HG:=zz hg2
  have r4:=hg2.r.vi 4 (r.cy:Int)
  have d15:=hg2.l.r.cp 15 x1.w
  have HF:=zz ((tw_fail HA.out.1 HA.out.2.1 _).on hg2.l)
  have hR:=hR.out
  rw [svQ,ht] at hR
  simp only at hR
  clear hg2 ht HT
  by_cases hcy:2≤r.cy
  · have h2:(2:Int)≤(r.cy:Int):=by omega
    rw [if_pos hcy] at hR
    subst hR
    clear HG hcy
    generalize (r.cy:Int)=cy at*
    go_wp2_with fail
    refine qz HF.out fun w8 hg=>?_
    have HG:=zz hg
    clear hg HF d15 HA
    go_wp2_with fail
    go_ret
    exact ⟨rfl,eT HG.out⟩
  · have h2:¬(2:Int)≤(r.cy:Int):=by omega
    rw [if_neg hcy] at hR
    subst hR
    clear HF hcy
    generalize (r.cy:Int)=cy at*
    go_wp2_with fail
    go_ret
    exact ⟨rfl,eT HG.out.l⟩
end
structure Tr where
 head:Nat
 sense:Bool
 pc:Int
 rv:Value
 words:Value
 next:Int
 steps:Int
def dL (c:Cf) (g cap:Nat) (t:Tr):Array Value:=#[.int .i64 c.frags,.int .i64 c.spine,.int .i64 c.globals,.int .i64 c.threads,.int .i64 c.locals,.int .i64 0,.int .i64 c.stack,.int .i64 c.low,.slice (some ⟨g,0,none⟩) c.shapes.length cap,
 .int .i64 (t.head:Int),.bool t.sense,.int .i64 t.pc,.bool false,t.rv,.int .i64 (t.head:Int),.int .i64 0,t.words,.int .i64 t.next,.int .i64 0,.int .i64 0,.int .i64 0,.int .i64 0,.int .i64 t.steps]
def bP (b:Nat) (c:Cf) (g cap:Nat) (t:Tr) (X:aC):aC:=Sep (Var b (dL c g cap t) 267) (Sep (aZ c g cap) X)
section
variable {t:Tr} {Y:aC}
theorem tr9 (h:aA (bP b c g cap t X) S w w'):
 w'.cell? ⟨b,0,none⟩=some (.int .i64 c.frags)∧w'.cell? ⟨b,1,none⟩=some (.int .i64 c.spine)∧w'.cell? ⟨b,2,none⟩=some (.int .i64 c.globals)∧w'.cell? ⟨b,3,none⟩=some (.int .i64 c.threads)∧
 w'.cell? ⟨b,4,none⟩=some (.int .i64 c.locals)∧w'.cell? ⟨b,5,none⟩=some (.int .i64 0)∧w'.cell? ⟨b,6,none⟩=some (.int .i64 c.stack)∧w'.cell? ⟨b,7,none⟩=some (.int .i64 c.low)∧w'.cell? ⟨b,8,none⟩=some (.slice (some ⟨g,0,none⟩) c.shapes.length cap):=
 ⟨h.c 0 rfl,h.c 1 rfl,h.c 2 rfl,h.c 3 rfl,h.c 4 rfl,h.c 5 rfl,h.c 6 rfl,h.c 7 rfl,h.c 8 rfl⟩
def tr0 (head:Nat) (sense:Bool):Tr:=⟨head,sense,0,.slice none 0 0,.slice none 0 0,0,0⟩
theorem gK (h:A.at_ S w):(Sep A Emp).at_ S w:=⟨S,fun _=>False,h,fun _ h=>h,fun _ _ h=>h,fun _ h=>h,fun _ h=>h.elim,fun _ h=>.inl h⟩
theorem trace_new (head:Nat) (sense:Bool) (hc:c.ok) (h:(aZ c g cap).at_ S w):
 Calls prog 131 #[cfV c g cap,.int .i64 (head:Int),.bool sense] w fun e w'=>∃ b g' cap',e=.returned (.pointer (some ⟨b,0,none⟩))∧St w (bP b c g' cap' (tr0 head sense) Emp) w':=by
 have hb0:Below w.heap.size w (w.alloc (.cells (aD c (.slice (some ⟨g,0,none⟩) c.shapes.length cap)) 34)):=(Below.refl w.heap.size w).alloc (Nat.le_refl _) _
 have C0:Blk (w.alloc (.cells (aD c (.slice (some ⟨g,0,none⟩) c.shapes.length cap)) 34)) w.heap.size (aD c (.slice (some ⟨g,0,none⟩) c.shapes.length cap)) 34:=Blk.new w _ _
 have HB0:=zz hb0
 have HC0:=zz C0
 have HK:=zz (fun w' hb=>fG hc (keep (w':=w') h hb))
 unfold cfV at*
 simp only [aD] at*
 clear h hc hb0
 go_enter func131,ntmps131
 go_upto_region 1 with fail
 generalize w.alloc _=W1 at*
 obtain ⟨c0,c1,c2,c3,c4,c5,c6,c7,c8⟩:=cf9 C0
 clear C0
 go_wp2_with fail
 with_reducible refine (HK.out _ HB0.out).mono ?_
 rintro e w9 ⟨g',cap',rfl,hs⟩
 have hs:=hs.onward HB0.out
 have hs:=hs.conv fun S w h=>gK h
 have hs2:=zz ((hs.var (dL c g' cap' (tr0 head sense)) 267).swap)
 clear c0 c1 c2 c3 c4 c5 c6 c7 c8 HK HB0 HC0 hs
 unfold cfV
 simp only [dL,tr0] at hs2
 go_wp2_with fail
 go_ret
 exact ⟨_,g',cap',rfl,hs2.out⟩
theorem trace_read (i k:Nat) (hc:c.ok) (hi:i<c.frags) (hk:k<8) (hn:i*8+k<n) (hn2:n≤20000) (h:(Sep (bP b c g cap t X) (Sep (Mem bm gm n m) Y)).at_ S w):
 Calls prog 299 #[.pointer (some ⟨b,0,none⟩),.pointer (some ⟨bm,0,none⟩),.int .i64 (i:Int),.int .i64 (k:Int)] w fun e w'=>e=.returned (.tuple #[m (i*8+k),.bool true])∧aA (Sep (bP b c g cap t X) (Sep (Mem bm gm n m) Y)) S w w':=by
 have g0:=aA.begin h
 obtain ⟨c0,c1,c2,c3,c4,c5,c6,c7,c8⟩:=tr9 g0.l
 have HA:=zz (eQ i k hc g0.l.r.l.is hi hk)
 have G0:=zz g0
 clear g0 h hc
 unfold cfV at*
 go_enter func299,ntmps299
 go_wp2_with fail
 refine qz (HA.out) fun w1 hb=>?_
 have G1:=G0.out.below_ hb
 have HM:=zz (G1.call (cY (bR fun S h=>mem_read (i*8+k) h hn hn2)))
 rw [show (((i*8+k:Nat)):Int)=(i:Int)*8+k by omega] at HM
 clear c0 c1 c2 c3 c4 c5 c6 c7 c8 G0 hb HA G1
 go_wp2_with fail
 refine qz (HM.out) fun w2 hg=>?_
 have G2:=zz hg
 clear hg HM
 go_wp2_with fail
 go_ret2
 exact ⟨rfl,G2.out⟩
theorem trace_errno (h:(bP b c g cap t X).at_ S w):Calls prog 198 #[.pointer (some ⟨b,0,none⟩)] w fun e w'=>e=.returned (.int .i64 0)∧w=w':=by
 have c0:=(aA.begin h).ci 21 0
 clear h
 go_enter func198,ntmps198
 go_wp2_with fail
 go_ret
 exact ⟨rfl,rfl⟩
def bF (l:List Bool):Nat→List Int
 | 0=>[]
 | q+1=>if l.getD q false=true then bF l q++[2+(q:Int)] else bF l q
theorem wordsTo_len (l:List Bool) (q:Nat):(bF l q).length≤q:=by
 induction q with
 | zero=>exact Nat.le_refl _
 | succ q ih=>
  simp only [bF];split
  · rw [List.length_append];simp;omega
  · omega
theorem trace_refs (hl:l.length≤6) (hx:t.rv=.slice x0 l.length k0) (h:(bP b c g cap t (Sep (dS t.rv l) X)).at_ S w):
 Calls prog 327 #[.pointer (some ⟨b,0,none⟩)] w fun e w'=>∃ v,e=.returned v∧aA (Sep (bP b c g cap t (Sep (dS t.rv l) X)) (cQ 3 1 v (bF l l.length).length ((bF l l.length).map (Value.int .i64)))) S w w':=by
 obtain ⟨i0,hi,hz0,hz1,hz2⟩:=info_parts Tryz.info3
 have g0:=aA.begin h
 have c12:=g0.cb 12 false
 have c13:=g0.cC 13 t.rv
 rw [hx] at c13
 have G0:aA (Sep (bP b c g cap t (Sep (dS t.rv l) X)) (cQ 3 1 (.slice none 0 0) 0 [])) S w w:=g0.more ⟨_,eW 3 1 w,fun k hk=>hk.elim⟩ (Below.refl _ _)
 have HX:=zz hx
 have HG0:=zz G0
 clear g0 h hx G0
 go_enter func327,ntmps327
 go_wp2_with fail
 go_loopw [3,5,6,7,8,9,56] (fun v _ _ _ _ _ i wr=>∃ q:Nat,q≤l.length∧i=.int .i64 q∧aA (Sep (bP b c g cap t (Sep (dS t.rv l) X)) (cQ 3 1 v (bF l q).length ((bF l q).map (Value.int .i64)))) S w wr) (fun _ _ _ _ _ _ i _=>l.length-(intOf i).toNat)
 case atStart=>exact ⟨0,Nat.zero_le _,rfl,HG0.out⟩
 case round=>
  obtain ⟨q,hq,rfl,hg⟩:=hrel
  by_cases hlt:q<l.length
  · obtain ⟨r,rfl,hcell⟩:=hg.l.r.r.l.refs HX.out (List.getElem?_eq_getElem hlt)
    have d12:=hg.l.cb 12 false
    have d13:=hg.l.cC 13 t.rv
    rw [HX.out] at d13
    have d15:=hg.l.ci 15 0
    have hwl:=wordsTo_len l q
    have HP:=zz (fun w=>fR (some ⟨r,0,none⟩) l.length k0 q w hl hlt)
    have hstep:bF l (q+1)=if l[q]=true then bF l q++[2+(q:Int)] else bF l q:=by simp only [bF];simp [hlt]
    have HST:=zz hstep
    have HG:=zz hg
    clear hg hstep c12 c13
    generalize hb9:l[q]=rb at*
    have HLE:=zz hwl
    clear hb9 hwl
    cases rb with
    | false=>
     go_wp2_with fail
     refine qz (HP.out _) fun w1 hb=>?_
     have H1:=zz (HG.out.below_ hb)
     clear HP hb HG d12 d13 d15 hcell
     go_wp2_with fail
     go_round
     case rel=>exact ⟨q+1,by omega,by go_num,by rw [HST.out];exact H1.out⟩
     case measure=>simp [intOf];omega
    | true=>
     go_wp2_with fail
     refine qz (HP.out _) fun w1 hb=>?_
     have G1:=HG.out.below_ hb
     have d15:=G1.l.ci 15 0
     have hrow:=G1.r.is.1
     have H1:=zz G1
     have HR:=zz hrow
     clear HP hb HG d12 d13 hcell G1 hrow
     go_wp2_with (at_builtin;refine bI rfl _ _ 22 rfl 3 i0 (.int .i64 0) 1 8 underlying22 hi hz0 hz1 hz2 rfl (by decide) _ _ _ rfl (HR.out.alloc _) ⟨w1.heap.size,0,none⟩ 1 1 [.int .i64 (2+(q:Int))] rfl rfl ?c1 ?c2 ?c3 (by decide) ?_)
     case c1=>
      intro j u hj
      rw [bU,(Blk.new w1 #[.int .i64 (2+(q:Int))] 3).cell,Nat.zero_add]
      simpa using hj
     case c2=>intro u hu;simp at hu;subst hu;rfl
     case c3=>have:=HLE.out;omega
     intro v' w2 ho hgr hbk
     have H2:=zz (H1.out.then (aH (fun S h=>bS h ((Below.refl w1.heap.size w1).alloc (Nat.le_refl _) (.cells #[.int .i64 (2+(q:Int))] 3)) ho hgr (by simpa using hbk))))
     clear H1 HR ho hgr hbk d15
     go_wp2_with fail
     go_round
     case rel=>exact ⟨q+1,by omega,by go_num,by rw [HST.out];have:=H2.out;simpa using this⟩
     case measure=>simp [intOf];omega
  · obtain rfl:q=l.length:=by omega
    have HG:=zz hg
    clear hg c12 c13
    go_wp2_with fail
    go_ret
    exact ⟨_,rfl,HG.out⟩
end
section
variable {t:Tr} {Y:aC}
theorem trace_fragments (hl:n0≤6) (hx:t.rv=.slice x0 n0 k0) (h:(bP b c g cap t X).at_ S w):
 Calls prog 331 #[.pointer (some ⟨b,0,none⟩)] w fun e w'=>e=.returned (.int .i64 1)∧Below w.heap.size w w':=by
 have g0:=aA.begin h
 have c12:=g0.cb 12 false
 have c13:=g0.cC 13 t.rv
 rw [hx] at c13
 have HS:=zz (fun w=>gW x0 n0 k0 w hl)
 clear g0 h hx
 go_enter func331,ntmps331
 go_wp2_with fail
 refine qz (HS.out _) fun w1 hb=>?_
 have HB:=zz hb
 clear hb
 go_wp2_with fail
 go_ret
 exact ⟨rfl,HB.out⟩
theorem trace_goes_on (hw:t.words=.slice x1 (n1+1) k1) (hn1:n1≤100) (h:(bP b c g cap t X).at_ S w):
 Calls prog 328 #[.pointer (some ⟨b,0,none⟩)] w fun e w'=>e=.returned (.int .i64 1)∧Below w.heap.size w w':=by
 have g0:=aA.begin h
 have c16:=g0.cC 16 t.words
 rw [hw] at c16
 clear g0 h hw
 go_enter func328,ntmps328
 go_wp2_with fail
 go_ret
 exact ⟨rfl,Below.refl _ _⟩
theorem trace_goes_end (hl:n0≤6) (hx:t.rv=.slice x0 n0 k0) (hw:t.words=.slice x1 0 k1) (h:(bP b c g cap t X).at_ S w):
 Calls prog 328 #[.pointer (some ⟨b,0,none⟩)] w fun e w'=>e=.returned (.int .i64 9)∧Below w.heap.size w w':=by
 have g0:=aA.begin h
 have c16:=g0.cC 16 t.words
 have c15:=g0.ci 15 0
 have HF:=zz (trace_fragments hl hx (g0.drew_.is))
 have HG:=zz g0.drew_
 have hw1:IntKind.i64.wrap 1=1:=by decide
 rw [hw] at c16
 clear g0 h hw
 go_enter func328,ntmps328
 go_wp2_with fail
 go_region_held3 (fun w'=>w'.cell? ⟨b,15,none⟩=some (.int .i64 0)) (first|exact c15|exact c15') ((go_at_call 331;(with_reducible refine HF.out.mono ?_);rintro e w7 ⟨rfl,hb7⟩;have c15':=(HG.out.below_ hb7).ci 15 0))
 have HB:=zz (((Below.refl w.heap.size w).drew).trans hb7)
 clear hb7 c15' HG HF
 go_wp2_with fail
 go_ret
 exact ⟨rfl,HB.out⟩
theorem aB.in2 {R:aC} (h:(Sep (Sep A (Sep B X)) R).at_ U w):(Sep A (Sep B (Sep R X))).at_ U w:=
 aB.monoR (fun _ h=>aB.monoR (fun _ h=>aB.swap h) (aB.assoc h)) (aB.assoc h)
theorem jT (hl:n0≤6) (hx:t.rv=.slice x0 n0 k0) (hw:t.words=.slice x1 n1 k1) (hn1:n1≤100) (h:(bP b c g cap t X).at_ S w):
 Calls prog 328 #[.pointer (some ⟨b,0,none⟩)] w fun e w'=>e=.returned (.int .i64 (if n1=0 then 9 else 1))∧Below w.heap.size w w':=by
 cases n1 with
 | zero=>exact trace_goes_end hl hx hw h
 | succ n=>exact trace_goes_on hw (by omega) h
def OrT (A B:aC):aC where
 at_:=fun S w=>A.at_ S w∨B.at_ S w
 lt:=fun h=>h.elim (fun h=>A.lt h) fun h=>B.lt h
 kept:=fun h hk hs=>h.elim (fun h=>.inl (A.kept h hk hs)) fun h=>.inr (B.kept h hk hs)
def WSq (v:Value) (ws:List Int):aC:=OrT (Seq 1 v ws.length (ws.map (Value.int .i64))) (Pu (ws=[]∧v=.slice none 0 0) Emp)
theorem wsq_row (h:(cQ 3 1 v ws.length (ws.map (Value.int .i64))).at_ S w):(WSq v ws).at_ S w:=by
 by_cases e:ws=[]
 · subst e
   obtain ⟨⟨h1,h2⟩,h3⟩:=h
   rcases h2 with ⟨hv,_⟩|⟨g,cap,cur,hv,h4,h5,h6,h7,h8,h9⟩
   · refine .inr ⟨⟨rfl,hv⟩,fun k hk=>?_⟩
     have:=(h3 k).1 hk
     rw [hv] at this;simp [Value.ownBlock] at this
   · refine .inl ⟨g,0,cap,cur,3,hv,h6,h7,rfl,h5,(h3 g).2 (by rw [hv];rfl),fun i x hx=>by simp at hx,fun k hk=>?_⟩
     have:=(h3 k).1 hk
     rw [hv] at this;simp [Value.ownBlock] at this;subst this
     exact lt_of_block h5
 · exact .inl (cX h (by simpa using e))
theorem wsq_form (h:(WSq v ws).at_ S w):∃ a cap,v=.slice a ws.length cap∧ws.length≤cap∧cap≤maxLen:=by
 rcases h with h|⟨⟨rfl,rfl⟩,h⟩
 · obtain ⟨g,o,cap,h1,h2,h3⟩:=bN h
   exact ⟨_,cap,h1,h2,h3⟩
 · exact ⟨none,0,rfl,by simp,by simp [maxLen]⟩
theorem kK (h:(WSq v (k::ws)).at_ S w):(Seq 1 v (ws.length+1) (.int .i64 k::ws.map (Value.int .i64))).at_ S w:=by
 rcases h with h|⟨⟨h,_⟩,_⟩
 · exact h
 · simp at h
theorem wsq_tail {o:Nat} (hn:ws.length=n) (h:(WSq (.slice (some ⟨g,o,none⟩) (n+1) cap) (k::ws)).at_ S w):(WSq (.slice (some ⟨g,o+1,none⟩) n (cap-1)) ws).at_ S w:=by
 subst hn
 exact .inl (seq_tail (ys:=[.int .i64 k]) rfl (kK h))
def Tr.on (t:Tr) (l:List Bool) (rv words:Value):Tr:={t with pc:=if (bF l l.length).length=0 then 9 else 1,rv:=rv,words:=words}
theorem trace_first (hc:c.ok) (hs:c.shapes[0]? = some (false,l)) (hmd:md≤1) (h:(bP b c g cap t X).at_ S w):
 Calls prog 300 #[.pointer (some ⟨b,0,none⟩),cx 0 md] w fun e w'=>∃ rv wv,e=.returned (.bool true)∧(∃ x k,rv=.slice x l.length k)∧aA (Sep (bP b c g cap (t.on l rv wv) (Sep (dS rv l) X)) (WSq wv (bF l l.length))) S w w':=by
 have g0:=aA.begin h
 obtain ⟨c0,c1,c2,c3,c4,c5,c6,c7,c8⟩:=tr9 g0
 have hl6:l.length≤6:=(hc.shape _ (List.mem_of_getElem? hs)).1
 have HT:=zz (fun w=>jA 0 md w (by omega) (by omega))
 have HA:=zz (dM (i:=0) hc g0.r.l.is hs)
 rw [show ((0:Nat):Int)=0 from rfl] at HA
 have G0:=zz g0
 have HC:=zz hc
 clear g0 h hc hs
 unfold cfV cx at*
 generalize fl 0=x0 at*
 generalize fl md=x1 at*
 go_enter func300,ntmps300
 go_wp2_with fail
 refine qq (HT.out _) ?_
 go_wp2_with fail
 with_reducible refine HA.out.mono ?_
 rintro e w1 ⟨v1,rfl,hb,S1,hr,hs1⟩
 obtain ⟨x1,k1,rfl⟩:=hr.slice
 have hRefs:(dS (.slice x1 l.length k1) l).at_ S1 w1:=⟨hr,fun k hk=>(hs1 k hk).2⟩
 have G2:aA (Sep (bP b c g cap t X) (dS (.slice x1 l.length k1) l)) S w w1:=G0.out.more ⟨S1,hRefs,fun k hk=>(hs1 k hk).1⟩ hb
 have G3:aA (bP b c g cap t (Sep (dS (.slice x1 l.length k1) l) X)) S w w1:=G2.conv fun _ _ h=>aB.in2 h
 have hbT:=Blk.new w1 #[.bool false,.slice x1 l.length k1] 55
 have e0:=hbT.cell 0
 have e1:=hbT.cell 1
 have G4:=G3.alloc_ (.cells #[.bool false,.slice x1 l.length k1] 55)
 clear HT HA c0 c1 c2 c3 c4 c5 c6 c7 c8 G0 hb hr hs1 hRefs G2 G3
 go_upto_region 3 with fail
 generalize hq:w1.heap.size=q at*
 generalize w1.alloc _=w2 at*
 simp at e0 e1
 have k12:=G4.cb 12 false
 have k13:=G4.cC 13 t.rv
 have f12:=G4.fr 12
 have f13:=G4.fr 13
 have G5:=(G4.put 12 (.bool false) (cs':=dL c g cap t) rfl).put 13 (.slice x1 l.length k1) (cs':=dL c g cap {t with rv:=.slice x1 l.length k1}) rfl
 have HR:=zz (G5.callx fun S h=>trace_refs (t:={t with rv:=.slice x1 l.length k1}) hl6 rfl h)
 clear G4
 obtain rfl|rfl:md=0∨md=1:=by omega
 all_goals
  go_upto_region 9 with fail
  clear k12 k13 f12 f13 e0 e1 G5 hbT
  generalize World.setCell _ ⟨b,13,none⟩ _=w3 at*
  go_wp2_with fail
  with_reducible refine HR.out.mono ?_
  rintro e w4 ⟨v,rfl,hg⟩
  have hg1:aA (Sep (bP b c g cap {t with rv:=.slice x1 l.length k1} (Sep (dS (.slice x1 l.length k1) l) X)) (WSq v (bF l l.length))) S w w4:=hg.conv fun _ _ h=>aB.monoR (fun _ h=>wsq_row h) h
  obtain ⟨aw,cw,rfl,hn1,hn2⟩:=wsq_form hg1.r.is
  have d16:=hg1.l.cC 16 t.words
  have f16:=hg1.l.fr 16
  have hg2:aA (Sep (bP b c g cap {t with rv:=.slice x1 l.length k1,words:=.slice aw (bF l l.length).length cw} (Sep (dS (.slice x1 l.length k1) l) X)) (WSq (.slice aw (bF l l.length).length cw) (bF l l.length))) S w (w4.setCell ⟨b,16,none⟩ (.slice aw (bF l l.length).length cw)):=
   hg1.then (aG (fun S h=>(aA.begin h).put 16 (.slice aw (bF l l.length).length cw) (cs':=dL c g cap {t with rv:=.slice x1 l.length k1,words:=.slice aw (bF l l.length).length cw}) rfl))
  have hnl:=wordsTo_len l l.length
  have HGO:=zz (jT (x1:=aw) (k1:=cw) hl6 rfl rfl (by omega) hg2.l.is)
  have HG2:=zz hg2
  clear HR hg hg1 hg2 hnl
  generalize hnw:(bF l l.length).length=nw at*
  have HNW:=zz hnw
  clear hnw
  obtain ⟨pcv,hpcv⟩:∃ pcv:Int,(if nw=0 then 9 else 1)=pcv:=⟨_,rfl⟩
  rw [hpcv] at HGO
  have HPV:=zz hpcv
  clear hpcv
  go_wp2_with fail
  refine qz (HGO.out) fun w5 hb5=>?_
  have G6:=HG2.out.below_ hb5
  have d11:=G6.l.ci 11 t.pc
  have f11:=G6.l.fr 11
  have HG7:=zz (G6.then (aG (fun S h=>(aA.begin h).put 11 (.int .i64 pcv) (cs':=dL c g cap {t with pc:=pcv,rv:=.slice x1 l.length k1,words:=.slice aw nw cw}) rfl)))
  clear HGO HG2 hb5 G6 d16 f16
  go_wp2_with fail
  go_ret
  refine ⟨.slice x1 l.length k1,.slice aw nw cw,rfl,⟨_,_,rfl⟩,?_⟩
  have hnw:=HNW.out
  subst hnw
  have hpv:=HPV.out
  subst hpv
  exact HG7.out
end
end Go.Proofs.YtgcmiahhkalfmaaGreat
