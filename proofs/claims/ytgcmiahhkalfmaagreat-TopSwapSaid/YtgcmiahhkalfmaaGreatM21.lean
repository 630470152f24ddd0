import Derived.Test.YtgcmiahhkalfmaaGreatM20
set_option maxRecDepth 100000
set_option maxHeartbeats 8000000
set_option linter.unusedVariables false
set_option linter.unusedSimpArgs false
namespace Go.Proofs.YtgcmiahhkalfmaaGreat
section
attribute [local go_sem] aF aI aO aV
open Go.Proofs.Tryz
open Go.RowKit
variable {A:CA} {c:Cf} {st:Int} {v:Lc} {b j lg n t:Nat} {l:Nat→Lc} {S:Nat→Prop} {q:Sw.Q} {x:Tc} {X:aC} {lv ov:Value} {w w':World}
def cG (l:Nat→Lc) (j:Nat):Value:=if j%2=0 then .bool (l (j/2)).ref else cx (l (j/2)).k (l (j/2)).i
theorem locM0 (l:Nat→Lc) (j:Nat):cG l (j*2)=.bool (l j).ref:=by unfold cG;rw [if_pos (by omega),show j*2/2=j by omega]
theorem locM1 (l:Nat→Lc) (j:Nat):cG l (j*2+1)=cx (l j).k (l j).i:=by unfold cG;rw [if_neg (by omega),show (j*2+1)/2=j by omega]
def LocS (n:Nat) (l:Nat→Lc):Prop:=∀ j,j<n→(l j).k≤63∧(l j).i≤63
def aT (b t:Nat) (ov:Value) (lg n:Nat) (x:Tc) (l:Nat→Lc) (X:aC):aC:=Thr b t ov (.slice (some ⟨lg,0,none⟩) n n) x (Sep (bV lg (n*2) 39 (cG l)) X)
section
theorem iE (hst:q.st=x.st) (h:(Sep (aE A c q) (Thr b t ov lv x X)).at_ S w):
 Calls prog 145 #[.pointer (some ⟨b,0,none⟩),.pointer (some ⟨A.b,0,none⟩)] w fun e w'=>e=.returned (.bool true)∧aA (Sep (aE A c q) (Thr b t ov lv x X)) S w w':=by
 have g0:=aA.begin h
 have k12:=g0.l.cp 12 A.bh
 have HL:=zz ((lH (hq_look _)).l.on g0)
 clear g0 h
 go_enter func145,ntmps145
 go_wp2_with fail
 refine qz HL.out fun w1 hg=>?_
 have c4:=hg.r.ci 4 x.st
 have HG:=zz hg
 clear HL hg k12
 rw [hst]
 go_wp2_with fail
 go_ret
 exact ⟨rfl,HG.out⟩
theorem act_looks_no (hq:q.st=st) (hst:¬st=x.st) (h3:¬st=3) (h:(Sep (aE A c q) (Thr b t ov lv x X)).at_ S w):
 Calls prog 145 #[.pointer (some ⟨b,0,none⟩),.pointer (some ⟨A.b,0,none⟩)] w fun e w'=>e=.returned (.bool false)∧aA (Sep (aE A c q) (Thr b t ov lv {x with seen:=st,grey:=.slice none 0 0,pc:=2,sn:=if st=1 then q.sn else x.sn} X)) S w w':=by
 have g0:=aA.begin h
 have k12:=g0.l.cp 12 A.bh
 have HL:=zz ((lH (hq_look _)).l.on g0)
 rw [hq] at HL
 clear g0 h
 go_enter func145,ntmps145
 go_wp2_with fail
 refine qz HL.out fun w1 hg=>?_
 have c4:=hg.r.ci 4 x.st
 have c8:=hg.r.ci 8 x.seen
 have f8:=hg.r.fr 8
 have g1:aA (Sep (aE A c q) (Thr b t ov lv {x with seen:=st} X)) S w _:=hg.then (aH (fun S h=>(aA.begin h).put 8 (.int .i64 st) (cs':=aM t ov lv {x with seen:=st}) rfl))
 have c9:=g1.r.cC 9 x.grey
 have f9:=g1.r.fr 9
 have g2:aA (Sep (aE A c q) (Thr b t ov lv {x with seen:=st,grey:=.slice none 0 0} X)) S w _:=g1.then (aH (fun S h=>(aA.begin h).put 9 (.slice none 0 0) (cs':=aM t ov lv {x with seen:=st,grey:=.slice none 0 0}) rfl))
 have c7:=g2.r.ci 7 x.pc
 have f7:=g2.r.fr 7
 have g3:aA (Sep (aE A c q) (Thr b t ov lv {x with seen:=st,grey:=.slice none 0 0,pc:=2} X)) S w _:=g2.then (aH (fun S h=>(aA.begin h).put 7 (.int .i64 2) (cs':=aM t ov lv {x with seen:=st,grey:=.slice none 0 0,pc:=2}) rfl))
 have G3:=zz g3
 clear HL hg g1 g2 g3 k12
 by_cases h1:st=1
 · subst h1
   go_upto_region 5 with fail
   generalize World.setCell _ _ _=w2 at*
   clear c4 c8 f8 c9 f9 c7 f7
   have c5:=G3.out.r.cb 5 x.sn
   have f5:=G3.out.r.fr 5
   have G4:=zz (G3.out.then fun S h=>aH (B':=Thr b t ov lv {x with seen:=1,grey:=.slice none 0 0,pc:=2,sn:=q.sn} X) (fun S h=>(aA.begin h).put 5 (.bool q.sn) (cs':=aM t ov lv {x with seen:=1,grey:=.slice none 0 0,pc:=2,sn:=q.sn}) rfl) S h)
   clear G3
   go_wp2_with fail
   go_ret
   exact ⟨rfl,G4.out⟩
 · go_wp2_with fail
   go_ret
   exact ⟨rfl,G3.out⟩
end
theorem ixI_is (v:Lc):v.w.ix=if ixB v.k v.i then some (v.k-1) else none:=by
 unfold Lc.w Sw.Wd.ix ixB
 by_cases h1:v.i=1<;>by_cases h2:1≤v.k<;>simp [h1,h2]
theorem ixI_t (h:ixB v.k v.i=true):ixI v.k v.i=v.k-1:=by unfold ixI;rw [if_pos h]
theorem greys_step (n:Nat) (l:Nat→Lc):Sw.greys (n+1) l=if (l n).ref=true∧ixB (l n).k (l n).i=true then Sw.greys n l++[(l n).k-1] else Sw.greys n l:=by
 unfold Sw.greys
 rw [List.range_succ,List.filterMap_append]
 simp only [List.filterMap_cons,List.filterMap_nil,ixI_is]
 by_cases h1:(l n).ref=true<;>by_cases h2:ixB (l n).k (l n).i=true<;>simp [h1,h2]
theorem greys_len (n:Nat) (l:Nat→Lc):(Sw.greys n l).length≤n:=by
 unfold Sw.greys;exact Nat.le_trans (List.length_filterMap_le _ _) (by simp)
def jO (g:List Nat):List Value:=g.map fun (i:Nat)=>.int .i64 (i:Int)
section
theorem dA (h:aA (aT b t ov lg n x l X) S w w') (hj:j<n):w'.cell? ⟨lg,j*2,none⟩=some (.bool (l j).ref)∧w'.cell? ⟨lg,j*2+1,none⟩=some (.complex .f64 (fl (l j).k) (fl (l j).i)):=by
 have h0:=aR (j:=j*2) h.r.l.is (by omega)
 have h1:=aR (j:=j*2+1) h.r.l.is (by omega)
 rw [locM0] at h0
 rw [locM1] at h1
 exact ⟨h0,h1⟩
def gpc (g:List Nat):Int:=if g=[] then 2 else 1
theorem act_looks_trace (hq:q.st=3) (hst:¬(3:Int)=x.st) (hl:LocS n l) (hn:n≤8) (h:(Sep (aE A c q) (aT b t ov lg n x l X)).at_ S w):
 Calls prog 145 #[.pointer (some ⟨b,0,none⟩),.pointer (some ⟨A.b,0,none⟩)] w fun e w'=>∃ v,e=.returned (.bool false)∧aA (Sep (Sep (aE A c q) (aT b t ov lg n {x with seen:=3,grey:=v,pc:=gpc (Sw.greys n l)} l X)) (cQ 3 1 v (Sw.greys n l).length (jO (Sw.greys n l)))) S w w':=by
 obtain ⟨i0,hi,hz0,hz1,hz2⟩:=info_parts Tryz.info3
 have g0:=aA.begin h
 have k12:=g0.l.cp 12 A.bh
 have HL:=zz ((lH (hq_look _)).l.on g0)
 rw [hq] at HL
 have HLO:=zz hl
 clear g0 h hl
 go_enter func145,ntmps145
 go_wp2_with fail
 refine qz HL.out fun w1 hg=>?_
 have c4:=hg.r.ci 4 x.st
 have c8:=hg.r.ci 8 x.seen
 have f8:=hg.r.fr 8
 have g1:aA (Sep (aE A c q) (aT b t ov lg n {x with seen:=3} l X)) S w _:=hg.then (aH (fun S h=>(aA.begin h).put 8 (.int .i64 3) (cs':=aM t ov (.slice (some ⟨lg,0,none⟩) n n) {x with seen:=3}) rfl))
 have c9:=g1.r.cC 9 x.grey
 have f9:=g1.r.fr 9
 have g2:aA (Sep (aE A c q) (aT b t ov lg n {x with seen:=3,grey:=.slice none 0 0} l X)) S w _:=g1.then (aH (fun S h=>(aA.begin h).put 9 (.slice none 0 0) (cs':=aM t ov (.slice (some ⟨lg,0,none⟩) n n) {x with seen:=3,grey:=.slice none 0 0}) rfl))
 have c7:=g2.r.ci 7 x.pc
 have f7:=g2.r.fr 7
 have g3:aA (Sep (aE A c q) (aT b t ov lg n {x with seen:=3,grey:=.slice none 0 0,pc:=2} l X)) S w _:=g2.then (aH (fun S h=>(aA.begin h).put 7 (.int .i64 2) (cs':=aM t ov (.slice (some ⟨lg,0,none⟩) n n) {x with seen:=3,grey:=.slice none 0 0,pc:=2}) rfl))
 have G3:=zz g3
 clear HL hg g1 g2 g3 k12
 have hst2:((3:Int)==x.st)=false:=by simpa using hst
 have hst3:decide ((3:Int)=x.st)=false:=by simpa using hst
 go_upto_region 5 with fail
 (try rw [hst2])
 (try rw [hst3])
 generalize World.setCell _ _ _=w2 at*
 clear c4 c8 f8 c9 f9 c7 f7 hst hst2 hst3
 have c2:=G3.out.r.cC 2 (.slice (some ⟨lg,0,none⟩) n n)
 go_wp2_with fail
 clear c2
 go_loopw [8,9,10,49] (fun _ _ _ i wr=>∃ j:Nat,j≤n∧i=.int .i64 j∧∃ v,aA (Sep (Sep (aE A c q) (aT b t ov lg n {x with seen:=3,grey:=v,pc:=gpc (Sw.greys j l)} l X)) (cQ 3 1 v (Sw.greys j l).length (jO (Sw.greys j l)))) S w wr) (fun _ _ _ i _=>n-(intOf i).toNat)
 case atStart=>exact ⟨0,Nat.zero_le _,rfl,_,G3.out.moreSt ⟨⟨_,eW 3 1 _,fun _ h=>h.elim⟩,Below.refl _ _⟩⟩
 case round=>
  clear G3
  obtain ⟨j,hj,rfl,v,hs⟩:=hrel
  by_cases hlt:j<n
  · obtain ⟨d0,d1⟩:=dA hs.l.r hlt
    have hsm:=HLO.out j hlt
    have HI:=zz fun w=>cW (l j).k (l j).i w hsm.1 hsm.2
    have hgl:=greys_len j l
    have HST:=zz (greys_step j l)
    have HS:=zz (hs.alloc_ (.cells #[.bool (l j).ref,.complex .f64 (fl (l j).k) (fl (l j).i)] 39))
    have HX:=zz (ixI_t (v:=l j))
    unfold cx at HI
    generalize fl (l j).k=z1 at*
    generalize fl (l j).i=z2 at*
    generalize ixI (l j).k (l j).i=iv at*
    generalize ixB (l j).k (l j).i=ib at*
    clear hs hsm
    generalize hgj:Sw.greys j l=gj at*
    clear hgj
    by_cases hb:(l j).ref=true∧ib=true
    · obtain ⟨hr,rfl⟩:=hb
      have hiv:=HX.out rfl
      subst hiv
      rw [hr] at d0 HS
      rw [if_pos ⟨hr,rfl⟩] at HST
      generalize (l j).k-1=ki at*
      clear HX hr
      go_wp2_with fail
      refine qq (HI.out _) ?_
      have bq0:=(Blk.new wr #[.bool true,.complex .f64 z1 z2] 39).cell 0
      have bqs:wr.heap.size<(wr.alloc (.cells #[.bool true,.complex .f64 z1 z2] 39)).heap.size:=by simp
      generalize wr.alloc _=w3 at*
      generalize wr.heap.size=bx at*
      simp only [List.getElem?_toArray,List.getElem?_cons_zero] at bq0
      have hq9:=HS.out.l.r.cC 9 v
      have hf9:=HS.out.l.r.fr 9
      have HR:=zz HS.out.r.is.1
      clear d0 d1 HI
      go_wp2_with (at_builtin;refine bI rfl _ _ 22 rfl 3 i0 (.int .i64 0) 1 8 underlying22 hi hz0 hz1 hz2 rfl (by decide) _ _ _ rfl (HR.out.alloc _) ⟨w3.heap.size,0,none⟩ 1 1 [.int .i64 (ki:Int)] rfl rfl ?c1 ?c2 ?c3 (by decide) ?_)
      case c1=>
       intro j u hj
       rw [bU,(Blk.new w3 #[.int .i64 (ki:Int)] 3).cell,Nat.zero_add]
       simpa using hj
      case c2=>intro u hu;simp at hu;subst hu;rfl
      case c3=>omega
      intro v' w4 hown hgr hbk
      have hs4:aA (Sep (Sep (aE A c q) (aT b t ov lg n {x with seen:=3,grey:=v,pc:=gpc gj} l X)) (cQ 3 1 v' (gj.length+1) (jO gj++[.int .i64 (ki:Int)]))) S w w4:=HS.out.then (aH (fun S h=>bS h ((Below.refl w3.heap.size w3).alloc (Nat.le_refl _) (.cells #[.int .i64 (ki:Int)] 3)) hown hgr (by simpa using hbk)))
      have hown2:=hown
      obtain ⟨_,hv⟩:=hown2
      rcases hv with ⟨_,h0⟩|⟨vg,vcap,vcur,hv',_⟩
      · simp at h0
      subst hv'
      generalize hv2:(Value.slice (some ⟨vg,0,none⟩) (gj.length+1) vcap)=v' at*
      have d9:=hs4.l.r.cC 9 v
      have e9:=hs4.l.r.fr 9
      have g5:aA (Sep (Sep (aE A c q) (aT b t ov lg n {x with seen:=3,grey:=v',pc:=gpc gj} l X)) (cQ 3 1 v' (gj.length+1) (jO gj++[.int .i64 (ki:Int)]))) S w _:=hs4.then (aG (aH (fun S h=>(aA.begin h).put 9 v' (cs':=aM t ov (.slice (some ⟨lg,0,none⟩) n n) {x with seen:=3,grey:=v',pc:=gpc gj}) rfl)))
      have d7:=g5.l.r.ci 7 (gpc gj)
      have e7:=g5.l.r.fr 7
      have g6:aA (Sep (Sep (aE A c q) (aT b t ov lg n {x with seen:=3,grey:=v',pc:=1} l X)) (cQ 3 1 v' (gj.length+1) (jO gj++[.int .i64 (ki:Int)]))) S w _:=g5.then (aG (aH (fun S h=>(aA.begin h).put 7 (.int .i64 1) (cs':=aM t ov (.slice (some ⟨lg,0,none⟩) n n) {x with seen:=3,grey:=v',pc:=1}) rfl)))
      subst hv2
      have HG6:=zz g6
      clear hown hs4 HS hgr hbk g5 g6 hq9 hf9 bq0 HR
      go_wp2_with fail
      go_round
      case rel=>exact ⟨j+1,by omega,by go_num,_,by rw [HST.out];have:=HG6.out;simpa [gpc,jO] using this⟩
      case measure=>simp [intOf];omega
    · rw [if_neg hb] at HST
      clear HX
      cases hr:(l j).ref with
      | false=>
       rw [hr] at d0 HS
       go_wp2_with fail
       refine qq (HI.out _) ?_
       go_wp2_with fail
       go_round
       case rel=>exact ⟨j+1,by omega,by go_num,v,by rw [HST.out];exact HS.out⟩
       case measure=>simp [intOf];omega
      | true=>
       rw [hr] at d0 HS
       obtain rfl:ib=false:=by cases ib with|false=>rfl|true=>exact absurd ⟨hr,rfl⟩ hb
       go_wp2_with fail
       refine qq (HI.out _) ?_
       go_wp2_with fail
       go_round
       case rel=>exact ⟨j+1,by omega,by go_num,v,by rw [HST.out];exact HS.out⟩
       case measure=>simp [intOf];omega
  · obtain rfl:j=n:=by omega
    have HF:=zz hs
    clear hs
    go_wp2_with fail
    go_ret
    exact ⟨v,rfl,HF.out⟩
end
end
section
attribute [local go_sem] aF
open Go.Proofs.Tryz
open Go.RowKit
variable {args:Array Value} {s:Bool} {c:Cf} {fi:FuncId} {f:Nat→Bool} {S:Nat→Prop} {P:Program} {x:SpX} {q:Sw.Q} {r:Sw.Rq} {A:aC} {v:Value} {w w':World}
section
variable {b bs bt g n k a t rb:Nat} {z:Sl}
theorem tw_stk (ht:t<c.threads) (h:∀ S,(Stk (x.T t)).at_ S w→Calls prog fi args w fun e w'=>e=.returned v∧aA (Stk (x.T t)) S w w'):aJ prog fi args w (cV bs b bt c q x) v (cV bs b bt c q x):=(stks_on ht h).r.r.r.r.r.r
theorem tw_stock (ht:t<c.threads) (w:World):aJ prog 215 #[.pointer (some ⟨b,0,none⟩),.int .i64 (t:Int)] w (cV bs b bt c q x) (.pointer (some ⟨x.T t,0,none⟩)) (cV bs b bt c q x):=(aJ.look fun S h=>sp_stock ht h).r
theorem tw_stock0 (ht:0<c.threads) (w:World):aJ prog 215 #[.pointer (some ⟨b,0,none⟩),.int .i64 0] w (cV bs b bt c q x) (.pointer (some ⟨x.T 0,0,none⟩)) (cV bs b bt c q x):=tw_stock ht w
theorem tw_wait (hl:lnW q.ln=false) (w:World):aJ prog 123 #[shV c x] w (cV bs b bt c q x) (.int .i64 0) (cV bs b bt c q x):=by
 have h:=sh_waits (c:=c) (x:=x) (ln:=q.ln) w
 rw [hl] at h
 exact h.l.r.r.r.r.r
theorem tw_of (hl:q.ln=none) (t:Int) (w:World):aJ prog 238 #[.pointer (some ⟨x.w,0,none⟩),.int .i64 t] w (cV bs b bt c q x) (.tuple #[dC,.bool false]) (cV bs b bt c q x):=by
 obtain ⟨m,tt,pl,lo,fr,ln,st,sn,own⟩:=q
 simp only at hl
 subst hl
 exact tw_ln (q:=⟨m,tt,pl,lo,fr,none,st,sn,own⟩) (lq_Of0 t w)
theorem tw_add (hl:q.ln=none) (w:World):aJ prog 317 #[.pointer (some ⟨x.w,0,none⟩),.agg #[.int .i64 0,.int .i64 1,.int .i64 0,.int .i64 0,.int .i64 0,.int .i64 0,.slice none 0 0]] w (cV bs b bt c q x) (.bool true) (cV bs b bt c {q with ln:=some nq} x):=by
 obtain ⟨m,tt,pl,lo,fr,ln,st,sn,own⟩:=q
 simp only at hl
 subst hl
 exact tw_ln (q:=⟨m,tt,pl,lo,fr,none,st,sn,own⟩) (lq_add w)
def askO (bs b bt:Nat) (c:Cf) (q:Sw.Q) (s:Bool) (z:Sl):aC:=
 match Sw.topF q.fr c.frags with
 | some i=>Sep (Two bs b bt c (q.take i s)) (Got (slV z) i)
 | none=>Pu (z=s0) (Two bs b bt c {q with ln:=some nq})
def TwR (rb bs b bt:Nat) (c:Cf) (q:Sw.Q) (x:SpX) (st:Int) (z:Sl) (at_:Int):aC:=Sep (cV bs b bt c q x) (Var rb #[.int .i64 st,.slice z.1 z.2.1 z.2.2,.int .i64 at_] 233)
def AskG (rb bs b bt:Nat) (c:Cf) (q:Sw.Q) (x:SpX) (z:Sl) (k:Nat):aC:=Sep (Sep (cV bs b bt c q x) (Got (slV z) k)) (Var rb #[.int .i64 0,.slice none 0 0,.int .i64 0] 233)
theorem sp_ask (hl:q.ln=none) (ht0:0<c.threads) (hc:c.ok) (w:World):aN prog 278 #[.pointer (some ⟨b,0,none⟩),.int .i64 0,.int .i64 1,.int .i64 0,.bool s] w (Two bs b bt c q)
 (fun (z:Sl) e=>e=.returned (.agg #[.int .i64 (if (Sw.topF q.fr c.frags).isSome then 1 else 0),.slice z.1 z.2.1 z.2.2,.int .i64 (-1)])) (fun z=>askO bs b bt c q s z):=by
 intro S h
 obtain ⟨x,h⟩:=dY h
 have g0:=(aA.begin h).moreSt (St.fresh #[.int .i64 0,.slice none 0 0,.int .i64 0] 233)
 obtain ⟨rb,hrb⟩:∃ rb,w.heap.size=rb:=⟨_,rfl⟩
 rw [hrb] at g0
 have c3:=g0.l.r.ci 3 x.ct
 have f3:=g0.l.r.fr 3
 obtain ⟨x1,g1⟩:∃ x1,aA (TwR rb bs b bt c q x1 0 s0 0) S w ((w.alloc (.cells #[.int .i64 0,.slice none 0 0,.int .i64 0] 233)).setCell ⟨b,3,none⟩ (.int .i64 (wrap64 (x.ct+1)))):=
  ⟨{x with ct:=wrap64 (x.ct+1)},g0.then (aG (fun S h=>dX (aA.begin h)))⟩
 have HS:=zz ((tw_stock0 ht0 _).l.on g1)
 have HA:=zz (And.intro hl (And.intro ht0 hc))
 have hfits:(Sw.topF q.fr c.frags).isSome=true∨(Sw.topF q.fr c.frags).isSome=false:=by cases (Sw.topF q.fr c.frags).isSome<;>simp
 obtain ⟨kk,hkk⟩:∃ kk:Int,(if (Sw.topF q.fr c.frags).isSome then 1 else 0)=kk:=⟨_,rfl⟩
 rw [hkk]
 have hkk:=zz hkk
 clear g0 h hl ht0 hc
 go_enter func278,ntmps278
 go_upto_region 2 with fail
 generalize World.setCell _ _ _=w1 at*
 clear c3 f3
 go_wp2_with fail
 refine qz HS.out fun w2 hg=>?_
 have c15:=hg.l.r.cp 15 x1.w
 have HO:=zz ((tw_of HA.out.1 0 _).l.on hg)
 clear HS hg g1
 go_wp2_with fail
 refine qz HO.out fun w3 hg=>?_
 have HG:=zz (hg.alloc_ (.cells aS 272))
 unfold dC
 simp only [aS] at*
 clear HO hg c15
 go_upto_region 4 with fail
 generalize World.alloc w3 _=w4 at*
 have HT:=zz ((tw_stk HA.out.2.1 (fun S h=>aJ.look (fun S h=>stock_take h) S h)).l.on HG.out)
 clear HG
 go_wp2_with fail
 refine qz HT.out fun w5 hg=>?_
 obtain ⟨e4,e5,e6,e7,e8,e9,e10,e11,e12,e13,e14,e15⟩:=sp12 hg.l.r
 have HW:=zz ((tw_wait (x:=x1) (by rw [HA.out.1];rfl) _).l.on hg)
 unfold shV cE at HW
 clear HT hg
 go_wp2_with fail
 refine qz HW.out fun w6 hg=>?_
 clear HW e4 e5 e6 e7 e8 e9 e10 e11 e12 e13 e14 e15
 obtain ⟨e4,e5,e6,e7,e8,e9,e10,e11,e12,e13,e14,e15⟩:=sp12 hg.l.r
 have HW:=zz ((tw_plR (sh_fits (c:=c) (x:=x1) (g:=x1.pg) HA.out.2.2.frags.2 _)).l.on hg)
 unfold shV cE at HW
 clear hg
 go_wp2_with fail
 refine qz HW.out fun w7 hg=>?_
 clear HW e4 e5 e6 e7 e8 e9 e10 e11 e12 e13 e14 e15
 rcases hfits with hf|hf
 · obtain ⟨i,hi⟩:∃ i,Sw.topF q.fr c.frags=some i:=by cases h:Sw.topF q.fr c.frags<;>simp_all
   rw [hf]
   obtain ⟨e4,e5,e6,e7,e8,e9,e10,e11,e12,e13,e14,e15⟩:=sp12 hg.l.r
   have HW:=zz ((tw_takes (x:=x1) HA.out.2.2.frags.2 hi _).lX.on hg)
   unfold shV cE at HW
   have HI:=zz hi
   clear hg hi hf
   go_wp2_with fail
   with_reducible refine HW.out.mono ?_
   rintro e w8 ⟨⟨za,zn,zc⟩,rfl,hg⟩
   dsimp only
   have hg:=hg.conv fun _ _ h=>aB.rot h
   have HS:=zz ((sp_set_one (z:=(za,zn,zc)) (s:=s) (gS HI.out).1 _).l.on hg)
   clear hg HW e4 e5 e6 e7 e8 e9 e10 e11 e12 e13 e14 e15
   go_wp2_with fail
   refine qz HS.out fun w9 hg=>?_
   change aA (AskG rb bs b bt c {q with fr:=Sw.set q.fr i false,t:=Sw.set q.t i ⟨2,false,s⟩} x1 (za,zn,zc) i) S w w9 at hg
   obtain ⟨q2,hq2⟩:∃ q2,q.take i s=q2:=⟨_,rfl⟩
   rw [show ({q with fr:=Sw.set q.fr i false,t:=Sw.set q.t i ⟨2,false,s⟩}:Sw.Q)=q2 from hq2] at hg
   have HG:=zz hg.drew_
   have hne:Nonempty (In (AskG rb bs b bt c q2 x1 (za,zn,zc) i) S w):=⟨⟨_,HG.out⟩⟩
   have HR:=zz fun w1 (hg:aA (AskG rb bs b bt c q2 x1 (za,zn,zc) i) S w w1)=>hg.call (bR (bR (tw_stk HA.out.2.1 fun S h=>aJ.see (fun S h=>stock_room h) S h)))
   have HL:=zz fun w1 (hg:aA (AskG rb bs b bt c q2 x1 (za,zn,zc) i) S w w1)=>hg.call (bR (bR (tw_plR (aJ.look fun S h=>pool_low0 HA.out.2.2.frags.2 (by have:=HA.out.2.2.frags.1;omega) h))))
   have e13:=fun i:In (AskG rb bs b bt c q2 x1 (za,zn,zc) i) S w=>i.h.l.l.r.cp 13 x1.p
   clear hg HS
   go_wp2_with fail
   refine bL (by kernel_rfl) (by kernel_rfl) HG.out ?_
   repeat (go_big_quiet_step (first|exact In.call HR.out|exact In.call HL.out))
   refine wpQuiet_nil ?_
   intro w10 hg
   have HG2:=zz hg
   clear HG HR HL e13 hne hg
   go_wp2_with fail
   refine qq (sp_set_nil _ _ _) ?_
   have HP:=zz ((tw_stk HA.out.2.1 fun S h=>stock_put h).l.l.on HG2.out)
   clear HG2
   go_wp2_with fail
   refine qz HP.out fun w12 hg=>?_
   have q0:=hg.r.vi 0 0
   have q1:=hg.r.vC 1 (.slice none 0 0)
   have q2_:=hg.r.vi 2 0
   have p0:=hg.r.vf 0
   have p1:=hg.r.vf 1
   have p2:=hg.r.vf 2
   have hA:=hg.then (aH (fun S h=>(((aA.begin h).vput 0 (.int .i64 1) rfl).vput 1 (.slice za zn zc) rfl).vput 2 (.int .i64 (-1)) rfl))
   have r0:=hA.r.vi 0 1
   have r1:=hA.r.vC 1 (.slice za zn zc)
   have r2:=hA.r.vi 2 (-1)
   have HF:=zz (hA.l.conv fun S w h=>(aB.monoL (fun S h=>aB.monoR (fun S h=>⟨x1,h⟩) h) h:(Sep (Two bs b bt c q2) (Got (slV (za,zn,zc)) i)).at_ S w))
   have HI2:=HI.out
   clear HP hg hA HI HA
   go_wp2_with fail
   refine bodyPost_ret (v:=.agg #[.int .i64 1,.slice za zn zc,.int .i64 (-1)]) (by simp [results,results278,go_sem,r0,r1,r2]) rfl ?_
   refine ⟨(za,zn,zc),?_,?_⟩
   · rw [←hkk.out,HI2];rfl
   · unfold askO;rw [HI2];subst hq2;exact HF.out
 · rw [hf]
   have hn:Sw.topF q.fr c.frags=none:=by cases h:Sw.topF q.fr c.frags<;>simp_all
   have d15:=hg.l.r.cp 15 x1.w
   have HW:=zz ((tw_add HA.out.1 _).l.on hg)
   have HF:=zz (And.intro hn hf)
   clear hg hn hf
   go_wp2_with fail
   refine qz HW.out fun w8 hg=>?_
   have HN:=zz ((sp_none 0 _).on hg)
   clear hg HW d15 HA
   go_wp2_with fail
   refine qz HN.out fun w9 hg=>?_
   have q0:=hg.r.vi 0 0
   have q1:=hg.r.vC 1 (.slice none 0 0)
   have q2_:=hg.r.vi 2 0
   have p0:=hg.r.vf 0
   have p1:=hg.r.vf 1
   have p2:=hg.r.vf 2
   have hA:=hg.then (aH (fun S h=>(((aA.begin h).vput 0 (.int .i64 0) rfl).vput 1 (.slice none 0 0) rfl).vput 2 (.int .i64 (-1)) rfl))
   have r0:=hA.r.vi 0 0
   have r1:=hA.r.vC 1 (.slice none 0 0)
   have r2:=hA.r.vi 2 (-1)
   have HX:=zz hA.l
   have hn:=HF.out.1
   clear hg hA HN HF
   go_wp2_with fail
   refine bodyPost_ret (v:=.agg #[.int .i64 0,.slice none 0 0,.int .i64 (-1)]) (by simp [results,results278,go_sem,r0,r1,r2]) rfl ?_
   refine ⟨s0,?_,?_⟩
   · rw [←hkk.out,hn];rfl
   · unfold askO;rw [hn];exact HX.out.conv fun S w h=>⟨rfl,aB.monoR (fun S h=>⟨x1,h⟩) h⟩
end
end
section
attribute [local go_sem] aF
open Go.Proofs.Tryz
open Go.RowKit Go.Maps Go.WideMaps
variable {s:Bool×List Bool} {c:Cf} {e:Ending} {a:Int} {S:Nat→Prop} {X:aC} {v:Value} {w w':World}
section
variable {g cap F:Nat}
theorem told_st (h:ShapeTold s w e w'):∃ v',e=.returned (.tuple #[.agg #[.bool s.1,v'],.bool true])∧St w (dS v' s.2) w':=
 let ⟨v,he,hb,S',hr,hs⟩:=h;⟨v,he,⟨S',⟨hr,fun k hk=>(hs k hk).2⟩,fun k hk=>(hs k hk).1⟩,hb⟩
theorem plan_blank (r:Bool) (w:World):Calls prog 296 #[.bool r] w fun e w'=>e=.returned (cx 0 (if r then 1 else 0))∧w=w':=by
 cases r with
 | true=>
  go_enter func296,ntmps296
  go_wp2_with fail
  refine qq (fE _) ?_
  go_wp2_with fail
  go_ret
  exact ⟨by rw [←cx01];rfl,rfl⟩
 | false=>
  go_enter func296,ntmps296
  go_wp2_with fail
  have hw:=num_whole 0 w (by omega)
  rw [show ((0:Nat):Int)=0 from rfl] at hw
  refine qq (hw) ?_
  clear hw
  go_wp2_with fail
  go_ret
  exact ⟨by unfold cx;rw [fl0];rfl,rfl⟩
theorem wf64 (h0:0≤a) (h1:a≤2000):(Lit.int .i64 a).wf=true:=by
 have e1:IntKind.i64.min=-9223372036854775808:=by decide
 have e2:IntKind.i64.max=9223372036854775807:=by decide
 show (decide (IntKind.i64.min≤a)&&decide (a≤IntKind.i64.max))=true
 rw [e1,e2,Bool.and_eq_true];exact ⟨decide_eq_true (by omega),decide_eq_true (by omega)⟩
def oneD (F q:Nat):DataW Unit:=if q=0 then .map [] else (DataW.map []).put (.int .i64 (F:Int)) (.lit (.bool true))
theorem oneD_size (F:Nat):Maps.size (oneD F 1)=1:=by unfold oneD;simp [DataW.put,Maps.size,DataW.insert]
theorem law3:Keyed prog 3:=int_keyed underlying3
theorem plan_frags (hc:c.ok) (hF:F<c.frags) (h:(Sep (aZ c g cap) (Got v F)).at_ S w):
 Calls prog 326 #[cfV c g cap,v] w fun e w'=>e=.returned (.tuple #[.bool false,.bool false])∧Below w.heap.size w w':=by
 have hb0:Below w.heap.size w (w.alloc (.cells (aD c (.slice (some ⟨g,0,none⟩) c.shapes.length cap)) 34)):=(Below.refl w.heap.size w).alloc (Nat.le_refl _) _
 have C0:Blk (w.alloc (.cells (aD c (.slice (some ⟨g,0,none⟩) c.shapes.length cap)) 34)) w.heap.size (aD c (.slice (some ⟨g,0,none⟩) c.shapes.length cap)) 34:=Blk.new w _ _
 have HB0:=zz hb0
 have HC0:=zz C0
 have g0:=zz ((aA.begin h).below_ hb0)
 obtain ⟨gs,o,cp,rfl,h1,h2⟩:=bN g0.out.r.is
 have HK:=zz hc
 unfold cfV at*
 simp only [aD] at*
 have hkey:=keyOf_int_mk (P:=prog) underlying3 (a:=(F:Int)) (wf64 (by omega) (by have:=HK.out.frags;omega))
 have hmm:=@run_makeMap prog
 have hs0:w.heap.size<(w.alloc (.cells (aD c (.slice (some ⟨g,0,none⟩) c.shapes.length cap)) 34)).heap.size:=by simp
 simp only [aD] at hs0
 clear h hc hb0
 go_enter func326,ntmps326
 go_upto_region 1 with fail
 generalize w.alloc _=W1 at*
 obtain ⟨c0,c1,c2,c3,c4,c5,c6,c7,c8⟩:=cf9 C0
 have HBW:=zz ((Below.refl W1.heap.size W1).alloc (Nat.le_refl _) (.map #[] 0))
 clear c0 c1 c2 c3 c4 c5 c6 c7 c8
 go_wp2_with fail
 go_loopw [8,9,10,14] (fun _ _ _ i wr=>∃ q:Nat,q≤1∧i=.int .i64 q∧wr.ownsMap prog 3 (plainElem (H:=Unit) prog 4) W1.heap.size q (oneD F q)∧Below W1.heap.size W1 wr) (fun _ _ _ i _=>1-(intOf i).toNat)
 case atStart=>exact ⟨0,Nat.zero_le _,rfl,World.ownsMap_made _ _ _ _,HBW.out⟩
 case round=>
  clear HBW
  obtain ⟨q,hq,rfl,hown,hnx⟩:=hrel
  have g2:=g0.out.below_ hnx
  have C2:=aK HC0.out hnx
  obtain ⟨c0,c1,c2,c3,c4,c5,c6,c7,c8⟩:=cf9 C2
  by_cases hlt:q<1
  · obtain rfl:q=0:=by omega
    have ck:=g2.r.seq (i:=0) (x:=.int .i64 (F:Int)) rfl
    have HA:=zz (eQ F 0 HK.out g2.l.is hF (by omega))
    rw [show ((0:Nat):Int)=0 from rfl] at HA
    have HN:=zz hnx
    clear g2 C2 hnx
    unfold cfV at HA
    simp only [Int.natCast_zero,Nat.add_zero] at*
    go_wp2_with fail
    refine qz HA.out fun w2 hb2=>?_
    have hown2:=zz (hown.kept (w':=w2) (row:=none) ⟨hb2.os,hb2.tape,hb2.output,hb2.size,fun k hk _=>hb2.block k hk⟩ (by simp))
    have HN2:=zz (HN.out.trans (hb2.mono HN.out.size))
    clear HA hown HN hb2 c0 c1 c2 c3 c4 c5 c6 c7 c8 ck
    go_wp2_with (at_mapUpdate;refine wpList_mapUpdate_own _ rfl _ _ _ 89 rfl 3 4 law3 underlying89 (plainElem (H:=Unit) prog 4) W1.heap.size 0 _ rfl hown2.out (by decide) _ _ _ rfl rfl hkey _ [] (plainElem_bool underlying4 true) ?_;intro w3 hown3 hg3)
    have hown4:w3.ownsMap prog 3 (plainElem (H:=Unit) prog 4) W1.heap.size 1 (oneD F 1):=hown3
    have HN3:=zz (HN2.out.grown hg3 HN2.out.size (fun j hj=>by cases hj;exact Nat.le_refl _))
    clear hown2 HN2 hown3 hg3
    go_wp2_with fail
    go_round
    case rel=>exact ⟨1,by omega,by go_num,hown4,HN3.out⟩
    case measure=>simp [intOf]
  · obtain rfl:q=1:=by omega
    have HN:=zz (HB0.out.trans (hnx.mono (by omega)))
    clear g2 C2 hnx c0 c1 c2 c3 c4 c5 c6 c7 c8
    go_wp2_with (first|(at_len;refine wpList_len_own _ rfl _ 89 rfl 3 4 underlying89 _ W1.heap.size 1 _ rfl hown ?_)|go_in)
    rw [oneD_size]
    go_wp2_with fail
    go_ret2
    exact ⟨rfl,HN.out⟩
end
end
section
attribute [local go_sem] aF aI aO aV
open Go.Proofs.Tryz
open Go.RowKit
variable {r:Bool} {c:Cf} {l:List Bool} {F cap g q wb:Nat} {S:Nat→Prop} {X:aC} {u v:Value} {w w':World}
def plB (l:List Bool) (j:Nat):Nat:=if j≤1 then 1 else if l[j-2]? = some true then 1 else 0
theorem plW_is (l:List Bool) (j:Nat):Sw.plW l j=⟨0,plB l j⟩:=by
 unfold Sw.plW plB
 by_cases h0:j=0
 · subst h0;rfl
 · by_cases h1:j=1
   · subst h1;rfl
   · rw [if_neg h0,if_neg h1,if_neg (show ¬j≤1 by omega)]
     cases h:l[j-2]? with
     | none=>simp [Sw.w0]
     | some b=>cases b<;>simp [Sw.w0,Sw.wN]
section
variable {Fr:Nat}
theorem plan_wrong (hc:c.ok) (hFr:Fr<c.frags) (hs:c.shapes[0]? = some (false,l)) (h:(Sep (aZ c g cap) (Got v Fr)).at_ S w):
 Calls prog 289 #[cfV c g cap,.int .i64 0,.int .i64 0,.bool false,v] w fun e w'=>∃ u,e=.returned (.tuple #[.agg #[.bool false,u],.int .i64 0])∧aA (Sep (Sep (aZ c g cap) (Got v Fr)) (dS u l)) S w w':=by
 have hb0:Below w.heap.size w ((w.alloc (.cells (aD c (.slice (some ⟨g,0,none⟩) c.shapes.length cap)) 34)).alloc (.cells #[.bool false,.slice none 0 0] 55)):=((Below.refl w.heap.size w).alloc (Nat.le_refl _) _).alloc (by simp) _
 have C0:Blk ((w.alloc (.cells (aD c (.slice (some ⟨g,0,none⟩) c.shapes.length cap)) 34)).alloc (.cells #[.bool false,.slice none 0 0] 55)) w.heap.size (aD c (.slice (some ⟨g,0,none⟩) c.shapes.length cap)) 34:=(Blk.new w _ _).alloc _
 have D0:Blk ((w.alloc (.cells (aD c (.slice (some ⟨g,0,none⟩) c.shapes.length cap)) 34)).alloc (.cells #[.bool false,.slice none 0 0] 55)) (w.heap.size+1) #[.bool false,.slice none 0 0] 55:=by have:=Blk.new (w.alloc (.cells (aD c (.slice (some ⟨g,0,none⟩) c.shapes.length cap)) 34)) #[.bool false,.slice none 0 0] 55;rw [World.size_alloc] at this;exact this
 have HB0:=zz hb0
 have HC0:=zz C0
 have HD0:=zz D0
 have g0:=((aA.begin h).alloc_ (.cells (aD c (.slice (some ⟨g,0,none⟩) c.shapes.length cap)) 34)).moreSt (St.fresh #[.bool false,.slice none 0 0] 55)
 rw [World.size_alloc] at g0
 have g0:=zz g0
 obtain ⟨gs,o,cp,rfl,h1,h2⟩:=bN g0.out.l.r.is
 have HK:=zz hc
 have HS:=zz hs
 have hl6:l.length≤6:=(hc.shape _ (List.mem_of_getElem? hs)).1
 have hFf:=hFr
 have HSZ:=zz fun (x1:Option Addr) (k1:Nat) w=>gW x1 l.length k1 w hl6
 have HF:=zz (plan_frags hc hFf g0.out.l.is)
 unfold cfV at*
 simp only [aD] at*
 clear h hc hb0 hs
 go_enter func289,ntmps289
 go_wp2_with fail
 generalize (w.alloc _).alloc _=W1 at*
 obtain ⟨c0,c1,c2,c3,c4,c5,c6,c7,c8⟩:=cf9 C0
 refine bA 1 fun F hF=>?_
 clear hF
 go_wp2_with fail
 refine qz HF.out fun w2 hb2=>?_
 have G2:=g0.out.below_ hb2
 have HA:=zz (dM (i:=0) HK.out G2.l.l.is HS.out)
 rw [show ((0:Nat):Int)=0 from rfl] at HA
 unfold cfV at HA
 have C2:=zz (aK HC0.out hb2)
 have D2:=zz (aK HD0.out hb2)
 have HG2:=zz G2
 clear c0 c1 c2 c3 c4 c5 c6 c7 c8 C0 D0 HC0 HD0 HB0 hb2 HF g0 G2
 obtain ⟨c0,c1,c2,c3,c4,c5,c6,c7,c8⟩:=cf9 C2.out
 go_wp2_with fail
 with_reducible refine HA.out.mono ?_
 rintro e w3 ht
 obtain ⟨u,rfl,hst⟩:=told_st ht
 obtain ⟨x1,k1,rfl⟩:=hst.1.choose_spec.1.1.slice
 have HST:=zz hst
 clear hst HA ht c0 c1 c2 c3 c4 c5 c6 c7 c8
 have HG3:=zz (HG2.out.moreSt HST.out)
 have C3:=zz (aK C2.out HST.out.below)
 have D3:=zz (aK D2.out HST.out.below)
 clear HG2 C2 D2 HST
 go_upto_region 3 with fail
 have hb4:=(Below.refl w3.heap.size w3).alloc (Nat.le_refl _) (.cells #[.bool false,.slice x1 l.length k1] 55)
 have HG4:=zz (HG3.out.below_ hb4)
 have C4:=zz (aK C3.out hb4)
 have D4:=zz (aK D3.out hb4)
 have E4:=zz (Blk.new w3 #[.bool false,.slice x1 l.length k1] 55)
 clear HG3 C3 D3 hb4
 generalize hsh:w3.heap.size=sh at*
 generalize w3.alloc _=w4 at*
 clear hsh
 obtain ⟨c0,c1,c2,c3,c4,c5,c6,c7,c8⟩:=cf9 C4.out
 have HCK:=zz (bY HK.out HG4.out.l.l.l.is)
 unfold cfV at HCK
 go_wp2_with fail
 refine qz HCK.out fun w5 hb=>?_
 have HG5:=zz (HG4.out.below_ hb)
 have D5:=zz (aK D4.out hb)
 have E5:=zz (aK E4.out hb)
 clear c0 c1 c2 c3 c4 c5 c6 c7 c8 HCK HG4 C4 D4 E4 hb
 have e0:=E5.out.cell 0
 have e1:=E5.out.cell 1
 simp at e0 e1
 go_wp2_with fail
 refine qz (HSZ.out _ _ _) fun w6 hb=>?_
 have HG6:=zz (HG5.out.below_ hb)
 have D6:=zz (aK D5.out hb)
 have E6:=zz (aK E5.out hb)
 clear e0 e1 HG5 D5 E5 hb
 have e0:=E6.out.cell 0
 have e1:=E6.out.cell 1
 simp at e0 e1
 go_wp2_with fail
 refine qz (HSZ.out _ _ _) fun w7 hb=>?_
 have HG7:=zz (HG6.out.below_ hb)
 have D7:=aK D6.out hb
 have E7:=aK E6.out hb
 clear e0 e1 HG6 D6 E6 hb HSZ
 have e0:=E7.cell 0
 have e1:=E7.cell 1
 have d0:=D7.cell 0
 have d1:=D7.cell 1
 have f0:=D7.free 0
 have f1:=D7.free 1
 have g8:=HG7.out.then (aG (aH (fun S h=>((aA.begin h).vput 0 (.bool false) rfl).vput 1 (.slice x1 l.length k1) rfl)))
 have r0:=g8.l.r.vb 0 false
 have r1:=g8.l.r.vC 1 (.slice x1 l.length k1)
 have HG8:aA (Sep (Sep (aZ c g cap) (Got (.slice (some ⟨gs,o,none⟩) 1 cp) Fr)) (dS (.slice x1 l.length k1) l)) S w _:=g8.drop (aU.both (aU.left _ _) (aU.refl _))
 have HG8:=zz HG8
 simp at e0 e1 d0 d1
 clear D7 E7 HG7 g8
 go_wp2_with fail
 apply wp_label
 go_wp2_with fail
 (try rw [aI])
 exact bodyPost_ret (v:=.tuple #[.agg #[.bool false,.slice x1 l.length k1],.int .i64 0]) (by simp [results,results289,go_sem,r0,r1]) rfl ⟨_,rfl,HG8.out⟩
end
def mq (l:List Bool) (q j:Nat):Value:=cx 0 (if j≤1 then 1 else if j-2<q∧l[j-2]? = some true then 1 else 0)
theorem mq_step (hr:l[q]? = some r):dH (mq l q) (2+q) (cx 0 (if r then 1 else 0))=mq l (q+1):=by
 funext j
 unfold dH mq
 by_cases e:j=2+q
 · subst e
   rw [if_pos rfl,if_neg (show ¬(2+q≤1) by omega)]
   have e2:2+q-2=q:=by omega
   rw [e2,hr]
   cases r<;>simp
 · rw [if_neg e]
   by_cases h1:j≤1
   · rw [if_pos h1,if_pos h1]
   · rw [if_neg h1,if_neg h1]
     have:(j-2<q∧l[j-2]? = some true)↔(j-2<q+1∧l[j-2]? = some true):=by
      constructor
      · rintro ⟨a,b⟩;exact ⟨by omega,b⟩
      · rintro ⟨a,b⟩;exact ⟨by omega,b⟩
     simp only [this]
theorem mq_end:mq l l.length=fun j=>cx 0 (plB l j):=by
 funext j
 unfold mq plB
 by_cases h1:j≤1
 · rw [if_pos h1,if_pos h1]
 · rw [if_neg h1,if_neg h1]
   have:(j-2<l.length∧l[j-2]? = some true)↔(l[j-2]? = some true):=⟨fun h=>h.2,fun h=>⟨(List.getElem?_eq_some_iff.1 h).1,h⟩⟩
   simp only [this]
section
theorem plan_fields (hl:l.length≤6) (h:(Sep (dS u l) (bV wb 8 331 (mq l 0))).at_ S w):
 Calls prog 291 #[.agg #[.bool false,u],.int .i64 0,.pointer (some ⟨wb,0,none⟩)] w fun e w'=>e=.returned (.tuple #[])∧aA (Sep (dS u l) (bV wb 8 331 (mq l l.length))) S w w':=by
 obtain ⟨x1,k1,hu⟩:=(aA.begin h).l.is.1.slice
 have g0:=zz ((aA.begin h).moreSt (St.fresh #[.bool false,u] 55))
 generalize hbx:w.heap.size=bx at g0
 have c1:=g0.out.r.vC 1 u
 have HSP:=zz fun (k:Nat) (w:World) (hk:k<l.length)=>fR x1 l.length k1 k w hl hk
 have HU:=zz hu
 rw [hu] at c1
 subst hu
 clear h
 go_enter func291,ntmps291
 go_upto_region 1 with fail
 generalize w.alloc _=W1 at*
 go_wp2_with fail
 go_loopw [6,7,8,9,10,14] (fun _ _ _ _ _ i wr=>∃ q:Nat,q≤l.length∧i=.int .i64 q∧aA (Sep (Sep (dS (.slice x1 l.length k1) l) (bV wb 8 331 (mq l q))) (Var bx #[.bool false,.slice x1 l.length k1] 55)) S w wr) (fun _ _ _ _ _ i _=>l.length-(intOf i).toNat)
 case atStart=>exact ⟨0,Nat.zero_le _,rfl,g0.out⟩
 case round=>
  clear g0 c1
  obtain ⟨q,hq,rfl,hs⟩:=hrel
  by_cases hlt:q<l.length
  · obtain ⟨r,hr⟩:∃ r,l[q]? = some r:=⟨l[q],List.getElem?_eq_getElem hlt⟩
    obtain ⟨rr,rfl,cr⟩:=hs.l.l.refs rfl hr
    have c0:=hs.r.vb 0 false
    have c1:=hs.r.vC 1 (.slice (some ⟨rr,0,none⟩) l.length k1)
    have HS:=zz hs
    have HR:=zz hr
    clear hs hr
    go_wp2_with fail
    refine qz (HSP.out q _ hlt) fun w2 hb=>?_
    have hs2:=HS.out.below_ hb
    have HB:=zz ((plan_blank r w2.drew).mono fun e w' ⟨h1,h2⟩=>(⟨h1,h2.symm⟩:e=Ending.returned (cx 0 (if r then 1 else 0))∧w'=w2.drew))
    obtain ⟨cb,hcb⟩:∃ k,(if r then 1 else 0)=k:=⟨_,rfl⟩
    have hs3:=hs2.drew_
    have q0:(w2.drew).cell? ⟨wb,2+q,none⟩=some (mq l q (2+q)):=aR hs3.l.r.is (by omega)
    have q1:(w2.drew).frozen? ⟨wb,2+q,none⟩=false:=bD hs3.l.r.is _
    have hs4:=zz (hs3.then (aG (aH (fun S h=>dE h (2+q) (cx 0 cb)))))
    rw [←hcb,mq_step HR.out,hcb] at hs4
    rw [hcb] at HB
    generalize mq l q (2+q)=old at*
    unfold cx at*
    generalize fl cb=fb at*
    generalize fl 0=f0 at*
    have hq8:(0:Int)≤2+(q:Int):=by omega
    have hq9:2+(q:Int)<8:=by omega
    have hq10:(2+(q:Int)).toNat=2+q:=by omega
    clear hs2 hs3 hcb
    clear HS c0 c1 cr hb
    go_upto_region 6 with fail
    go_still_tail 6,(by kernel_rfl)
    still_call HB.out
    repeat still_step
    refine wpStill_nil ?_
    change wpList _ _ _ _ _ w2.drew
    generalize w2.drew=w3 at*
    go_wp2_with fail
    go_round
    case rel=>exact ⟨q+1,by omega,by go_num,hs4.out⟩
    case measure=>simp [intOf];omega
  · obtain rfl:q=l.length:=by omega
    go_wp2_with fail
    go_end0
    exact ⟨rfl,hs.l⟩
end
end
end Go.Proofs.YtgcmiahhkalfmaaGreat
