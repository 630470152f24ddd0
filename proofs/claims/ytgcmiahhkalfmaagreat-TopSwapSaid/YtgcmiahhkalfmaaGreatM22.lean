import Derived.Test.YtgcmiahhkalfmaaGreatM21
set_option maxRecDepth 100000
set_option maxHeartbeats 8000000
set_option linter.unusedVariables false
set_option linter.unusedSimpArgs false
namespace Go.Proofs.YtgcmiahhkalfmaaGreat
attribute [local go_sem] aF aI aO aV
open Go.Proofs.Tryz
open Go.RowKit
variable {args:Array Value} {A:CA} {c:Cf} {f:FuncId} {g:List Nat} {F b cap cp i lg n no:Nat} {o:Nat→Int} {l:Nat→Lc} {y:Nat→Nat} {S:Nat→Prop} {m m':Nat→Value} {a:Option Addr} {P:Program} {q:Sw.Q} {x:Tc} {B C X:aC} {t:TypeId} {lv ov u v:Value} {w w':World} {p:World→Prop}
def wc (F:Nat) (y:Nat→Nat):Nat→List Value
 | 0=>[]
 | q+1=>wc F y q++[.int .i64 ((F:Int)*8+(q:Int)),.complex .f64 (fl 0) (y q)]
theorem wc_len (F:Nat) (y:Nat→Nat) (q:Nat):(wc F y q).length=q*2:=by
 induction q with
 | zero=>rfl
 | succ q ih=>simp [wc,ih];omega
def wordsV (x:Nat) (y:Nat→Nat):Value:=.agg #[.complex .f64 x (y 0),.complex .f64 x (y 1),.complex .f64 x (y 2),.complex .f64 x (y 3),.complex .f64 x (y 4),.complex .f64 x (y 5),.complex .f64 x (y 6),.complex .f64 x (y 7)]
def wordsC (x:Nat) (y:Nat→Nat):Array Value:=#[.complex .f64 x (y 0),.complex .f64 x (y 1),.complex .f64 x (y 2),.complex .f64 x (y 3),.complex .f64 x (y 4),.complex .f64 x (y 5),.complex .f64 x (y 6),.complex .f64 x (y 7)]
theorem Tryz.info289:(prog.info? 289).map (fun i=>(i.zero,i.size,i.bytes))=some (some (.agg #[.int .i64 0,.complex .f64 0 0]),2,24):=by kernel_rfl
theorem index_words (x:Nat) (y:Nat→Nat) (k:Nat) (hk:k<8) (w:World):(Instr.index 331 (wordsV x y) (.int .i64 (k:Int))).run prog w=.ok (.complex .f64 x (y k)) w:=by
 obtain ⟨i0,hi,hz0,hz1,hz2⟩:=info_parts Tryz.info25
 have hcase:k=0∨k=1∨k=2∨k=3∨k=4∨k=5∨k=6∨k=7:=by omega
 rcases hcase with rfl|rfl|rfl|rfl|rfl|rfl|rfl|rfl<;>
  simp [Instr.index,wordsV,run_underlying underlying331,sizeOf,typeInfo,hi,hz1,part,go_sem]
section
variable {g:Nat}
theorem plan_whole (hc:c.ok) (hF:F<c.frags) (h:(aZ c g cap).at_ S w):
 Calls prog 292 #[cfV c g cap,.slice none 0 0,.int .i64 (F:Int),wordsV (fl 0) y] w fun e w'=>∃ v,e=.returned v∧St w (cQ 289 2 v 8 (wc F y 8)) w':=by
 obtain ⟨i0,hi,hz0,hz1,hz2⟩:=info_parts Tryz.info289
 have hb0:Below w.heap.size w ((w.alloc (.cells (aD c (.slice (some ⟨g,0,none⟩) c.shapes.length cap)) 34)).alloc (.cells (wordsC (fl 0) y) 331)):=((Below.refl w.heap.size w).alloc (Nat.le_refl _) _).alloc (by simp) _
 have C0:Blk ((w.alloc (.cells (aD c (.slice (some ⟨g,0,none⟩) c.shapes.length cap)) 34)).alloc (.cells (wordsC (fl 0) y) 331)) w.heap.size (aD c (.slice (some ⟨g,0,none⟩) c.shapes.length cap)) 34:=(Blk.new w _ _).alloc _
 have D0:Blk ((w.alloc (.cells (aD c (.slice (some ⟨g,0,none⟩) c.shapes.length cap)) 34)).alloc (.cells (wordsC (fl 0) y) 331)) (w.heap.size+1) (wordsC (fl 0) y) 331:=by have:=Blk.new (w.alloc (.cells (aD c (.slice (some ⟨g,0,none⟩) c.shapes.length cap)) 34)) (wordsC (fl 0) y) 331;rw [World.size_alloc] at this;exact this
 have HB0:=zz hb0
 have HC0:=zz C0
 have HD0:=zz D0
 have g0:=zz ((aA.begin h).below_ hb0)
 have HK:=zz hc
 have HWL:=zz (wc_len F y)
 unfold cfV wordsV at*
 simp only [aD,wordsC] at*
 have HWC:∀ q,wc F y (q+1)=wc F y q++[.int .i64 ((F:Int)*8+(q:Int)),.complex .f64 (fl 0) (y q)]:=fun _=>rfl
 have HWC:=zz HWC
 generalize hW:wc F y=W at*
 have hW0:W 0=[]:=by rw [←hW];rfl
 generalize fl 0=f0 at*
 clear h hc hb0
 go_enter func292,ntmps292
 go_upto_region 1 with fail
 generalize (w.alloc _).alloc _=W1 at*
 have e0:=D0.cell 0
 have e1:=D0.cell 1
 have e2:=D0.cell 2
 have e3:=D0.cell 3
 have e4:=D0.cell 4
 have e5:=D0.cell 5
 have e6:=D0.cell 6
 have e7:=D0.cell 7
 simp at e0 e1 e2 e3 e4 e5 e6 e7
 clear C0 D0 HD0 hW
 go_wp2_with fail
 clear e0 e1 e2 e3 e4 e5 e6 e7
 go_loopw [1,9,10,11,12,14] (fun l _ _ _ _ i wr=>∃ (q:Nat) (v:Value),q≤8∧l=v∧i=.int .i64 q∧St W1 (cQ 289 2 v q (W q)) wr) (fun _ _ _ _ _ i _=>8-(intOf i).toNat)
 case atStart=>exact ⟨0,_,Nat.zero_le _,rfl,rfl,by rw [hW0];exact ⟨⟨_,eW _ _ _,fun k hk=>hk.elim⟩,Below.refl _ _⟩⟩
 case round=>
  obtain ⟨q,v,hq,rfl,rfl,hs⟩:=hrel
  have hnx:=hs.below
  by_cases hlt:q<8
  · have g2:=g0.out.below_ hnx
    have C2:=aK HC0.out hnx
    obtain ⟨c0,c1,c2,c3,c4,c5,c6,c7,c8⟩:=cf9 C2
    have HA:=zz (eQ F q HK.out g2.is hF hlt)
    unfold cfV at HA
    have HH:=zz hs
    clear hs hnx g2 C2
    have hix:=index_words f0 y q hlt
    unfold wordsV at hix
    go_wp2_with fail
    refine qz HA.out fun w2 hb=>?_
    have hs2:=HH.out.later hb
    have HX:=zz hs2.1.choose_spec.1.1
    have HS2:=zz hs2
    clear c0 c1 c2 c3 c4 c5 c6 c7 c8 HA HH hb hs2 hix
    go_wp2_with (at_builtin;refine bI rfl _ _ 154 rfl 289 i0 (.agg #[.int .i64 0,.complex .f64 0 0]) 2 24 underlying154 hi hz0 hz1 hz2 rfl (by decide) _ _ _ rfl (HX.out.alloc _) ⟨w2.heap.size,0,none⟩ 1 1 [.int .i64 ((F:Int)*8+(q:Int)),.complex .f64 f0 (y q)] rfl ?c0 ?c1 ?c2 ?c3 (by decide) ?_)
    case c0=>rfl
    case c1=>
     intro j u hj
     rw [bU,(Blk.new w2 #[.int .i64 ((F:Int)*8+(q:Int)),.complex .f64 f0 (y q)] 289).cell,Nat.zero_add]
     simpa using hj
    case c2=>intro u hu;simp at hu;rcases hu with rfl|rfl<;>rfl
    case c3=>omega
    intro v' w10 hown hg hbk
    have hg2:=HS2.out.goes (w':=w10) fun S h=>bS h ((Below.refl _ _).alloc (Nat.le_refl _) _) hown hg (by simpa using hbk)
    rw [←HWC.out q] at hg2
    have HG2:=zz hg2
    clear hown hg hbk hg2 HS2 HX
    go_wp2_with fail
    go_round
    case rel=>exact ⟨q+1,v',by omega,rfl,by go_num,HG2.out⟩
    case measure=>simp [intOf];omega
  · obtain rfl:q=8:=by omega
    go_wp2_with fail
    go_ret
    exact ⟨_,rfl,St.onward HB0.out hs⟩
end
theorem vals_congr {q:Nat} (hm:∀ j,j<n→m j=m' j) (h:(bV q n t m).at_ S w):(bV q n t m').at_ S w:=by
 obtain ⟨cs,h1,h2,h3,h4,h5⟩:=h
 exact ⟨cs,h1,h2,fun j hj=>by rw [←hm j hj];exact h3 j hj,h4,h5⟩
theorem vals_fill {q:Nat} (vs:List Value) (hl:vs.length=n) (hv:∀ j,j<n→vs[j]? = some (m' j)) (h:(bV q n t m).at_ S w):aA (bV q n t m') S w (setCells w q 0 vs):=by
 obtain ⟨cs,h1,h2,h3,h4,h5⟩:=h
 refine ⟨⟨S,⟨vs.toArray,h1.fill vs (by omega),by simpa using hl,fun j hj=>by simpa using hv j hj,h4,h5⟩,fun _ h=>.inl h⟩,?_⟩
 have:∀ (vs:List Value) (w0:World) (i:Nat),aY S w w0→aY S w (setCells w0 q i vs):=by
  intro vs
  induction vs with
  | nil=>intro w0 i h;exact h
  | cons v vs ih=>intro w0 i h;exact ih _ _ (h.setCell (.inl h4) v)
 exact this vs w 0 (aY.refl S w)
def yl (l:List Bool) (j:Nat):Nat:=fl (plB l j)
theorem aB.four {A D:aC} (h:(Sep (Sep (Sep A B) C) D).at_ S w):(Sep (Sep A C) (Sep B D)).at_ S w:=
 aB.assoc (aB.monoL (fun S h=>aB.assoc' (aB.monoR (fun S h=>aB.swap h) (aB.assoc h))) h)
theorem vals_zero8 (w:World) (z:Value) (t:TypeId):St w (bV w.heap.size 8 t fun _=>z) (w.alloc (.cells #[z,z,z,z,z,z,z,z] t)):=
 ⟨⟨fun k=>k=w.heap.size,⟨_,Blk.new w _ _,rfl,fun j hj=>by
  have hcase:j=0∨j=1∨j=2∨j=3∨j=4∨j=5∨j=6∨j=7:=by omega
  rcases hcase with rfl|rfl|rfl|rfl|rfl|rfl|rfl|rfl<;>rfl,rfl,fun _ h=>h⟩,fun k hk=>by omega⟩,(Below.refl _ _).alloc (Nat.le_refl _) _⟩
theorem aU.trans {A:aC} (h1:aU A B) (h2:aU B C):aU A C:=fun S w h=>by
 obtain ⟨S1,a,b⟩:=h1 S w h
 obtain ⟨S2,a2,b2⟩:=h2 S1 w a
 exact ⟨S2,a2,fun k hk=>b k (b2 k hk)⟩
section
variable {g Fr:Nat}
theorem plan_object {l:List Bool} (hc:c.ok) (hFr:Fr<c.frags) (hs:c.shapes[0]? = some (false,l)) (h:(Sep (aZ c g cap) (Got v Fr)).at_ S w):
 Calls prog 241 #[cfV c g cap,.int .i64 0,v] w fun e w'=>∃ u,e=.returned (.tuple #[u,.int .i64 0])∧aA (Sep (Sep (aZ c g cap) (Got v Fr)) (cQ 289 2 u 8 (wc Fr (yl l) 8))) S w w':=by
 have g0:=(aA.begin h).moreSt (St.fresh (aD c (.slice (some ⟨g,0,none⟩) c.shapes.length cap)) 34)
 obtain ⟨bx,hbx⟩:∃ bx,w.heap.size=bx:=⟨_,rfl⟩
 rw [hbx] at g0
 obtain ⟨gs,o,cp,rfl,h1,h2⟩:=bN g0.l.r.is
 have hl6:l.length≤6:=(hc.shape _ (List.mem_of_getElem? hs)).1
 have hFf:=hFr
 have HW:=zz (g0.callx (R:=fun u e=>e=.returned (.tuple #[.agg #[.bool false,u],.int .i64 0])) (O':=fun u=>Sep (Sep (Sep (aZ c g cap) (Got (.slice (some ⟨gs,o,none⟩) 1 cp) Fr)) (Var bx (aD c (.slice (some ⟨g,0,none⟩) c.shapes.length cap)) 34)) (dS u l))
  (aN.lX fun S h=>plan_wrong hc hFr hs h))
 obtain ⟨c0,c1,c2,c3,c4,c5,c6,c7,c8⟩:=cf9 (hY g0.swap)
 have HK:=zz hc
 clear h hs hc g0
 unfold cfV at*
 simp only [aD] at*
 go_enter func241,ntmps241
 go_wp2_with fail
 generalize w.alloc _=w1 at*
 refine bA 1 fun F hF=>?_
 clear hF
 go_wp2_with fail
 with_reducible refine HW.out.mono ?_
 rintro e w2 ⟨u,rfl,hg⟩
 obtain ⟨x1,k1,rfl⟩:=hg.r.is.1.slice
 have hg:=hg.moreSt (St.fresh #[.bool false,.slice x1 l.length k1] 55)
 have HG:=zz hg
 clear hg HW c0 c1 c2 c3 c4 c5 c6 c7 c8
 generalize hsb:w2.heap.size=sb at HG
 go_upto_region 2 with fail
 generalize w2.alloc _=w3 at*
 clear hsb
 have hg:=(HG.out.moreSt (vals_zero8 w3 (.complex .f64 0 0) 331)).conv fun S w h=>aB.four h
 have HG4:=zz hg
 generalize hwb:w3.heap.size=wb at HG4
 clear HG hg
 go_upto_region 6 with fail
 generalize w3.alloc _=w4 at*
 clear hwb
 go_wp2_with fail
 apply wp_label
 go_wp2_with fail
 refine qq (fE _) ?_
 have q0:=aR (j:=0) HG4.out.r.r.is (by omega)
 have q1:=aR (j:=1) HG4.out.r.r.is (by omega)
 have q2:=aR (j:=2) HG4.out.r.r.is (by omega)
 have q3:=aR (j:=3) HG4.out.r.r.is (by omega)
 have q4:=aR (j:=4) HG4.out.r.r.is (by omega)
 have q5:=aR (j:=5) HG4.out.r.r.is (by omega)
 have q6:=aR (j:=6) HG4.out.r.r.is (by omega)
 have q7:=aR (j:=7) HG4.out.r.r.is (by omega)
 have p0:=bD HG4.out.r.r.is 0
 have p1:=bD HG4.out.r.r.is 1
 have p2:=bD HG4.out.r.r.is 2
 have p3:=bD HG4.out.r.r.is 3
 have p4:=bD HG4.out.r.r.is 4
 have p5:=bD HG4.out.r.r.is 5
 have p6:=bD HG4.out.r.r.is 6
 have p7:=bD HG4.out.r.r.is 7
 have HG5:=zz (HG4.out.then (aH (aH (fun S h=>vals_fill (n:=8) (m':=fun j=>if j=0 then cJ else .complex .f64 0 0) [cJ,.complex .f64 0 0,.complex .f64 0 0,.complex .f64 0 0,.complex .f64 0 0,.complex .f64 0 0,.complex .f64 0 0,.complex .f64 0 0] rfl (fun j hj=>by
  have hcase:j=0∨j=1∨j=2∨j=3∨j=4∨j=5∨j=6∨j=7:=by omega
  rcases hcase with rfl|rfl|rfl|rfl|rfl|rfl|rfl|rfl<;>rfl) h))))
 unfold cJ at*
 simp only [setCells] at HG5
 clear HG4
 go_upto_region 9 with fail
 generalize World.setCell _ _ _=w5 at*
 clear q0 q1 q2 q3 q4 q5 q6 q7 p0 p1 p2 p3 p4 p5 p6 p7
 have HH0:=word_head 0 0 w5 (by omega) (by omega)
 unfold cx at HH0
 rw [fl0] at HH0
 simp only [Int.natCast_zero] at HH0
 go_wp2_with fail
 refine qq (HH0) ?_
 clear HH0
 have q1:w5.cell? ⟨wb,1,none⟩=some (.complex .f64 0 0):=aR HG5.out.r.r.is (by omega)
 have p1:=bD HG5.out.r.r.is 1
 have HG6:=zz (HG5.out.then (aH (aH (fun S h=>dE h 1 (.complex .f64 0 0)))))
 clear HG5
 go_upto_region 10 with fail
 generalize World.setCell _ _ _=w6 at*
 clear q1 p1
 go_wp2_with fail
 refine qq (stock_side _ _ _) ?_
 have HH0:=word_head 0 1 w6 (by omega) (by omega)
 unfold cx at HH0
 rw [fl0,fl1] at HH0
 simp only [Int.natCast_zero] at HH0
 rw [show ((1:Nat):Int)=1 from rfl] at HH0
 go_wp2_with fail
 refine qq (HH0) ?_
 clear HH0
 have q1:w6.cell? ⟨wb,1,none⟩=some (.complex .f64 0 0):=aR HG6.out.r.r.is (by omega)
 have p1:=bD HG6.out.r.r.is 1
 have HG7:=HG6.out.then (aH (aH (fun S h=>dE h 1 (.complex .f64 0 4607182418800017408))))
 have HG7:=zz (HG7.conv fun S w h=>aB.monoR (fun S h=>aB.monoR (fun S h=>vals_congr (m':=mq l 0) (fun j hj=>by
  have hcase:j=0∨j=1∨j=2∨j=3∨j=4∨j=5∨j=6∨j=7:=by omega
  rcases hcase with rfl|rfl|rfl|rfl|rfl|rfl|rfl|rfl<;>simp [dH,mq,cx,fl0,fl1]) h) h) h)
 clear HG6
 go_upto_region 12 with fail
 generalize World.setCell _ _ _=w7 at*
 clear q1 p1
 have s0:=HG7.out.l.r.vb 0 false
 have s1:=HG7.out.l.r.vC 1 (.slice x1 l.length k1)
 have HFL:=zz (HG7.out.call (cY fun S h=>plan_fields hl6 h))
 clear HG7
 go_wp2_with fail
 refine qz (HFL.out) fun w8 hg=>?_
 clear HFL s0 s1
 have HG8:=zz hg
 have G9:=hg.drew_
 obtain ⟨c0,c1,c2,c3,c4,c5,c6,c7,c8⟩:=cf9 (hY G9.l.l.swap)
 have gq:=G9.l.l.l.r.seq (i:=0) (x:=.int .i64 (Fr:Int)) rfl
 have v0:=aR (j:=0) G9.r.r.is (by omega)
 have v1:=aR (j:=1) G9.r.r.is (by omega)
 have v2:=aR (j:=2) G9.r.r.is (by omega)
 have v3:=aR (j:=3) G9.r.r.is (by omega)
 have v4:=aR (j:=4) G9.r.r.is (by omega)
 have v5:=aR (j:=5) G9.r.r.is (by omega)
 have v6:=aR (j:=6) G9.r.r.is (by omega)
 have v7:=aR (j:=7) G9.r.r.is (by omega)
 rw [mq_end] at v0 v1 v2 v3 v4 v5 v6 v7
 unfold cx at v0 v1 v2 v3 v4 v5 v6 v7
 have HWH:=zz (plan_whole (y:=yl l) HK.out hFf G9.l.l.l.l.is)
 unfold cfV wordsV yl at HWH
 simp only [Nat.add_zero] at gq
 clear hg
 go_wp2_with fail
 refine wp_region_held_drew (S:=(fun w'=>w'.cell? ⟨bx,0,none⟩=some (.int .i64 c.frags)∧w'.cell? ⟨bx,1,none⟩=some (.int .i64 c.spine)∧w'.cell? ⟨bx,2,none⟩=some (.int .i64 c.globals)∧w'.cell? ⟨bx,3,none⟩=some (.int .i64 c.threads)∧w'.cell? ⟨bx,4,none⟩=some (.int .i64 c.locals)∧w'.cell? ⟨bx,5,none⟩=some (.int .i64 0)∧w'.cell? ⟨bx,6,none⟩=some (.int .i64 c.stack)∧w'.cell? ⟨bx,7,none⟩=some (.int .i64 c.low)∧w'.cell? ⟨bx,8,none⟩=some (.slice (some ⟨g,0,none⟩) c.shapes.length cap)∧w'.cell? ⟨gs,o,none⟩=some (.int .i64 (Fr:Int))∧w'.cell? ⟨wb,0,none⟩=some (.complex .f64 (fl 0) (fl (plB l 0)))∧w'.cell? ⟨wb,1,none⟩=some (.complex .f64 (fl 0) (fl (plB l 1)))∧w'.cell? ⟨wb,2,none⟩=some (.complex .f64 (fl 0) (fl (plB l 2)))∧w'.cell? ⟨wb,3,none⟩=some (.complex .f64 (fl 0) (fl (plB l 3)))∧w'.cell? ⟨wb,4,none⟩=some (.complex .f64 (fl 0) (fl (plB l 4)))∧w'.cell? ⟨wb,5,none⟩=some (.complex .f64 (fl 0) (fl (plB l 5)))∧w'.cell? ⟨wb,6,none⟩=some (.complex .f64 (fl 0) (fl (plB l 6)))∧w'.cell? ⟨wb,7,none⟩=some (.complex .f64 (fl 0) (fl (plB l 7))))) (by kernel_rfl) ⟨c0,c1,c2,c3,c4,c5,c6,c7,c8,gq,v0,v1,v2,v3,v4,v5,v6,v7⟩ (fun hHeld=>?_)
 refine tk 0 ?_
 refine tk 1 ?_
 refine tk 2 ?_
 refine tk 3 ?_
 refine tk 4 ?_
 refine tk 5 ?_
 refine tk 6 ?_
 refine rdy 7 fun K hK=>?_
 go_simp
 with_reducible refine HWH.out.mono ?_
 rintro e w9 ⟨u,rfl,hst⟩
 have G10:=HG8.out.drew_.moreSt hst
 clear hHeld HWH c0 c1 c2 c3 c4 c5 c6 c7 c8 gq v0 v1 v2 v3 v4 v5 v6 v7 G9 HG8 hst
 have HF:=zz (G10.drop (aU.both (aU.trans (aU.left _ _) (aU.trans (aU.left _ _) (aU.left _ _))) (aU.refl _)))
 obtain ⟨c0,c1,c2,c3,c4,c5,c6,c7,c8⟩:=cf9 (hY G10.l.l.l.swap)
 have gq:=G10.l.l.l.l.r.seq (i:=0) (x:=.int .i64 (Fr:Int)) rfl
 have v0:=aR (j:=0) G10.l.r.r.is (by omega)
 have v1:=aR (j:=1) G10.l.r.r.is (by omega)
 have v2:=aR (j:=2) G10.l.r.r.is (by omega)
 have v3:=aR (j:=3) G10.l.r.r.is (by omega)
 have v4:=aR (j:=4) G10.l.r.r.is (by omega)
 have v5:=aR (j:=5) G10.l.r.r.is (by omega)
 have v6:=aR (j:=6) G10.l.r.r.is (by omega)
 have v7:=aR (j:=7) G10.l.r.r.is (by omega)
 rw [mq_end] at v0 v1 v2 v3 v4 v5 v6 v7
 unfold cx at v0 v1 v2 v3 v4 v5 v6 v7
 simp only [Nat.add_zero] at gq
 clear G10
 go_wp2_with fail
 refine hK.out _ _ ⟨c0,c1,c2,c3,c4,c5,c6,c7,c8,gq,v0,v1,v2,v3,v4,v5,v6,v7⟩ (fun hHeld=>?_)
 clear hK K c0 c1 c2 c3 c4 c5 c6 c7 c8 gq v0 v1 v2 v3 v4 v5 v6 v7
 try simp only [Act.put,List.setIfInBounds_toArray,List.set_cons_zero,List.set_cons_succ]
 refine tk 8 ?_
 refine wpAnyH_done (by kernel_rfl) ?_ _
 go_wp2_with fail
 (try rw [aI])
 go_ret2
 exact ⟨u,rfl,HF.out⟩
end
theorem Tryz.info39:(prog.info? 39).map (fun i=>(i.zero,i.size,i.bytes))=some (some (.agg #[.bool false,.complex .f64 0 0]),2,24):=by kernel_rfl
section
variable {t:Nat}
theorem core_own (h:aJ P f args w (HnQ A.bh c.threads q) v (HnQ A.bh c.threads {q with own:=o})):aJ P f args w (aE A c q) v (aE A c {q with own:=o}):=core_hn (st:=q.st) (sn:=q.sn) h
theorem core_grey (hc:c.ok) (hi:i<c.frags) (hu:(q.t i).hd=true→(q.t i).st=2) (hp:q.pl.length≤c.stack) (s:Bool) (w:World):
 aJ prog 128 #[.pointer (some ⟨A.bs,0,none⟩),.int .i64 (i:Int),.bool s] w (aE A c q) (.bool ((q.t i).hd&&!q.blk i s)) (aE A c (q.grey c i s)):=fV (sh_grey hi hu hp (by have:=hc.stack;omega) w) (jF q c i s)
def Gry (v:Value):List Nat→aC
 | []=>Emp
 | i::g=>Seq 1 v (g.length+1) (jO (i::g))
theorem act_answers_grey (hc:c.ok) (hi:i<c.frags) (hu:(q.t i).hd=true→(q.t i).st=2) (hp:q.pl.length≤c.stack) (hpc:x.pc=1) (hv:x.grey=v) (h:(Sep (Sep (aE A c q) (Thr b t ov lv x X)) (Gry v (i::g))).at_ S w):
 Calls prog 146 #[.pointer (some ⟨b,0,none⟩),.pointer (some ⟨A.b,0,none⟩)] w fun e w'=>∃ v',e=.returned (.bool false)∧aA (Sep (Sep (aE A c (q.grey c i x.sn)) (Thr b t ov lv {x with grey:=v',pc:=gpc g} X)) (Gry v' g)) S w w':=by
 have h:(Sep (Sep (aE A c q) (Thr b t ov lv x X)) (Seq 1 v (g.length+1) (jO (i::g)))).at_ S w:=h
 obtain ⟨gs,o,cp,rfl,h1,h2⟩:=bN (aA.begin h).r.is
 have g0:=aA.begin h
 have g1:=g0.drew_
 have k10:=g1.l.l.cp 10 A.bs
 have c7:=g0.l.r.ci 7 x.pc
 rw [hpc] at c7
 have d9:=g1.l.r.cC 9 x.grey
 rw [hv] at d9
 have d5:=g1.l.r.cb 5 x.sn
 have ds:=g1.r.seq (i:=0) (x:=.int .i64 (i:Int)) rfl
 have HL:=zz ((core_grey hc hi hu hp x.sn _).l.l.on g1)
 have HV:=zz hv
 have HX:=zz hpc
 clear g0 g1 h hv hpc hu hp hc
 simp only [Nat.add_zero] at ds
 obtain ⟨N,hN⟩:∃ N,g.length+1=N:=⟨_,rfl⟩
 rw [hN] at d9 HL HV h1
 have hN1:1≤N:=by omega
 have hN9:N≤maxLen:=by omega
 have hN0:(0:Int)<(N:Int):=by omega
 have hN00:0<N:=by omega
 generalize ((q.t i).hd&&!q.blk i x.sn)=rb at*
 go_enter func146,ntmps146
 go_wp2_with fail
 go_still_tail 14,(by kernel_rfl)
 change wpList _ _ _ _ _ w.drew
 generalize w.drew=w1 at*
 go_wp2_with fail
 refine qz HL.out fun w2 hg=>?_
 have e9:=hg.l.r.cC 9 x.grey
 rw [HV.out] at e9
 have f9:=hg.l.r.fr 9
 have HG:=zz hg
 clear HL hg k10 d9 d5 ds c7
 cases g with
 | nil=>
  obtain rfl:1=N:=hN
  have hcw:cp=1∨2≤cp:=by omega
  rcases hcw with rfl|hcw
  · have g3:aA (Sep (aE A c (q.grey c i x.sn)) (Thr b t ov lv {x with grey:=.slice (some ⟨gs,o,none⟩) 0 0} X)) S w _:=HG.out.l.then (aH (fun S h=>(aA.begin h).put 9 (.slice (some ⟨gs,o,none⟩) 0 0) (cs':=aM t ov lv {x with grey:=.slice (some ⟨gs,o,none⟩) 0 0}) rfl))
    have d9:=g3.r.cC 9 (.slice (some ⟨gs,o,none⟩) 0 0)
    have d7:=g3.r.ci 7 x.pc
    have f7:=g3.r.fr 7
    have g4:aA (Sep (aE A c (q.grey c i x.sn)) (Thr b t ov lv {x with grey:=.slice (some ⟨gs,o,none⟩) 0 0,pc:=2} X)) S w _:=g3.then (aH (fun S h=>(aA.begin h).put 7 (.int .i64 2) (cs':=aM t ov lv {x with grey:=.slice (some ⟨gs,o,none⟩) 0 0,pc:=2}) rfl))
    have G4:=zz (g4.moreSt ⟨⟨fun _=>False,fun _=>id,fun _ h=>h.elim⟩,Below.refl _ _⟩:aA (Sep _ (Gry (.slice (some ⟨gs,o,none⟩) 0 0) [])) S w _)
    clear HG g3 g4
    go_wp2_with fail
    go_ret
    exact ⟨_,rfl,G4.out⟩
  · have g3:aA (Sep (aE A c (q.grey c i x.sn)) (Thr b t ov lv {x with grey:=.slice (some ⟨gs,o+1,none⟩) 0 (cp-1)} X)) S w _:=HG.out.l.then (aH (fun S h=>(aA.begin h).put 9 (.slice (some ⟨gs,o+1,none⟩) 0 (cp-1)) (cs':=aM t ov lv {x with grey:=.slice (some ⟨gs,o+1,none⟩) 0 (cp-1)}) rfl))
    have d9:=g3.r.cC 9 (.slice (some ⟨gs,o+1,none⟩) 0 (cp-1))
    have d7:=g3.r.ci 7 x.pc
    have f7:=g3.r.fr 7
    have g4:aA (Sep (aE A c (q.grey c i x.sn)) (Thr b t ov lv {x with grey:=.slice (some ⟨gs,o+1,none⟩) 0 (cp-1),pc:=2} X)) S w _:=g3.then (aH (fun S h=>(aA.begin h).put 7 (.int .i64 2) (cs':=aM t ov lv {x with grey:=.slice (some ⟨gs,o+1,none⟩) 0 (cp-1),pc:=2}) rfl))
    have G4:=zz (g4.moreSt ⟨⟨fun _=>False,fun _=>id,fun _ h=>h.elim⟩,Below.refl _ _⟩:aA (Sep _ (Gry (.slice (some ⟨gs,o+1,none⟩) 0 (cp-1)) [])) S w _)
    clear HG g3 g4
    go_wp2_with fail
    go_ret
    exact ⟨_,rfl,G4.out⟩
 | cons i2 g=>
  have hcw:2≤cp:=by simp only [List.length_cons] at hN;omega
  have hN2:g.length+1=N-1:=by simp only [List.length_cons] at hN;omega
  have hz1:¬(N-1=0):=by omega
  have hz2:¬(((N-1:Nat):Int)=0):=by omega
  have g3:aA (Sep (Sep (aE A c (q.grey c i x.sn)) (Thr b t ov lv {x with grey:=.slice (some ⟨gs,o+1,none⟩) (N-1) (cp-1)} X)) (Seq 1 (.slice (some ⟨gs,o,none⟩) N cp) N (jO (i::i2::g)))) S w _:=HG.out.then (aG (aH (fun S h=>(aA.begin h).put 9 (.slice (some ⟨gs,o+1,none⟩) (N-1) (cp-1)) (cs':=aM t ov lv {x with grey:=.slice (some ⟨gs,o+1,none⟩) (N-1) (cp-1)}) rfl)))
  have d9:=g3.l.r.cC 9 (.slice (some ⟨gs,o+1,none⟩) (N-1) (cp-1))
  have e9':({x with grey:=.slice (some ⟨gs,o+1,none⟩) (N-1) (cp-1),pc:=1}:Tc)={x with grey:=.slice (some ⟨gs,o+1,none⟩) (N-1) (cp-1)}:=by rw [←HX.out]
  have g4:aA (Sep (Sep (aE A c (q.grey c i x.sn)) (Thr b t ov lv {x with grey:=.slice (some ⟨gs,o+1,none⟩) (N-1) (cp-1),pc:=1} X)) (Gry (.slice (some ⟨gs,o+1,none⟩) (N-1) (cp-1)) (i2::g))) S w _:=g3.conv fun S w h=>by
   rw [e9']
   refine aB.monoR (fun S h=>?_) h
   subst hN
   simp only [List.length_cons] at h ⊢
   exact seq_tail (n:=g.length+1) (ys:=[.int .i64 (i:Int)]) rfl h
  have G4:=zz g4
  clear g4 e9'
  clear HG g3
  go_wp2_with fail
  go_ret
  exact ⟨_,rfl,G4.out⟩
theorem gN (hpc:x.pc=2) (ht:t<c.threads) (hc:c.ok) (ho:q.own t≠-1) (hs0:0≤x.seen) (hs4:x.seen≤4) (h:(Sep (aE A c q) (Thr b t ov lv x X)).at_ S w):
 Calls prog 146 #[.pointer (some ⟨b,0,none⟩),.pointer (some ⟨A.b,0,none⟩)] w fun e w'=>e=.returned (.bool true)∧aA (Sep (aE A c {q with own:=Sw.set q.own t x.seen}) (Thr b t ov lv {x with st:=x.seen} X)) S w w':=by
 have g0:=aA.begin h
 have g1:=g0.drew_
 have k12:=g1.l.cp 12 A.bh
 have c7:=g0.r.ci 7 x.pc
 rw [hpc] at c7
 have d0:=g1.r.ci 0 (t:Int)
 have d8:=g1.r.ci 8 x.seen
 have HL:=zz ((core_own (hq_answer x.seen ht hc.threads.2 ho hs0 hs4 _)).l.on g1)
 clear g0 g1 h hpc hc ho
 go_enter func146,ntmps146
 go_wp2_with fail
 go_still_tail 12,(by kernel_rfl)
 change wpList _ _ _ _ _ w.drew
 generalize w.drew=w1 at*
 go_wp2_with fail
 refine qz HL.out fun w2 hg=>?_
 have e8:=hg.r.ci 8 x.seen
 have e4:=hg.r.ci 4 x.st
 have f4:=hg.r.fr 4
 have g3:aA (Sep (aE A c {q with own:=Sw.set q.own t x.seen}) (Thr b t ov lv {x with st:=x.seen} X)) S w _:=hg.then (aH (fun S h=>(aA.begin h).put 4 (.int .i64 x.seen) (cs':=aM t ov lv {x with st:=x.seen}) rfl))
 have HG:=zz g3
 clear HL hg k12 d0 d8 c7 g3
 go_wp2_with fail
 go_ret
 exact ⟨rfl,HG.out⟩
end
def zl:Nat→List Value
 | 0=>[]
 | n+1=>.bool false::.complex .f64 0 0::zl n
theorem zl_len (n:Nat):(zl n).length=n*2:=by
 induction n with
 | zero=>rfl
 | succ n ih=>simp [zl,ih];omega
theorem zl_get (n j:Nat) (h:j<n*2):(zl n)[j]? = some (cG (fun _=>⟨false,0,0⟩) j):=by
 induction n generalizing j with
 | zero=>omega
 | succ n ih=>
  match j,h with
  | 0,_=>rfl
  | 1,_=>show some (Value.complex .f64 0 0)=_;unfold cG cx;simp [fl0]
  | j+2,h=>
   show (zl n)[j]? = _
   rw [ih j (by omega)]
   unfold cG
   have e1:(j+2)%2=j%2:=by omega
   rw [e1]
theorem zl_cells (n:Nat):(Builtin.zeroCells (Value.agg #[.bool false,.complex .f64 0 0]).cells n).toList=zl n:=by
 apply List.ext_getElem?
 intro j
 by_cases h:j<n*2
 · rw [zl_get n j h]
   simp [Builtin.zeroCells,Value.cells,h]
   unfold cG cx
   rcases Nat.mod_two_eq_zero_or_one j with e|e
   · rw [if_pos e];simp [e]
   · rw [if_neg (by omega)];simp [e,fl0]
 · rw [List.getElem?_eq_none (l:=zl n) (by rw [zl_len];omega),List.getElem?_eq_none (by simp [Builtin.zeroCells,Value.cells];omega)]
section
variable {t:Nat}
theorem run_clear_locals (hn:0<n) (h:(bV lg (n*2) 39 m).at_ S w) (ty:TypeId):(Builtin.clear_ #[59] ty #[.slice (some ⟨lg,0,none⟩) n n]).run prog w=.ok (.tuple #[]) (setCells w lg 0 (zl n)):=by
 obtain ⟨i0,hi,hz0,hz1,hz2⟩:=info_parts Tryz.info39
 have hv:∀ w,(zeroValue 39).run prog w=.ok (.agg #[.bool false,.complex .f64 0 0]) w:=fun w=>by simp [zeroValue,typeInfo,hi,hz0]
 have hst:=run_storeCells_cells (P:=prog) lg 0 (zl n) 0 w (fun j hj=>by rw [zl_len] at hj;simp only [Nat.zero_add];rw [aR h hj];rfl) (fun j hj=>by simpa using bD h j) (fun v hv'=>by
  obtain ⟨j,hj⟩:=List.mem_iff_getElem?.1 hv'
  have hl:j<(zl n).length:=(List.getElem?_eq_some_iff.1 hj).1
  rw [zl_len] at hl
  rw [zl_get n j hl] at hj
  cases hj
  unfold cG cx;split<;>rfl)
 simp only [Nat.add_zero] at hst
 rw [iL] at hst
 obtain ⟨k,rfl⟩:∃ k,n=k+1:=⟨n-1,by omega⟩
 simp [Builtin.clear_,run_underlying underlying59,hv,zl_cells,hst]
theorem act_goes (ht:t<c.threads) (hn:0<n) (hc:c.ok) (ho:q.own t≠-1) (h:(Sep (aE A c q) (aT b t ov lg n x l X)).at_ S w):
 Calls prog 148 #[.pointer (some ⟨b,0,none⟩),.pointer (some ⟨A.b,0,none⟩)] w fun e w'=>e=.returned (.tuple #[])∧aA (Sep (aE A c {q with own:=Sw.set q.own t (-1)}) (aT b t ov lg n {x with ph:=4} (fun _=>⟨false,0,0⟩) X)) S w w':=by
 have g1:=(aA.begin h).drew_
 have k12:=g1.l.cp 12 A.bh
 have d0:=g1.r.ci 0 (t:Int)
 have HL:=zz ((core_own (hq_leave ht hc.threads.2 ho _)).l.on g1)
 clear g1 h hc ho
 go_enter func148,ntmps148
 go_wp2_with fail
 go_still_tail 8,(by kernel_rfl)
 change wpList _ _ _ _ _ w.drew
 generalize w.drew=w1 at*
 go_wp2_with fail
 refine qz HL.out fun w2 hg=>?_
 have e3:=hg.r.ci 3 x.ph
 have f3:=hg.r.fr 3
 have g3:aA (Sep (aE A c {q with own:=Sw.set q.own t (-1)}) (aT b t ov lg n {x with ph:=4} l X)) S w _:=hg.then (aH (fun S h=>(aA.begin h).put 3 (.int .i64 4) (cs':=aM t ov (.slice (some ⟨lg,0,none⟩) n n) {x with ph:=4}) rfl))
 have HG:=zz g3
 clear HL hg k12 d0 g3
 go_upto_region 2 with fail
 generalize World.setCell _ _ _=w3 at*
 clear e3 f3
 have e2:=HG.out.r.cC 2 (.slice (some ⟨lg,0,none⟩) n n)
 have hcl:=run_clear_locals hn HG.out.r.r.l.is
 have g4:aA (Sep (aE A c {q with own:=Sw.set q.own t (-1)}) (aT b t ov lg n {x with ph:=4} (fun _=>⟨false,0,0⟩) X)) S w _:=HG.out.then (aH (aH (aG (fun S h=>vals_fill (m':=cG fun _=>⟨false,0,0⟩) (zl n) (zl_len n) (fun j hj=>zl_get n j hj) h))))
 have G4:=zz g4
 clear HG g4
 go_wp2_with fail
 go_end0
 exact ⟨rfl,G4.out⟩
end
section
variable {t:Nat}
theorem act_border_no (h7:w.cell? ⟨b,7,none⟩=some (.int .i64 0)) (hL:Calls prog 145 #[.pointer (some ⟨b,0,none⟩),.pointer (some ⟨A.b,0,none⟩)] w fun e w'=>e=.returned (.bool false)∧p w'):
 Calls prog 76 #[.pointer (some ⟨b,0,none⟩),.pointer (some ⟨A.b,0,none⟩)] w fun e w'=>e=.returned (.tuple #[])∧p w':=by
 have HL:=zz hL
 clear hL
 go_enter func76,ntmps76
 go_wp2_with fail
 refine qz HL.out fun w2 hg=>?_
 have HG:=zz hg
 clear HL hg h7
 go_wp2_with fail
 go_end0
 exact ⟨rfl,HG.out⟩
theorem act_border_grey (h7:w.cell? ⟨b,7,none⟩=some (.int .i64 1)) (hL:Calls prog 146 #[.pointer (some ⟨b,0,none⟩),.pointer (some ⟨A.b,0,none⟩)] w fun e w'=>e=.returned (.bool false)∧p w'):
 Calls prog 76 #[.pointer (some ⟨b,0,none⟩),.pointer (some ⟨A.b,0,none⟩)] w fun e w'=>e=.returned (.tuple #[])∧p w':=by
 have HL:=zz hL
 clear hL
 go_enter func76,ntmps76
 go_wp2_with fail
 refine qz HL.out fun w2 hg=>?_
 have HG:=zz hg
 clear HL hg h7
 go_wp2_with fail
 go_end0
 exact ⟨rfl,HG.out⟩
theorem act_border_leave (h7:w.cell? ⟨b,7,none⟩=some (.int .i64 4)) (hL:Calls prog 148 #[.pointer (some ⟨b,0,none⟩),.pointer (some ⟨A.b,0,none⟩)] w fun e w'=>e=.returned (.tuple #[])∧p w'):
 Calls prog 76 #[.pointer (some ⟨b,0,none⟩),.pointer (some ⟨A.b,0,none⟩)] w fun e w'=>e=.returned (.tuple #[])∧p w':=by
 have HL:=zz hL
 clear hL
 go_enter func76,ntmps76
 go_wp2_with fail
 refine qz HL.out fun w2 hg=>?_
 have HG:=zz hg
 clear HL hg h7
 go_wp2_with fail
 go_end0
 exact ⟨rfl,HG.out⟩
theorem act_border_give (hpc:x.pc=2) (ht:t<c.threads) (hc:c.ok) (ho:q.own t≠-1) (hs0:0≤x.seen) (hs4:x.seen≤4) (h:(Sep (aE A c q) (Thr b t ov lv x X)).at_ S w):
 Calls prog 76 #[.pointer (some ⟨b,0,none⟩),.pointer (some ⟨A.b,0,none⟩)] w fun e w'=>e=.returned (.tuple #[])∧aA (Sep (aE A c {q with own:=Sw.set q.own t x.seen}) (Thr b t ov lv {x with st:=x.seen,pc:=0} X)) S w w':=by
 have c7:=(aA.begin h).r.ci 7 x.pc
 rw [hpc] at c7
 have HL:=zz (gN hpc ht hc ho hs0 hs4 h)
 clear h
 go_enter func76,ntmps76
 go_wp2_with fail
 refine qz HL.out fun w2 hg=>?_
 have d7:=hg.r.ci 7 x.pc
 have f7:=hg.r.fr 7
 have g3:aA (Sep (aE A c {q with own:=Sw.set q.own t x.seen}) (Thr b t ov lv {x with st:=x.seen,pc:=0} X)) S w _:=hg.then (aH (fun S h=>(aA.begin h).put 7 (.int .i64 0) (cs':=aM t ov lv {x with st:=x.seen,pc:=0}) rfl))
 have HG:=zz g3
 clear HL hg c7 g3
 go_wp2_with fail
 go_end0
 exact ⟨rfl,HG.out⟩
theorem act_border_drain (hpc:x.pc=3) (ht:t<c.threads) (h:(Sep (aE A c q) (Thr b t ov lv x X)).at_ S w):
 Calls prog 76 #[.pointer (some ⟨b,0,none⟩),.pointer (some ⟨A.b,0,none⟩)] w fun e w'=>e=.returned (.tuple #[])∧aA (Sep (aE A c q) (Thr b t ov lv {x with pc:=4} X)) S w w':=by
 have g1:=(aA.begin h).drew_
 have c7:=(aA.begin h).r.ci 7 x.pc
 rw [hpc] at c7
 have k11:=g1.l.cp 11 A.bsp
 have d0:=g1.r.ci 0 (t:Int)
 have HL:=zz ((iT (sp_drain ht _)).l.on g1)
 clear g1 h hpc
 go_enter func76,ntmps76
 go_wp2_with fail
 go_still_tail 8,(by kernel_rfl)
 change wpList _ _ _ _ _ w.drew
 generalize w.drew=w1 at*
 go_wp2_with fail
 refine qz HL.out fun w2 hg=>?_
 have d7:=hg.r.ci 7 x.pc
 have f7:=hg.r.fr 7
 have g3:aA (Sep (aE A c q) (Thr b t ov lv {x with pc:=4} X)) S w _:=hg.then (aH (fun S h=>(aA.begin h).put 7 (.int .i64 4) (cs':=aM t ov lv {x with pc:=4}) rfl))
 have HG:=zz g3
 clear HL hg c7 g3 k11 d0
 go_wp2_with fail
 go_end0
 exact ⟨rfl,HG.out⟩
theorem act_border_end (hov:ov=.slice a no cp) (hpc:x.pc=0) (hst:q.st=x.st) (hnx:no≤x.nx) (h:(Sep (aE A c q) (Thr b t ov lv x X)).at_ S w):
 Calls prog 76 #[.pointer (some ⟨b,0,none⟩),.pointer (some ⟨A.b,0,none⟩)] w fun e w'=>e=.returned (.tuple #[])∧aA (Sep (aE A c q) (Thr b t ov lv {x with pc:=3} X)) S w w':=by
 have c7:=(aA.begin h).r.ci 7 x.pc
 rw [hpc] at c7
 have HL:=zz (iE hst h)
 have HO:=zz hov
 clear h hov hst
 go_enter func76,ntmps76
 go_wp2_with fail
 refine qz HL.out fun w2 hg=>?_
 have c6:=hg.r.ci 6 (x.nx:Int)
 have c1:=hg.r.cC 1 ov
 rw [HO.out] at c1
 have hg1:=hg.drewN_
 have HG:=zz hg
 have hd:decide ((no:Int)≤(x.nx:Int))=true:=by simp;omega
 clear HL hg c7 hg1
 go_wp2_with fail
 go_quiet (fail)
 have g2:=HG.out.drewN_ nq
 have d7:=g2.r.ci 7 x.pc
 have f7:=g2.r.fr 7
 have g3:aA (Sep (aE A c q) (Thr b t ov lv {x with pc:=3} X)) S w _:=g2.then (aH (fun S h=>(aA.begin h).put 7 (.int .i64 3) (cs':=aM t ov lv {x with pc:=3}) rfl))
 have HG3:=zz g3
 clear HG g2 g3 c6 c1
 go_wp2_with fail
 go_end0
 exact ⟨rfl,HG3.out⟩
def Tc.fresh (x:Tc):Tc:={x with ph:=2,own:=0,at_:=0,f:=.pointer none,addr:=0,ref:=false,o1:=0,o2:=0,w1:=0,w2:=0,got:=.slice none 0 0,wr:=.slice none 0 0}
theorem act_border_go (hov:ov=.slice a no cp) (hpc:x.pc=0) (hst:q.st=x.st) (hnx:x.nx<no) (h:(Sep (aE A c q) (Thr b t ov lv x X)).at_ S w):
 Calls prog 76 #[.pointer (some ⟨b,0,none⟩),.pointer (some ⟨A.b,0,none⟩)] w fun e w'=>e=.returned (.tuple #[])∧aA (Sep (aE A c q) (Thr b t ov lv x.fresh X)) S w w':=by
 have c7:=(aA.begin h).r.ci 7 x.pc
 rw [hpc] at c7
 have HL:=zz (iE hst h)
 have HO:=zz hov
 clear h hov hst
 go_enter func76,ntmps76
 go_wp2_with fail
 refine qz HL.out fun w2 hg=>?_
 have c6:=hg.r.ci 6 (x.nx:Int)
 have c1:=hg.r.cC 1 ov
 rw [HO.out] at c1
 have HG:=zz hg
 have hd:decide ((no:Int)≤(x.nx:Int))=false:=by simp;omega
 have hd2:¬no≤x.nx:=by omega
 clear HL hg c7
 go_wp2_with fail
 go_quiet (fail)
 have g2:=HG.out.drewN_ nq
 clear HG c6 c1
 generalize w2.drewN nq=w3 at*
 have c3:=g2.r.ci 3 x.ph
 have c10:=g2.r.ci 10 x.own
 have c11:=g2.r.ci 11 x.at_
 have c12:=g2.r.cC 12 x.f
 have c13:=g2.r.ci 13 x.addr
 have c14:=g2.r.cb 14 x.ref
 have c15:=g2.r.cC 15 (.complex .f64 x.o1 x.o2)
 have c16:=g2.r.cC 16 (.complex .f64 x.w1 x.w2)
 have c17:=g2.r.cC 17 x.got
 have c18:=g2.r.cC 18 x.wr
 have f3:=g2.r.fr 3
 have f10:=g2.r.fr 10
 have f11:=g2.r.fr 11
 have f12:=g2.r.fr 12
 have f13:=g2.r.fr 13
 have f14:=g2.r.fr 14
 have f15:=g2.r.fr 15
 have f16:=g2.r.fr 16
 have f17:=g2.r.fr 17
 have f18:=g2.r.fr 18
 have g3:aA (Sep (aE A c q) (Thr b t ov lv x.fresh X)) S w _:=g2.then (aH (aG (fun S h=>((((((((((aA.begin h).vput 3 (.int .i64 2) (cs':=aM t ov lv {x with ph:=2}) rfl).vput 10 (.int .i64 0) (cs':=aM t ov lv {x with ph:=2,own:=0}) rfl).vput 11 (.int .i64 0) (cs':=aM t ov lv {x with ph:=2,own:=0,at_:=0}) rfl).vput 12 (.pointer none) (cs':=aM t ov lv {x with ph:=2,own:=0,at_:=0,f:=.pointer none}) rfl).vput 13 (.int .i64 0) (cs':=aM t ov lv {x with ph:=2,own:=0,at_:=0,f:=.pointer none,addr:=0}) rfl).vput 14 (.bool false) (cs':=aM t ov lv {x with ph:=2,own:=0,at_:=0,f:=.pointer none,addr:=0,ref:=false}) rfl).vput 15 (.complex .f64 0 0) (cs':=aM t ov lv {x with ph:=2,own:=0,at_:=0,f:=.pointer none,addr:=0,ref:=false,o1:=0,o2:=0}) rfl).vput 16 (.complex .f64 0 0) (cs':=aM t ov lv {x with ph:=2,own:=0,at_:=0,f:=.pointer none,addr:=0,ref:=false,o1:=0,o2:=0,w1:=0,w2:=0}) rfl).vput 17 (.slice none 0 0) (cs':=aM t ov lv {x with ph:=2,own:=0,at_:=0,f:=.pointer none,addr:=0,ref:=false,o1:=0,o2:=0,w1:=0,w2:=0,got:=.slice none 0 0}) rfl).vput 18 (.slice none 0 0) (cs':=aM t ov lv {x with ph:=2,own:=0,at_:=0,f:=.pointer none,addr:=0,ref:=false,o1:=0,o2:=0,w1:=0,w2:=0,got:=.slice none 0 0,wr:=.slice none 0 0}) rfl)))
 have HG3:=zz g3
 clear g2 g3
 go_wp2_with fail
 go_end0
 exact ⟨rfl,HG3.out⟩
end
end Go.Proofs.YtgcmiahhkalfmaaGreat
