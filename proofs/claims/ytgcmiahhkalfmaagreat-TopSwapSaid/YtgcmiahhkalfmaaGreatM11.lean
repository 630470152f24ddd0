import Derived.Test.YtgcmiahhkalfmaaGreatM10
import Derived.Lib.SliceRun
set_option maxRecDepth 100000
set_option maxHeartbeats 8000000
set_option linter.unusedVariables false
set_option linter.unusedSimpArgs false
namespace Go.Proofs.YtgcmiahhkalfmaaGreat
attribute [local go_sem] aF
open Go.Proofs.Tryz
open Go.RowKit
variable {K:Act→World→Prop} {args cs:Array Value} {sn:Bool} {c:Cf} {f:FuncId} {st:Int} {rest:List Value} {b cap g k x:Nat} {fr:Nat→Bool} {own:Nat→Int} {t:Nat→One} {S U:Nat→Prop} {m:Nat→Sw.Wd} {o:Oper} {a:Option Addr} {ln:Option Sw.Rq} {P:Program} {q q':Sw.Q} {r r':Sw.Rq} {A X:aC} {t':TypeId} {gv u v v':Value} {w w':World}
theorem Tryz.info305:(prog.info? 305).map (fun i=>(i.zero,i.size,i.bytes))=some (some (.agg #[.int .i64 0,.int .i64 0,.int .i64 0,.int .i64 0,.int .i64 0,.int .i64 0,.slice none 0 0,.bool false]),8,80):=by kernel_rfl
def zE:List Value:=[.int .i64 0,.int .i64 0,.int .i64 0,.int .i64 0,.int .i64 0,.int .i64 0,.slice none 0 0,.bool false]
section
theorem append_empty (w:World) (ty:TypeId):(Builtin.append_ #[261,261] ty #[.slice (some ⟨g,0,none⟩) 0 cap,.slice a 0 k]).run prog w=.ok (.slice (some ⟨g,0,none⟩) 0 cap) w:=by
 obtain ⟨i0,hi,hz0,hz1,hz2⟩:=info_parts Tryz.info305
 cases a<;>simp [Builtin.append_,run_underlying underlying261,sizeOf,typeInfo,hi,Builtin.lenOf,Builtin.firstCells,loadCells,loadCellsFrom,storeCells]
theorem iL (b:Nat):∀ (vs:List Value) (o:Nat) (w:World),w.setCells b o vs=setCells w b o vs
 | [],_,_=>rfl
 | v::r,o,w=>iL b r (o+1) _
theorem run_clear_entry (h:Blk w g cs 305) (hs:8≤cs.size) (ty:TypeId):(Builtin.clear_ #[261] ty #[.slice (some ⟨g,0,none⟩) 1 cap]).run prog w=.ok (.tuple #[]) (setCells w g 0 zE):=by
 obtain ⟨i0,hi,hz0,hz1,hz2⟩:=info_parts Tryz.info305
 have hv:∀ w,(zeroValue 305).run prog w=.ok (.agg #[.int .i64 0,.int .i64 0,.int .i64 0,.int .i64 0,.int .i64 0,.int .i64 0,.slice none 0 0,.bool false]) w:=fun w=>by simp [zeroValue,typeInfo,hi,hz0]
 have hst:=run_storeCells_cells (P:=prog) g 0 zE 0 w (fun j hj=>by simp only [zE,List.length_cons,List.length_nil] at hj;simp only [Nat.zero_add];rw [h.cell];simp;omega) (fun j hj=>h.free _) (fun v hv'=>by simp [zE] at hv';rcases hv' with rfl|rfl|rfl<;>rfl)
 simp only [Nat.add_zero] at hst
 rw [iL] at hst
 have hz:(Builtin.zeroCells (Value.agg #[.int .i64 0,.int .i64 0,.int .i64 0,.int .i64 0,.int .i64 0,.int .i64 0,.slice none 0 0,.bool false]).cells 1).toList=zE:=by simp [Builtin.zeroCells,Value.cells,zE];rfl
 simp [Builtin.clear_,run_underlying underlying261,hv,hz,hst]
theorem ln_Delete (hcap:cap≤maxLen) (h1:1≤cap) (h:(Var g (eC r gv rest) 305).at_ S w):Calls prog 288 #[.slice (some ⟨g,0,none⟩) 1 cap,.int .i64 0,.int .i64 1] w fun e w'=>e=.returned (.slice (some ⟨g,0,none⟩) 0 cap)∧aA (Var g (zE++rest).toArray 305) S w w':=by
 have g0:=(aA.begin h).drew_
 have hap:=fun (a:Option Addr) (k:Nat) (w:World) (ty:TypeId)=>append_empty (g:=g) (cap:=cap) (a:=a) (k:=k) w ty
 have hcl:=run_clear_entry (cap:=cap) g0.is.1 (by simp [eC])
 have hg:aA (Var g (zE++rest).toArray 305) S w _:=g0.then fun S (h:varAt g (eC r gv rest) 305 S w.drew)=>(⟨⟨S,⟨(by have:=h.1.sets 0 zE;rwa [show iM (eC r gv rest) 0 zE=(zE++rest).toArray by simp [iM,eC,zE]] at this),h.2.1,h.2.2⟩,fun _ h=>.inl h⟩,turned_sets h.2.1 zE _ 0 (aY.refl _ _)⟩:aA (Var g (zE++rest).toArray 305) S w.drew (setCells w.drew g 0 zE))
 have HG:=zz hg
 clear h g0 hg
 have hc2:cap=1∨2≤cap∧¬cap=1:=by omega
 rcases hc2 with rfl|⟨hc2,hne⟩
 · go_enter func288,ntmps288
   go_wp2_with fail
   refine wp_region_held_drew (S:=fun _=>True) (by kernel_rfl) trivial (fun hHeld=>?_)
   refine tk 0 ?_
   refine tk 1 ?_
   refine tk 2 ?_
   refine tk 3 ?_
   refine tk 4 ?_
   refine tk 5 ?_
   refine rdy 6 fun K hK=>?_
   go_simp
   refine hon hK trivial fun hHeld=>?_
   clear hK K
   refine rdy 7 fun K hK=>?_
   go_simp
   refine hon hK trivial fun hHeld=>?_
   clear hK K
   refine wpAnyH_done (by kernel_rfl) ?_ _
   generalize w.drew=wd at*
   go_wp2_with fail
   go_ret
   exact ⟨rfl,HG.out⟩
 · go_enter func288,ntmps288
   go_wp2_with fail
   refine wp_region_held_drew (S:=fun _=>True) (by kernel_rfl) trivial (fun hHeld=>?_)
   refine tk 0 ?_
   refine tk 1 ?_
   refine tk 2 ?_
   refine tk 3 ?_
   refine tk 4 ?_
   refine tk 5 ?_
   refine rdy 6 fun K hK=>?_
   go_simp
   refine hon hK trivial fun hHeld=>?_
   clear hK K
   refine rdy 7 fun K hK=>?_
   go_simp
   refine hon hK trivial fun hHeld=>?_
   clear hK K
   refine wpAnyH_done (by kernel_rfl) ?_ _
   generalize w.drew=wd at*
   go_wp2_with fail
   go_ret
   exact ⟨rfl,HG.out⟩
end
theorem oper_append {a:Act} {Q:Exit→Act→World→Prop} {s x:Operand} {t:TypeId} (ho:o.op=.call {callee:=.builtin .append,args:=#[s,x],argTypes:=#[t,t']})
 (hs:a.eval s=v) (hx:a.eval x=u) (hr:(Builtin.append_ #[t,t'] o.type #[v,u]).run P w=.ok v' w') (h:K (a.put o.dst v') w'):Oper.wp P o a w K Q:=by
 unfold Oper.wp execOp
 simp only [ho,resolve,invoke,builtin,Sem.run_bind,Sem.run_pure,Result.andThen_ok,List.map_toArray,List.map_cons,List.map_nil,hs,hx,hr]
 exact h
def LnN (b g cap:Nat) (cs:List Value):aC:=Sep (Lne b (some ⟨g,0,none⟩) cap) (Var g cs.toArray 305)
def nq:Sw.Rq:=⟨0,0,false,0⟩
section
theorem ln_Drop (hcap:cap≤maxLen) (h1:1≤cap) (h:(LnR b g cap r gv rest).at_ S w):Calls prog 240 #[.pointer (some ⟨b,0,none⟩),.int .i64 0] w fun e w'=>e=.returned (.bool true)∧aA (LnN b g cap (zE++rest)) S w w':=by
 have HL:=zz (ln_of h)
 clear h
 go_enter func240,ntmps240
 go_wp2_with fail
 refine qz HL.out fun w2 hg=>?_
 have d0:=hg.l.vC 0 (.slice (some ⟨g,0,none⟩) 1 cap)
 have HD:=zz (hg.call (cY fun S h=>ln_Delete hcap h1 h))
 clear hg HL
 go_wp2_with fail
 refine qz HD.out fun w3 hg=>?_
 clear d0 HD
 have d0:=hg.l.vC 0 (.slice (some ⟨g,0,none⟩) 1 cap)
 have f0:=hg.l.vf 0
 have HG:aA (LnN b g cap (zE++rest)) S w _:=hg.then (aG (fun S h=>dD h 0 (.slice (some ⟨g,0,none⟩) 0 cap)))
 have HG:=zz HG
 clear hg
 go_wp2_with fail
 go_ret
 exact ⟨rfl,HG.out⟩
def LnO (b:Nat) (a:Option Addr) (cap:Nat):aC:=Sep (Lne b a cap) (cQ 305 8 (.slice a 0 cap) 0 [])
theorem ln_none (hcap:cap≤maxLen) {cs:List Value} (hcs:cs.length=cap*8) (h:(LnN b g cap cs).at_ S w):(LnO b (some ⟨g,0,none⟩) cap).at_ S w:=
 aB.monoR (fun S (h:varAt g cs.toArray 305 S w)=>⟨⟨by simp,.inr ⟨g,cap,cs.toArray,rfl,Nat.zero_le _,h.1,Nat.zero_le _,hcap,by simpa using hcs,by simp⟩⟩,fun k=>⟨fun hk=>by rw [h.2.2 k hk];rfl,fun hk=>by simp [Value.ownBlock] at hk;exact hk▸h.2.1⟩⟩) h
theorem ln_one (h:(Sep (Sep (Var b #[v] 263) (cQ 305 8 v 1 [.int .i64 0,.int .i64 1,.int .i64 0,.int .i64 0,.int .i64 0,.int .i64 (-1),.slice none 0 0,.bool false])) X).at_ S w):∃ g cap rest,1≤cap∧cap≤maxLen∧rest.length+8=cap*8∧(Sep (LnR b g cap nq (.slice none 0 0) rest) X).at_ S w:=by
 obtain ⟨S1,S2,⟨S3,S4,h1,⟨⟨_,h2⟩,h3⟩,h4⟩,h5⟩:=h
 rcases h2 with ⟨_,h⟩|⟨g,cap,cur,rfl,_,hb,hn,hm,hs,ht⟩
 · simp at h
 · refine ⟨g,cap,cur.toList.drop 8,hn,hm,by simp;omega,S1,S2,⟨S3,S4,h1,⟨?_,(h3 g).2 rfl,fun k hk=>by have:=(h3 k).1 hk;simp [Value.ownBlock] at this;exact this.symm⟩,h4⟩,h5⟩
   have e:eC nq (.slice none 0 0) (cur.toList.drop 8)=cur:=by
    apply Array.ext'
    have:=List.take_append_drop 8 cur.toList
    rw [show 1*8=8 from rfl] at ht
    rw [ht] at this
    exact this
   rw [e];exact hb
theorem ln_Add (h:(LnO b a cap).at_ S w):
 Calls prog 317 #[.pointer (some ⟨b,0,none⟩),.agg #[.int .i64 0,.int .i64 1,.int .i64 0,.int .i64 0,.int .i64 0,.int .i64 0,.slice none 0 0]] w fun e w'=>∃ g cap rest,(e=.returned (.bool true)∧1≤cap∧cap≤maxLen∧rest.length+8=cap*8)∧aA (LnR b g cap nq (.slice none 0 0) rest) S w w':=by
 obtain ⟨i0,hi,hz0,hz1,hz2⟩:=info_parts Tryz.info305
 have g0:=(aA.begin h).moreSt (St.fresh #[.int .i64 0,.int .i64 1,.int .i64 0,.int .i64 0,.int .i64 0,.int .i64 0,.slice none 0 0] 272)
 obtain ⟨k,hk⟩:∃ k,w.heap.size=k:=⟨_,rfl⟩
 rw [hk] at g0
 have d0:=g0.r.vi 0 0
 have HL:=zz (g0.l.l.is |> fun h=>line_of 0 h)
 have HG:=zz g0
 clear h g0
 go_enter func317,ntmps317
 go_upto_region 1 with fail
 generalize w.alloc _=w1 at*
 go_wp2_with fail
 refine qz HL.out fun w2 hb=>?_
 have g1:=HG.out.below_ hb
 clear HL HG hb d0
 obtain ⟨-,-,-,-,-,-,-,f0,f1,f2,f3,f4,f5,f6⟩:=dQ rfl g1
 have q3:=g1.r.vi 3 0
 have q4:=g1.r.vi 4 0
 have q5:=g1.r.vi 5 0
 have q6:=g1.r.vC 6 (.slice none 0 0)
 have g2:=g1.then (aH (fun S h=>((((aA.begin h).vput 3 (.int .i64 0) (cs':=#[.int .i64 0,.int .i64 1,.int .i64 0,.int .i64 0,.int .i64 0,.int .i64 0,.slice none 0 0]) rfl).vput 4 (.int .i64 0) (cs':=#[.int .i64 0,.int .i64 1,.int .i64 0,.int .i64 0,.int .i64 0,.int .i64 0,.slice none 0 0]) rfl).vput 5 (.int .i64 (-1)) (cs':=#[.int .i64 0,.int .i64 1,.int .i64 0,.int .i64 0,.int .i64 0,.int .i64 (-1),.slice none 0 0]) rfl).vput 6 (.slice none 0 0) (cs':=#[.int .i64 0,.int .i64 1,.int .i64 0,.int .i64 0,.int .i64 0,.int .i64 (-1),.slice none 0 0]) rfl))
 have HG:=zz g2
 clear g1 g2
 go_upto_region 4 with fail
 generalize World.setCell (World.setCell (World.setCell (World.setCell _ _ _) _ _) _ _) _ _=w3 at*
 clear f0 f1 f2 f3 f4 f5 f6 q3 q4 q5 q6
 have g3:=HG.out.drew_
 have d0:=g3.l.l.vC 0 (.slice a 0 cap)
 refine wp_region_held_drew (S:=fun w'=>w'.cell? ⟨k,0,none⟩=some (.int .i64 0)∧w'.cell? ⟨k,1,none⟩=some (.int .i64 1)∧w'.cell? ⟨k,2,none⟩=some (.int .i64 0)∧w'.cell? ⟨k,3,none⟩=some (.int .i64 0)∧w'.cell? ⟨k,4,none⟩=some (.int .i64 0)∧w'.cell? ⟨k,5,none⟩=some (.int .i64 (-1))∧w'.cell? ⟨k,6,none⟩=some (.slice none 0 0)) (by kernel_rfl) ⟨g3.r.vi 0 0,g3.r.vi 1 1,g3.r.vi 2 0,g3.r.vi 3 0,g3.r.vi 4 0,g3.r.vi 5 (-1),g3.r.vC 6 (.slice none 0 0)⟩ (fun hHeld=>?_)
 generalize w3.drew=w4 at*
 obtain ⟨v5,w5,hap,hown,hgr,hbk⟩:=bZ (P:=prog) (w4.alloc (.cells #[.int .i64 0,.int .i64 1,.int .i64 0,.int .i64 0,.int .i64 0,.int .i64 (-1),.slice none 0 0,.bool false] 305)) 0 261 261 305 i0 _ 8 80 underlying261 hi hz0 hz1 hz2 rfl (by decide) (.slice a 0 cap) 0 [] (g3.alloc_ (.cells #[.int .i64 0,.int .i64 1,.int .i64 0,.int .i64 0,.int .i64 0,.int .i64 (-1),.slice none 0 0,.bool false] 305)).l.r.is.1 ⟨w4.heap.size,0,none⟩ 1 1 [.int .i64 0,.int .i64 1,.int .i64 0,.int .i64 0,.int .i64 0,.int .i64 (-1),.slice none 0 0,.bool false] rfl
  (fun j u hj=>by rw [bU,(Blk.new w4 #[.int .i64 0,.int .i64 1,.int .i64 0,.int .i64 0,.int .i64 0,.int .i64 (-1),.slice none 0 0,.bool false] 305).cell,Nat.zero_add];simpa using hj) (fun u hu=>by simp only [List.mem_cons,List.not_mem_nil,or_false] at hu;rcases hu with rfl|rfl|rfl|rfl|rfl|rfl|rfl|rfl<;>rfl) (by unfold maxLen;omega) (by omega) (Nat.zero_le _)
 have g4:=g3.alloc_ (.cells #[.int .i64 0,.int .i64 1,.int .i64 0,.int .i64 0,.int .i64 0,.int .i64 (-1),.slice none 0 0,.bool false] 305)
 have g5:=g3.then (aG (aH (fun S h=>bS (n:=0) (m:=1) (xs:=[]) h ((Below.refl _ _).alloc (Nat.le_refl _) (.cells #[.int .i64 0,.int .i64 1,.int .i64 0,.int .i64 0,.int .i64 0,.int .i64 (-1),.slice none 0 0,.bool false] 305)) hown hgr (by simpa using hbk))))
 obtain ⟨gg,cc,rfl⟩:∃ g cap,v5=.slice (some ⟨g,0,none⟩) 1 cap:=by
  rcases hown.2 with ⟨_,h⟩|⟨g,cap,cur,rfl,_⟩
  · simp at h
  · exact ⟨g,cap,rfl⟩
 refine tk 0 ?_
 refine tk 1 ?_
 refine tk 2 ?_
 refine tk 3 ?_
 refine tk 5 ?_
 refine tk 6 ?_
 refine wpAnyH_ready (rs:=[4,7]) (by kernel_rfl) (by simp) ?_
 refine AllReadyH.cons (o:=_) rfl ?cA (AllReadyH.cons (o:=_) rfl ?cB AllReadyH.nil)
 case cA=>
  intro K hK
  go_simp
  refine hon hK ⟨g3.r.vi 0 0,g3.r.vi 1 1,g3.r.vi 2 0,g3.r.vi 3 0,g3.r.vi 4 0,g3.r.vi 5 (-1),g3.r.vC 6 (.slice none 0 0)⟩ fun hHeld=>?_
  clear hK K
  refine rdy 7 fun K hK=>?_
  go_simp
  refine hon hK ⟨g4.r.vi 0 0,g4.r.vi 1 1,g4.r.vi 2 0,g4.r.vi 3 0,g4.r.vi 4 0,g4.r.vi 5 (-1),g4.r.vC 6 (.slice none 0 0)⟩ fun hHeld=>?_
  clear hK K
  refine rdy 8 fun K hK=>?_
  rw [if_pos (by kernel_rfl)]
  refine oper_append rfl rfl rfl hap ?_
  refine hon hK ⟨g5.r.vi 0 0,g5.r.vi 1 1,g5.r.vi 2 0,g5.r.vi 3 0,g5.r.vi 4 0,g5.r.vi 5 (-1),g5.r.vC 6 (.slice none 0 0)⟩ fun hHeld=>?_
  clear hK K
  refine tk 9 ?_
  refine tk 10 ?_
  have f0:=g5.l.l.vf 0
  have d0:=g5.l.l.vC 0 (.slice a 0 cap)
  refine rdy 11 fun K hK=>?_
  go_simp
  have g6:aA (Sep (Sep (Var b #[.slice (some ⟨gg,0,none⟩) 1 cc] 263) (cQ 305 8 (.slice (some ⟨gg,0,none⟩) 1 cc) 1 [.int .i64 0,.int .i64 1,.int .i64 0,.int .i64 0,.int .i64 0,.int .i64 (-1),.slice none 0 0,.bool false])) (Var k #[.int .i64 0,.int .i64 1,.int .i64 0,.int .i64 0,.int .i64 0,.int .i64 (-1),.slice none 0 0] 272)) S w _:=g5.then (aG (aG (fun S h=>dD h 0 (.slice (some ⟨gg,0,none⟩) 1 cc))))
  refine hon hK ⟨g6.r.vi 0 0,g6.r.vi 1 1,g6.r.vi 2 0,g6.r.vi 3 0,g6.r.vi 4 0,g6.r.vi 5 (-1),g6.r.vC 6 (.slice none 0 0)⟩ fun hHeld=>?_
  clear hK K
  refine wpAnyH_done (by kernel_rfl) ?_ _
  have HG6:=zz g6
  clear g6 g5 g4 g3 hap hown hgr hbk f0 d0
  go_wp2_with fail
  go_ret
  obtain ⟨⟨S',h',hk'⟩,ht⟩:=HG6.out
  obtain ⟨g,cap,rest,h1,h2,h3,h4⟩:=ln_one h'
  exact ⟨g,cap,rest,⟨rfl,h1,h2,h3⟩,aA.l ⟨⟨S',h4,hk'⟩,ht⟩⟩
 case cB=>
  intro K hK
  go_simp
  have e0:=g4.l.l.vC 0 (.slice a 0 cap)
  refine hon hK ⟨g4.r.vi 0 0,g4.r.vi 1 1,g4.r.vi 2 0,g4.r.vi 3 0,g4.r.vi 4 0,g4.r.vi 5 (-1),g4.r.vC 6 (.slice none 0 0)⟩ fun hHeld=>?_
  clear hK K
  refine rdy 4 fun K hK=>?_
  go_simp
  refine hon hK ⟨g4.r.vi 0 0,g4.r.vi 1 1,g4.r.vi 2 0,g4.r.vi 3 0,g4.r.vi 4 0,g4.r.vi 5 (-1),g4.r.vC 6 (.slice none 0 0)⟩ fun hHeld=>?_
  clear hK K
  refine rdy 8 fun K hK=>?_
  rw [if_pos (by kernel_rfl)]
  refine oper_append rfl rfl rfl hap ?_
  refine hon hK ⟨g5.r.vi 0 0,g5.r.vi 1 1,g5.r.vi 2 0,g5.r.vi 3 0,g5.r.vi 4 0,g5.r.vi 5 (-1),g5.r.vC 6 (.slice none 0 0)⟩ fun hHeld=>?_
  clear hK K
  refine tk 9 ?_
  refine tk 10 ?_
  have f0:=g5.l.l.vf 0
  have d0:=g5.l.l.vC 0 (.slice a 0 cap)
  refine rdy 11 fun K hK=>?_
  go_simp
  have g6:aA (Sep (Sep (Var b #[.slice (some ⟨gg,0,none⟩) 1 cc] 263) (cQ 305 8 (.slice (some ⟨gg,0,none⟩) 1 cc) 1 [.int .i64 0,.int .i64 1,.int .i64 0,.int .i64 0,.int .i64 0,.int .i64 (-1),.slice none 0 0,.bool false])) (Var k #[.int .i64 0,.int .i64 1,.int .i64 0,.int .i64 0,.int .i64 0,.int .i64 (-1),.slice none 0 0] 272)) S w _:=g5.then (aG (aG (fun S h=>dD h 0 (.slice (some ⟨gg,0,none⟩) 1 cc))))
  refine hon hK ⟨g6.r.vi 0 0,g6.r.vi 1 1,g6.r.vi 2 0,g6.r.vi 3 0,g6.r.vi 4 0,g6.r.vi 5 (-1),g6.r.vC 6 (.slice none 0 0)⟩ fun hHeld=>?_
  clear hK K
  refine wpAnyH_done (by kernel_rfl) ?_ _
  have HG6:=zz g6
  clear g6 g5 g4 g3 hap hown hgr hbk f0 d0
  go_wp2_with fail
  go_ret
  obtain ⟨⟨S',h',hk'⟩,ht⟩:=HG6.out
  obtain ⟨g,cap,rest,h1,h2,h3,h4⟩:=ln_one h'
  exact ⟨g,cap,rest,⟨rfl,h1,h2,h3⟩,aA.l ⟨⟨S',h4,hk'⟩,ht⟩⟩
end
def Got (v:Value) (F:Nat):aC:=Seq 1 v 1 [.int .i64 (F:Int)]
def s0:Sl:=(none,0,0)
section
variable {s:Sl}
theorem clone_ints_nil (w:World):Calls prog 266 #[.slice none 0 0] w fun e w'=>e=.returned (.slice none 0 0)∧w=w':=by
 have he:=Lib.run_eql_slice_nil (P:=prog) w 22 3 none 0 0 0 0 underlying22
 go_enter func266,ntmps266
 go_wp2_with fail
 go_ret
 exact ⟨rfl,rfl⟩
theorem clone_got (w:World):aN prog 266 #[.slice s.1 s.2.1 s.2.2] w (Got (slV s) x) (fun s' e=>e=.returned (.slice s'.1 s'.2.1 s'.2.2)) (fun s'=>Sep (Got (slV s) x) (Got (slV s') x)):=by
 intro S h
 obtain ⟨r,o,c,hv,h1,h2⟩:=bN h
 obtain ⟨a,n,c'⟩:=s
 simp only [slV,Value.slice.injEq] at hv
 obtain ⟨rfl,rfl,rfl⟩:=hv
 obtain ⟨i0,hi,hz0,hz1,hz2⟩:=info_parts Tryz.info3
 have he:=Lib.run_eql_slice_nil (P:=prog) w 22 3 (some ⟨r,o,none⟩) 1 c' 0 0 underlying22
 have g0:=aA.begin h
 have HC:=zz ((g0.alloc_ (.cells #[] 3)).seq (i:=0) (x:=.int .i64 (x:Int)) rfl)
 have HG:=zz g0
 clear h g0
 go_enter func266,ntmps266
 go_wp2_with (at_builtin;refine bI rfl _ _ 22 rfl 3 i0 (.int .i64 0) 1 8 underlying22 hi hz0 hz1 hz2 rfl (by decide) _ _ _ rfl (World.ownsRow_made w #[] 0 (Nat.zero_le _) (Nat.zero_le _) rfl) ⟨r,o,none⟩ 1 c' [.int .i64 (x:Int)] rfl ?c0 ?c1 ?c2 ?c3 (by decide) ?_)
 case c0=>simp
 case c1=>
  intro j u hj
  have:j=0:=by have:=(List.getElem?_eq_some_iff.1 hj).1;simp at this;omega
  subst this
  rw [bU];simp at hj;subst hj;exact HC.out
 case c2=>intro u hu;simp at hu;subst hu;rfl
 case c3=>omega
 intro v' w1 hown hg hb
 have hgo:aA (Sep (Got (.slice (some ⟨r,o,none⟩) 1 c') x) (Got v' x)) S w w1:=by
  refine HG.out.more ⟨fun k=>v'.ownBlock=some k,cX (e:=3) (n:=1) ⟨by simpa using hown,fun k=>Iff.rfl⟩ (by decide),fun k hk=>?_⟩ (((Below.refl _ _).alloc (Nat.le_refl _) _).grown hg (by simp) (fun k hk=>by simp [Value.ownBlock] at hk;omega))
  have:=dF hown hk
  rcases hb with e|e
  · rw [e] at hk;simp [Value.ownBlock] at hk;omega
  · rw [e] at hk;simp at hk;omega
 have HF:=zz hgo
 obtain ⟨r',o',c2,rfl,_,_⟩:=bN hgo.r.is
 clear hg hb hown hgo
 go_wp2_with fail
 go_ret
 exact ⟨(_,_,_),rfl,HF.out⟩
def kJ (r:Sw.Rq) (s:Sl):aC:=if r.st=1 then Got (slV s) r.got else Pu (s=s0) Emp
structure LnX where
 g:Nat
 cap:Nat
 s:Sl
 rest:List Value
structure LnX.ok (x:LnX):Prop where
 c1:1≤x.cap
 c2:x.cap≤maxLen
 len:x.rest.length+8=x.cap*8
def LnS (b:Nat) (r:Sw.Rq) (x:LnX):aC:=Sep (LnR b x.g x.cap r (.slice x.s.1 x.s.2.1 x.s.2.2) x.rest) (kJ r x.s)
def LnQ (b:Nat):Option Sw.Rq→aC
 | none=>Ex fun x:Option Addr×Nat=>LnO b x.1 x.2
 | some r=>Ex fun x:LnX=>Pu x.ok (LnS b r x)
end
def lnW:Option Sw.Rq→Bool
 | some r=>r.st==0
 | none=>false
section
variable {i:Nat} {s:Sl}
theorem lq_on (hg:∀ s,kJ r s=kJ r' s) (h:∀ y:LnX,y.ok→aJ P f args w (LnR b y.g y.cap r (.slice y.s.1 y.s.2.1 y.s.2.2) y.rest) v (LnR b y.g y.cap r' (.slice y.s.1 y.s.2.1 y.s.2.2) y.rest)):aJ P f args w (LnQ b (some r)) v (LnQ b (some r')):=by
 rintro S ⟨y,hy,hs⟩
 refine ((h y hy).l (B:=kJ r y.s) S hs).mono fun e w' ⟨he,hg'⟩=>⟨he,hg'.conv fun S w h=>⟨y,hy,?_⟩⟩
 rw [hg] at h;exact h
theorem lq_no (h:∀ a cap,aJ P f args w (Lne b a cap) v (Lne b a cap)):aJ P f args w (LnQ b none) v (LnQ b none):=
 .ex fun y=>⟨y,(h y.1 y.2).l⟩
theorem st_dec (r:Sw.Rq):decide ((r.st:Int)=0)=(r.st==0):=by by_cases h:r.st=0<;>simp [h]
theorem lq_waits (w:World):aJ prog 188 #[.pointer (some ⟨b,0,none⟩)] w (LnQ b ln) (.int .i64 (if lnW ln then 1 else 0)) (LnQ b ln):=by
 cases ln with
 | none=>exact lq_no fun a cap=>.look fun S h=>line_waits h
 | some r=>exact lq_on (fun _=>rfl) fun y hy S h=>ln_Waits _ (st_dec r) h
theorem lq_begin (w:World):aJ prog 190 #[.pointer (some ⟨b,0,none⟩)] w (LnQ b ln) (.tuple #[]) (LnQ b (ln.map fun r=>{r with nt:=r.st==0})):=by
 cases ln with
 | none=>exact lq_no fun a cap=>.look fun S h=>line_begin h
 | some r=>exact lq_on (fun _=>rfl) fun y hy S h=>ln_Begin _ (st_dec r) hy.c1 h
theorem lq_end (hcy:∀ r,ln=some r→r.cy≤1000) (w:World):aJ prog 206 #[.pointer (some ⟨b,0,none⟩)] w (LnQ b ln) (.tuple #[]) (LnQ b (ln.map fun r=>{r with cy:=if r.nt&&r.st==0 then r.cy+1 else r.cy,nt:=false})):=by
 cases ln with
 | none=>exact lq_no fun a cap=>.look fun S h=>line_end h
 | some r=>exact lq_on (fun _=>rfl) fun y hy S h=>ln_End _ (st_dec r) hy.c1 (hcy r rfl) h
theorem lq_fail (h0:r.st=0) (w:World):aJ prog 212 #[.pointer (some ⟨b,0,none⟩)] w (LnQ b (some r)) (.bool true) (LnQ b (some {r with st:=2})):=
 lq_on (fun s=>by unfold kJ;rw [if_neg (by rw [h0];decide),if_neg (by show ¬(2:Nat)=1;decide)]) fun y hy S h=>ln_Fail h0 hy.c2 hy.c1 h
theorem lq_Of0 (t:Int) (w:World):aJ prog 238 #[.pointer (some ⟨b,0,none⟩),.int .i64 t] w (LnQ b none) (.tuple #[dC,.bool false]) (LnQ b none):=lq_no fun a cap=>.see fun S h=>line_Of t h
theorem lq_First0 (w:World):aJ prog 207 #[.pointer (some ⟨b,0,none⟩)] w (LnQ b none) (.tuple #[dC,.bool false]) (LnQ b none):=lq_no fun a cap=>.see fun S h=>line_First h
theorem lq_drop (w:World):aJ prog 240 #[.pointer (some ⟨b,0,none⟩),.int .i64 0] w (LnQ b (some r)) (.bool true) (LnQ b none):=by
 rintro S ⟨y,hy,hs⟩
 refine ((aA.begin hs).l.call fun S h=>ln_Drop hy.c2 hy.c1 h).mono fun e w' ⟨he,hg⟩=>⟨he,?_⟩
 exact hg.conv fun S w h=>⟨(some ⟨y.g,0,none⟩,y.cap),ln_none hy.c2 (by have:=hy.len;simp [zE];omega) h⟩
theorem lq_add (w:World):aJ prog 317 #[.pointer (some ⟨b,0,none⟩),.agg #[.int .i64 0,.int .i64 1,.int .i64 0,.int .i64 0,.int .i64 0,.int .i64 0,.slice none 0 0]] w (LnQ b none) (.bool true) (LnQ b (some nq)):=by
 rintro S ⟨y,hs⟩
 refine (ln_Add hs).mono fun e w' ⟨g,cap,rest,⟨he,h1,h2,h3⟩,hg⟩=>⟨he,hg.conv fun S w h=>⟨⟨g,cap,s0,rest⟩,⟨h1,h2,h3⟩,?_⟩⟩
 exact ⟨S,fun _=>False,h,⟨rfl,fun k hk=>hk⟩,fun _ _ h=>h,fun _ h=>h,fun _ h=>h.elim,fun _ h=>.inl h⟩
theorem clone_s0 (hs:s=s0) (w:World):aN prog 266 #[.slice s.1 s.2.1 s.2.2] w A (fun (y:Sl) e=>e=.returned (.slice y.1 y.2.1 y.2.2)∧y=s0) (fun _=>A):=by
 subst hs
 exact fun S h=>(clone_ints_nil w).mono fun e w' ⟨he,hw⟩=>⟨s0,⟨he,rfl⟩,hw▸aA.same h⟩
theorem lq_First (h0:r.st=0) (w:World):aJ prog 207 #[.pointer (some ⟨b,0,none⟩)] w (LnQ b (some r)) (.tuple #[rqV r (.slice none 0 0),.bool true]) (LnQ b (some r)):=by
 rintro S ⟨y,hy,hs⟩
 have hG:kJ r y.s=Pu (y.s=s0) Emp:=by unfold kJ;rw [if_neg (by rw [h0];decide)]
 have e0:y.s=s0:=by
  obtain ⟨_,_,_,h2,_⟩:=hs
  rw [hG] at h2;exact h2.1
 refine (ln_First1 h0 (fun w=>clone_s0 e0 w) w S hs).mono fun e w' ⟨z,⟨he,hz⟩,hg⟩=>⟨?_,hg.conv fun S w h=>⟨y,hy,h⟩⟩
 rw [he,hz];rfl
theorem ln_First0 (h0:r.st≠0) (h:(LnR b g cap r gv rest).at_ S w):Calls prog 207 #[.pointer (some ⟨b,0,none⟩)] w fun e w'=>e=.returned (.tuple #[dC,.bool false])∧aA (LnR b g cap r gv rest) S w w':=by
 have g0:=(aA.begin h).moreSt (St.fresh aS 272)
 obtain ⟨k,hk⟩:∃ k,w.heap.size=k:=⟨_,rfl⟩
 rw [hk] at g0
 have HL:=zz (g0.call (bR fun S h=>lD (z:=false) (by simp [h0]) h))
 simp only [aS] at*
 clear h g0 h0
 go_enter func207,ntmps207
 go_upto_region 1 with fail
 generalize w.alloc _=w1 at*
 go_wp2_with fail
 refine qz HL.out fun w2 hg=>?_
 have HG:=zz hg
 clear hg HL
 go_wp2_with fail
 refine qz (line_at _ _) fun w3 hb=>?_
 have hg:=HG.out.below_ hb
 obtain ⟨z0,z1,z2,z3,z4,z5,z6,y0,y1,y2,y3,y4,y5,y6⟩:=dQ rfl hg
 have g3:=hg.fill [.int .i64 0,.int .i64 0,.int .i64 0,.int .i64 0,.int .i64 0,.int .i64 0,.slice none 0 0] rfl
 obtain ⟨x0,x1,x2,x3,x4,x5,x6,-⟩:=dQ rfl g3
 have HF:=zz g3.l
 simp only [setCells,Nat.zero_add,Nat.reduceAdd] at x0 x1 x2 x3 x4 x5 x6 HF
 unfold dC
 clear hg g3 hb HG
 go_wp2_with fail
 exact bodyPost_ret (v:=.tuple #[dC,.bool false]) (by simp [results,results207,go_sem,dC,x0,x1,x2,x3,x4,x5,x6]) rfl ⟨rfl,HF.out⟩
theorem lq_FirstN (h0:lnW ln=false) (w:World):aJ prog 207 #[.pointer (some ⟨b,0,none⟩)] w (LnQ b ln) (.tuple #[dC,.bool false]) (LnQ b ln):=by
 cases ln with
 | none=>exact lq_First0 w
 | some r=>exact lq_on (fun _=>rfl) fun y hy S h=>ln_First0 (by simpa [lnW] using h0) h
theorem lq_Of (h1:r.st≠1) (w:World):aJ prog 238 #[.pointer (some ⟨b,0,none⟩),.int .i64 0] w (LnQ b (some r)) (.tuple #[rqV r (.slice none 0 0),.bool true]) (LnQ b (some r)):=by
 rintro S ⟨y,hy,hs⟩
 have hG:kJ r y.s=Pu (y.s=s0) Emp:=by unfold kJ;rw [if_neg h1]
 have e0:y.s=s0:=by
  obtain ⟨_,_,_,h2,_⟩:=hs
  rw [hG] at h2;exact h2.1
 refine (ln_Of (fun w=>clone_s0 e0 w) w S hs).mono fun e w' ⟨z,⟨he,hz⟩,hg⟩=>⟨?_,hg.conv fun S w h=>⟨y,hy,h⟩⟩
 rw [he,hz];rfl
theorem lq_Of1 (h1:r.st=1) (w:World):aN prog 238 #[.pointer (some ⟨b,0,none⟩),.int .i64 0] w (LnQ b (some r)) (fun (z:Sl) e=>e=.returned (.tuple #[rqV r (.slice z.1 z.2.1 z.2.2),.bool true])) (fun z=>Sep (LnQ b (some r)) (Got (slV z) r.got)):=by
 rintro S ⟨y,hy,hs⟩
 have hG:kJ r y.s=Got (slV y.s) r.got:=by unfold kJ;rw [if_pos h1]
 refine (ln_Of (p:=fun _=>True) (O':=fun z=>Sep (LnR b y.g y.cap r (.slice y.s.1 y.s.2.1 y.s.2.2) y.rest) (Sep (kJ r y.s) (Got (slV z) r.got))) (fun w=>?_) w S hs).mono fun e w' ⟨z,⟨he,_⟩,hg⟩=>⟨z,he,hg.conv fun S w h=>aB.monoL (fun S h=>⟨y,hy,h⟩) (aB.assoc' h)⟩
 rw [hG]
 exact aN.conv (clone_got (s:=y.s) (x:=r.got) w).r (fun _ _ h=>h) fun z e he=>⟨z,⟨he,trivial⟩,fun _ _ h=>h⟩
theorem lq_grant {z:Sl} (h0:r.st=0) (w:World):aJ prog 211 #[.pointer (some ⟨b,0,none⟩),.slice z.1 z.2.1 z.2.2,.int .i64 (-1)] w (Sep (LnQ b (some r)) (Got (slV z) i)) (.bool true) (LnQ b (some {r with st:=1,got:=i})):=by
 rintro S ⟨S1,S2,⟨y,hy,hs⟩,hG,hd⟩
 have h2:(Sep (LnR b y.g y.cap r (.slice y.s.1 y.s.2.1 y.s.2.2) y.rest) (Sep (kJ r y.s) (Got (slV z) i))).at_ S w:=aB.assoc ⟨S1,S2,hs,hG,hd⟩
 refine (ln_Grant (p:=fun _=>True) (O':=fun u=>Sep (Sep (kJ r y.s) (Got (slV z) i)) (Got (slV u) i)) h0 hy.c1 (fun w=>?_) w S h2).mono fun e w' ⟨u,⟨he,_⟩,hg⟩=>⟨he,?_⟩
 · exact aN.conv ((clone_got (s:=z) (x:=i) w).r.r) (fun _ _ h=>h) fun u e he=>⟨u,⟨he,trivial⟩,fun _ _ h=>aB.monoR (fun _ h=>aB.assoc' h) h⟩
 · have hg2:=(hg.conv fun S w h=>aB.assoc' (aB.monoR (fun S h=>aB.swap h) h)).l
   refine hg2.conv fun S w h=>⟨⟨y.g,y.cap,u,y.rest⟩,⟨hy.c1,hy.c2,hy.len⟩,?_⟩
   unfold LnS kJ;rw [if_pos rfl]
   exact h
end
def ptrs (f:Nat→Nat) (n:Nat):List Value:=(List.range n).map fun j=>.pointer (some ⟨f j,0,none⟩)
structure SpX where
 g:Nat
 cap:Nat
 p:Nat
 pg:Nat
 k:Nat
 w:Nat
 sv:Value
 T:Nat→Nat
 cur:Bool
 ct:Int
def dG (c:Cf) (bt:Nat) (x:SpX):Array Value:=#[.pointer (some ⟨bt,0,none⟩),x.sv,.bool false,.int .i64 x.ct,.int .i64 c.frags,.int .i64 c.spine,.int .i64 c.globals,.int .i64 c.threads,.int .i64 c.locals,.int .i64 0,.int .i64 c.stack,.int .i64 c.low,.slice (some ⟨x.g,0,none⟩) c.shapes.length x.cap,
 .pointer (some ⟨x.p,0,none⟩),.pointer (some ⟨x.k,0,none⟩),.pointer (some ⟨x.w,0,none⟩)]
def Stks (x:SpX) (n:Nat):aC:=Sep (Seq 1 x.sv n (ptrs x.T n)) (All n fun j=>Stk (x.T j))
def Sp (b bt:Nat) (c:Cf) (fr:Nat→Bool) (ln:Option Sw.Rq) (x:SpX):aC:=
 Sep (Var b (dG c bt x) 198) (Sep (aZ c x.g x.cap) (Sep (dP x.p x.pg c.frags fr) (Sep (fZ x.k (c.spine:Int) ⟨x.cur,0,0,0⟩) (Sep (LnQ x.w ln) (Stks x c.threads)))))
def SpQ (b bt:Nat) (c:Cf) (q:Sw.Q):aC:=Ex fun x:SpX=>Sp b bt c q.fr q.ln x
def mv (m:Nat→Sw.Wd) (j:Nat):Value:=cx (m j).k (m j).i
def Cf.words (c:Cf):Nat:=c.frags*8+c.spine+c.spine+c.globals
def fP (b:Nat) (c:Cf) (m:Nat→Sw.Wd):aC:=Ex fun g:Nat=>Mem b g c.words (mv m)
def HnQ (b n:Nat) (q:Sw.Q):aC:=Ex fun x:Nat×Int=>Hnd b x.1 n q.st q.sn q.own x.2
structure CA where
 b:Nat
 g:Nat
 cap:Nat
 bm:Nat
 bs:Nat
 bt:Nat
 bsp:Nat
 bh:Nat
def eO (c:Cf) (A:CA):Array Value:=#[.int .i64 c.frags,.int .i64 c.spine,.int .i64 c.globals,.int .i64 c.threads,.int .i64 c.locals,.int .i64 0,.int .i64 c.stack,.int .i64 c.low,.slice (some ⟨A.g,0,none⟩) c.shapes.length A.cap,
 .pointer (some ⟨A.bm,0,none⟩),.pointer (some ⟨A.bs,0,none⟩),.pointer (some ⟨A.bsp,0,none⟩),.pointer (some ⟨A.bh,0,none⟩)]
def aE (A:CA) (c:Cf) (q:Sw.Q):aC:=
 Sep (Var A.b (eO c A) 121) (Sep (aZ c A.g A.cap) (Sep (fP A.bm c q.m) (Sep (ShQ A.bs A.bt c q) (Sep (SpQ A.bsp A.bt c q) (HnQ A.bh c.threads q)))))
section
variable {w1 w2:World} {A:CA} {bs bt n:Nat}
theorem core_mem (h:aJ P f args w (fP A.bm c q.m) v (fP A.bm c m)):aJ P f args w (aE A c q) v (aE A c {q with m:=m}):=(h.l.r.r:aJ P f args w (aE A c q) v _)
theorem core_memR (h:aJ P f args w (fP A.bm c q.m) v (fP A.bm c q.m)):aJ P f args w (aE A c q) v (aE A c q):=(h.l.r.r:aJ P f args w (aE A c q) v _)
theorem fV (h:aJ P f args w (ShQ A.bs A.bt c q) v (ShQ A.bs A.bt c q')) (e:q'.m=q.m∧q'.fr=q.fr∧q'.ln=q.ln∧q'.st=q.st∧q'.sn=q.sn∧q'.own=q.own):aJ P f args w (aE A c q) v (aE A c q'):=by
 obtain ⟨m,t,pl,lo,fr,ln,st,sn,own⟩:=q
 obtain ⟨m',t',pl',lo',fr',ln',st',sn',own'⟩:=q'
 simp only at e
 obtain ⟨rfl,rfl,rfl,rfl,rfl,rfl⟩:=e
 exact (h.l.r.r.r:aJ P f args w (aE A c _) v _)
theorem core_sp (h:aJ P f args w (SpQ A.bsp A.bt c q) v (SpQ A.bsp A.bt c {q with ln:=ln})):aJ P f args w (aE A c q) v (aE A c {q with ln:=ln}):=(h.l.r.r.r.r:aJ P f args w (aE A c q) v _)
theorem iT (h:aJ P f args w (SpQ A.bsp A.bt c q) v (SpQ A.bsp A.bt c q)):aJ P f args w (aE A c q) v (aE A c q):=(h.l.r.r.r.r:aJ P f args w (aE A c q) v _)
theorem core_hn (h:aJ P f args w (HnQ A.bh c.threads q) v (HnQ A.bh c.threads {q with st:=st,sn:=sn,own:=own})):aJ P f args w (aE A c q) v (aE A c {q with st:=st,sn:=sn,own:=own}):=(h.r.r.r.r.r:aJ P f args w (aE A c q) v _)
theorem lH (h:aJ P f args w (HnQ A.bh c.threads q) v (HnQ A.bh c.threads q)):aJ P f args w (aE A c q) v (aE A c q):=(h.r.r.r.r.r:aJ P f args w (aE A c q) v _)
def Two (bs b bt:Nat) (c:Cf) (q:Sw.Q):aC:=Sep (ShQ bs bt c q) (SpQ b bt c q)
def cV (bs b bt:Nat) (c:Cf) (q:Sw.Q) (x:SpX):aC:=Sep (ShQ bs bt c q) (Sp b bt c q.fr q.ln x)
theorem dY (h:(Two bs b bt c q).at_ S w):∃ x,(cV bs b bt c q x).at_ S w:=by
 obtain ⟨S1,S2,h1,⟨x,h2⟩,h⟩:=h
 exact ⟨x,S1,S2,h1,h2,h⟩
theorem eT {x:SpX} (h:aA (cV bs b bt c q x) S w w'):aA (Two bs b bt c q) S w w':=h.conv fun _ _ h=>aB.monoR (fun _ h=>⟨x,h⟩) h
theorem eF (h:aJ P f args w (Two A.bs A.bsp A.bt c q) v (Two A.bs A.bsp A.bt c {q with t:=t,fr:=fr,ln:=ln})):
 aJ P f args w (aE A c q) v (aE A c {q with t:=t,fr:=fr,ln:=ln}):=
 ((aJ.assoc' (h.l (B:=HnQ A.bh c.threads q))).r.r.r:aJ P f args w (aE A c q) v _)
theorem bO (h:(aE A c q).at_ S w):∃ S,(aZ c A.g A.cap).at_ S w:=by
 obtain ⟨S1,h1,_⟩:=aB.r h
 obtain ⟨S2,h2,_⟩:=aB.l h1
 exact ⟨S2,h2⟩
theorem eG (h:aA (aE A c q) S w w'):
 w'.cell? ⟨A.b,0,none⟩=some (.int .i64 c.frags)∧w'.cell? ⟨A.b,1,none⟩=some (.int .i64 c.spine)∧w'.cell? ⟨A.b,2,none⟩=some (.int .i64 c.globals)∧w'.cell? ⟨A.b,3,none⟩=some (.int .i64 c.threads)∧
 w'.cell? ⟨A.b,4,none⟩=some (.int .i64 c.locals)∧w'.cell? ⟨A.b,5,none⟩=some (.int .i64 0)∧w'.cell? ⟨A.b,6,none⟩=some (.int .i64 c.stack)∧w'.cell? ⟨A.b,7,none⟩=some (.int .i64 c.low)∧w'.cell? ⟨A.b,8,none⟩=some (.slice (some ⟨A.g,0,none⟩) c.shapes.length A.cap):=
 ⟨h.c 0 rfl,h.c 1 rfl,h.c 2 rfl,h.c 3 rfl,h.c 4 rfl,h.c 5 rfl,h.c 6 rfl,h.c 7 rfl,h.c 8 rfl⟩
theorem mv_set (m:Nat→Sw.Wd) (a:Nat) (u:Sw.Wd):dH (mv m) a (cx u.k u.i)=mv (Sw.set m a u):=by
 funext k;unfold dH mv Sw.set;split<;>rfl
theorem fA (hc:c.ok):c.words≤20000:=by have:=hc.frags;have:=hc.spine;have:=hc.globals;unfold Cf.words;omega
theorem mq_read (hk:k<c.words) (hc:c.ok) (w:World):aJ prog 129 #[.pointer (some ⟨b,0,none⟩),.int .i64 (k:Int)] w (fP b c m) (.tuple #[cx (m k).k (m k).i,.int .i64 0]) (fP b c m):=
 .ex fun g=>⟨g,fun S h=>mem_read k h hk (fA hc)⟩
theorem mq_write (u:Sw.Wd) (hk:k<c.words) (hc:c.ok) (w:World):aJ prog 233 #[.pointer (some ⟨b,0,none⟩),.int .i64 (k:Int),cx u.k u.i] w (fP b c m) (.int .i64 0) (fP b c (Sw.set m k u)):=
 .ex fun g=>⟨g,fun S h=>by rw [←mv_set];exact mem_write k _ _ h hk (fA hc)⟩
theorem hSt_lt (h:k<n):hSt n q.own (k:Int)=q.own k:=by unfold hSt;rw [if_pos (show hIn n (k:Int) from ⟨by omega,by omega⟩)];simp
theorem hq_look (w:World):aJ prog 213 #[.pointer (some ⟨b,0,none⟩)] w (HnQ b n q) (.tuple #[.int .i64 q.st,.bool q.sn]) (HnQ b n q):=.ex fun x=>⟨(x.1,wrap64 (x.2+1)),fun S h=>hand_look h⟩
theorem hq_answer (x:Int) (hk:k<n) (hn:n≤16) (ho:q.own k≠-1) (hx:0≤x) (hx4:x≤4) (w:World):aJ prog 214 #[.pointer (some ⟨b,0,none⟩),.int .i64 (k:Int),.int .i64 x] w (HnQ b n q) (.bool true) (HnQ b n {q with own:=Sw.set q.own k x}):=
 .ex fun y=>⟨(y.1,wrap64 (y.2+1)),fun S h=>hand_answer k x hk hn ho hx hx4 h⟩
theorem hq_leave (hk:k<n) (hn:n≤16) (ho:q.own k≠-1) (w:World):aJ prog 217 #[.pointer (some ⟨b,0,none⟩),.int .i64 (k:Int)] w (HnQ b n q) (.bool true) (HnQ b n {q with own:=Sw.set q.own k (-1)}):=
 .ex fun y=>⟨(y.1,wrap64 (y.2+1)),fun S h=>hand_leave k hk hn ho h⟩
theorem hq_join (hk:k<n) (hn:n≤16) (ho:q.own k=-1) (w:World):aJ prog 75 #[.pointer (some ⟨b,0,none⟩),.int .i64 (k:Int)] w (HnQ b n q) (.tuple #[.int .i64 q.st,.bool q.sn,.bool true]) (HnQ b n {q with own:=Sw.set q.own k q.st}):=
 .ex fun y=>⟨(y.1,wrap64 (y.2+1)),fun S h=>hand_join k hk hn ho h⟩
theorem hq_poll (hk:k<n) (hn:n≤16) (w:World):aJ prog 192 #[.pointer (some ⟨b,0,none⟩),.int .i64 (k:Int)] w (HnQ b n q) (.bool (q.own k==-1||q.own k==q.st)) (HnQ b n q):=
 .ex fun y=>⟨(y.1,wrap64 (y.2+1)),fun S h=>by have:=hand_poll (k:Int) hn h;rw [hSt_lt hk] at this;exact this⟩
theorem hq_post (x:Int) (fl:Bool) (hx:0≤x) (hx4:x≤4) (w:World):aJ prog 126 #[.pointer (some ⟨b,0,none⟩),.int .i64 x,.bool fl] w (HnQ b n q) (.bool true) (HnQ b n {q with st:=x,sn:=q.sn != fl}):=
 .ex fun y=>⟨(y.1,wrap64 (y.2+1)),fun S h=>hand_post x fl hx hx4 h⟩
end
end Go.Proofs.YtgcmiahhkalfmaaGreat
