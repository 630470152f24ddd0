import Derived.Test.YtgcmiahhkalfmaaGreatM36
set_option maxRecDepth 100000
set_option maxHeartbeats 8000000
set_option linter.unusedVariables false
set_option linter.unusedSimpArgs false
namespace Go.Proofs.YtgcmiahhkalfmaaGreat
section
attribute [local go_sem] aF aI aO aV
open Go.Proofs.Tryz
open Go.RowKit
variable {c:Cf} {cap g j k:Nat} {S:Nat→Prop} {m:Nat→Value} {O:aC} {w w':World}
section
variable {A B C D E F G H:aC}
theorem core_order (h:(Sep (Sep (Sep (Sep (Sep (Sep (Sep O B) C) D) E) F) G) H).at_ S w):(Sep O (Sep B (Sep H (Sep G (Sep C (Sep D (Sep E F))))))).at_ S w:=by
 have h1:(Sep O (Sep B (Sep C (Sep D (Sep E (Sep F (Sep G H))))))).at_ S w:=aB.assoc (aB.assoc (aB.assoc (aB.assoc (aB.assoc (aB.assoc h)))))
 refine aB.monoR (fun _ h=>aB.monoR (fun S2 h=>?_) h) h1
 have h2:(Sep (Sep (Sep (Sep (Sep C D) E) F) G) H).at_ S2 w:=aB.assoc' (aB.assoc' (aB.assoc' (aB.assoc' h)))
 have h3:(Sep H (Sep G (Sep (Sep (Sep C D) E) F))).at_ S2 w:=aB.monoR (fun _ h=>aB.swap h) (aB.swap h2)
 exact aB.monoR (fun _ h=>aB.monoR (fun _ h=>aB.assoc (aB.assoc h)) h) h3
end
section
def Cf.glob (c:Cf) (g:Nat):Nat:=c.frags*8+c.spine+c.spine+g
structure MemN (c:Cf) (j:Nat) (m:Nat→Value):Prop where
 lo:∀ k,k<c.glob 0→m k=.complex .f64 0 0
 hi:∀ i,i<j→m (c.glob i)=cx 0 1
theorem memN_step (h:MemN c j m):MemN c (j+1) (dH m (c.glob j) cJ) where
 lo:=fun k hk=>by
  unfold dH
  rw [if_neg (by unfold Cf.glob at *;omega)]
  exact h.lo k hk
 hi:=fun i hi=>by
  unfold dH
  by_cases e:i=j
  · subst e;rw [if_pos rfl,←cx01]
  · rw [if_neg (by unfold Cf.glob;omega)];exact h.hi i (by omega)
theorem memN_is (hc:c.ok) (h:MemN c c.globals m) (hk:k<c.words):m k=mv (m0 c) k:=by
 unfold mv m0
 by_cases e:c.gw 0≤k
 · rw [if_pos e]
   obtain ⟨i,rfl⟩:∃ i,k=c.glob i:=⟨k-c.gw 0,by unfold Cf.gw Cf.glob at *;omega⟩
   exact h.hi i (by unfold Cf.glob Cf.words at *;omega)
 · rw [if_neg e,h.lo k (by unfold Cf.gw at e;unfold Cf.glob;omega)]
   show _=cx 0 0
   unfold cx;rw [fl0]
def CoN (O:aC) (c:Cf) (g cap cb bm mg bs bt bp bsp bh hg:Nat) (m:Nat→Value):aC:=
 Sep (Sep (Sep (Sep (Sep O (Var cb (aD c (.slice (some ⟨g,0,none⟩) c.shapes.length cap)) 34)) (Mem bm mg c.words m)) (cO bs bt bp c.frags fM [] (c.stack:Int) false 0)) (SpQ bsp bt c (q0 c))) (Hnd bh hg c.threads 0 false gone 0)
theorem con_done {cb bm mg bs bt bp bsp bh hg g' cap' b:Nat} (hc:c.ok) (hm:MemN c c.globals m) (h:aA (Sep (Sep (CoN O c g cap cb bm mg bs bt bp bsp bh hg m) (aZ c g' cap')) (Var b (eO c ⟨b,g',cap',bm,bs,bt,bsp,bh⟩) 121)) S w w'):aA (Sep O (aE ⟨b,g',cap',bm,bs,bt,bsp,bh⟩ c (q0 c))) S w w':=by
 have h1:=(h.conv fun _ _ h=>core_order h).drop (aU.both (aU.refl O) (aU.right _ _))
 refine h1.conv fun S w h=>aB.monoR (fun S h=>?_) h
 have hst:=hc.stack
 refine aB.monoR (fun S h=>aB.monoR (fun S h=>?_) h) h
 have hmq:∀ S,(Mem bm mg c.words m).at_ S w→(fP bm c (m0 c)).at_ S w:=fun S ⟨ct,h⟩=>⟨mg,ct,aB.monoR (fun _ h=>vals_congr (fun j hj=>memN_is hc hm hj) h) h⟩
 refine aB.monoL (fun S h=>hmq S h) (aB.monoR (fun S h=>?_) h)
 refine aB.monoL (fun S h=>⟨(bp,0),h⟩) (aB.monoR (fun S h=>?_) h)
 exact aB.monoR (fun S h=>⟨(hg,0),h⟩) h
theorem core_new (hc:c.ok) (hcf:∀ S w,O.at_ S w→∃ S',(aZ c g cap).at_ S' w) (h:O.at_ S w):
 Calls prog 28 #[cfV c g cap] w fun e w'=>∃ A:CA,e=.returned (.tuple #[.pointer (some ⟨A.b,0,none⟩),.int .i64 0])∧aA (Sep O (aE A c (q0 c))) S w w':=by
 have g0:=(aA.begin h).moreSt (St.fresh (aD c (.slice (some ⟨g,0,none⟩) c.shapes.length cap)) 34)
 obtain ⟨cb,hcb⟩:∃ k,w.heap.size=k:=⟨_,rfl⟩
 rw [hcb] at g0
 have cf9:∀ (O':aC) (w1:World),aA (Sep O' (Var cb (aD c (.slice (some ⟨g,0,none⟩) c.shapes.length cap)) 34)) S w w1→w1.cell? ⟨cb,0,none⟩=some (.int .i64 c.frags)∧w1.cell? ⟨cb,1,none⟩=some (.int .i64 c.spine)∧w1.cell? ⟨cb,2,none⟩=some (.int .i64 c.globals)∧w1.cell? ⟨cb,3,none⟩=some (.int .i64 c.threads)∧
  w1.cell? ⟨cb,4,none⟩=some (.int .i64 c.locals)∧w1.cell? ⟨cb,5,none⟩=some (.int .i64 0)∧w1.cell? ⟨cb,6,none⟩=some (.int .i64 c.stack)∧w1.cell? ⟨cb,7,none⟩=some (.int .i64 c.low)∧w1.cell? ⟨cb,8,none⟩=some (.slice (some ⟨g,0,none⟩) c.shapes.length cap):=fun _ _ h=>⟨h.r.vc 0 rfl,h.r.vc 1 rfl,h.r.vc 2 rfl,h.r.vc 3 rfl,h.r.vc 4 rfl,h.r.vc 5 rfl,h.r.vc 6 rfl,h.r.vc 7 rfl,h.r.vc 8 rfl⟩
 have C9:=zz cf9
 have hwd:(c.frags:Int)*8+c.spine+c.spine+c.globals=((c.words:Nat):Int):=by unfold Cf.words;push_cast;omega
 have HCK:=zz fun w1 X (gg:aA (Sep O X) S w w1)=>gg.plain (bY hc (hcf _ _ gg.l.is).choose_spec)
 have HWD:=zz fun w1 X (gg:aA (Sep O X) S w w1)=>gg.plain (area_words hc (hcf _ _ gg.l.is).choose_spec)
 rw [hwd] at HWD
 have HCP:=zz fun w1 X (gg:aA (Sep O X) S w w1)=>fG hc (hcf _ _ gg.l.is).choose_spec
 have HGL:=zz fun j (hj:j<c.globals) w1 X (gg:aA (Sep O X) S w w1)=>gg.plain (fW j hc (hcf _ _ gg.l.is).choose_spec hj)
 have HM:=zz fun w=>mem_new c.words w (fA hc)
 have HS:=zz fun w=>shade_new c.frags (c.stack:Int) w hc.frags.2 (by have:=hc.stack;omega) (by have:=hc.stack;omega)
 have HH:=zz fun w=>hand_new c.threads w hc.threads.1 hc.threads.2
 have HSP:=zz fun bt w1 X1 X2 X3 (htl:∀ S w,(Sep (Sep (Sep O X1) X2) X3).at_ S w→Calls prog 116 #[.pointer (some ⟨bt,0,none⟩)] w fun e w'=>e=.returned (.int .i64 (c.frags:Int))∧w=w') (gg:aA (Sep (Sep (Sep O X1) X2) X3) S w w1)=>gg.callx (fun S h=>space_new hc (fun S w h=>let ⟨S1,a,_⟩:=aB.l h;let ⟨S2,b,_⟩:=aB.l a;let ⟨S3,d,_⟩:=aB.l b;hcf S3 w d) htl h)
 have HC:=zz hc
 have HWS:=zz (fA hc)
 have hgl:=hc.globals
 unfold cfV at*
 simp only [aD] at*
 clear h hcf cf9 hc
 go_enter func28,ntmps28
 go_upto_region 1 with fail
 generalize w.alloc _=w1 at*
 obtain ⟨c0,c1,c2,c3,c4,c5,c6,c7,c8⟩:=C9.out _ _ g0
 have HCA:=zz (HCK.out _ _ g0)
 clear HCK g0
 go_wp2_with fail
 refine qz HCA.out fun w2 hg=>?_
 clear HCA c0 c1 c2 c3 c4 c5 c6 c7 c8
 obtain ⟨c0,c1,c2,c3,c4,c5,c6,c7,c8⟩:=C9.out _ _ hg
 have HCA:=zz (HWD.out _ _ hg)
 clear HWD hg
 go_wp2_with fail
 refine qz HCA.out fun w3 hg=>?_
 clear HCA c0 c1 c2 c3 c4 c5 c6 c7 c8
 go_wp2_with fail
 with_reducible refine (HM.out _).mono ?_
 rintro e w4 ⟨bm,mg,rfl,hs⟩
 have g4:=hg.moreSt hs
 clear HM hg hs
 have c0:=g4.l.r.vi 0 c.frags
 have c6:=g4.l.r.vi 6 c.stack
 go_wp2_with fail
 with_reducible refine (HS.out _).mono ?_
 rintro e w5 ⟨bs,bt,bp,rfl,hs⟩
 have g5:=g4.moreSt hs
 clear HS g4 hs c0 c6
 go_wp2_with fail
 have g6:=g5.drew_
 clear g5
 refine wp_region_held_drew (S:=fun w'=>w'.cell? ⟨bs,0,none⟩=some (.pointer (some ⟨bt,0,none⟩))∧w'.cell? ⟨cb,0,none⟩=some (.int .i64 c.frags)∧w'.cell? ⟨cb,1,none⟩=some (.int .i64 c.spine)∧w'.cell? ⟨cb,2,none⟩=some (.int .i64 c.globals)∧w'.cell? ⟨cb,3,none⟩=some (.int .i64 c.threads)∧w'.cell? ⟨cb,4,none⟩=some (.int .i64 c.locals)∧w'.cell? ⟨cb,5,none⟩=some (.int .i64 0)∧w'.cell? ⟨cb,6,none⟩=some (.int .i64 c.stack)∧w'.cell? ⟨cb,7,none⟩=some (.int .i64 c.low)∧w'.cell? ⟨cb,8,none⟩=some (.slice (some ⟨g,0,none⟩) c.shapes.length cap)) (by kernel_rfl) ⟨g6.r.cp 0 bt,C9.out _ _ g6.l.l⟩ (fun hHeld=>?_)
 generalize w5.drew=wd at*
 refine tk 0 ?_
 refine tk 1 ?_
 refine tk 2 ?_
 refine tk 3 ?_
 refine tk 4 ?_
 have HTB:=zz (g6.plain (fS bt _))
 clear g6
 refine rdy 5 fun K hK=>?_
 go_simp
 refine qz HTB.out fun w6 hg=>?_
 clear HTB hHeld
 go_wp2_with fail
 refine hon hK ⟨hg.r.cp 0 bt,C9.out _ _ hg.l.l⟩ fun hHeld=>?_
 clear hK K
 have HSA:=zz (HSP.out bt _ _ _ _ (fun S w h=>let ⟨S1,a,_⟩:=aB.r h;let ⟨S2,b,_⟩:=aB.r a;let ⟨S3,d,_⟩:=aB.l b;tint_len d) hg)
 clear HSP hg hHeld
 refine rdy 6 fun K hK=>?_
 go_simp
 with_reducible refine HSA.out.mono ?_
 rintro e w7 ⟨bsp,rfl,hg⟩
 clear HSA
 go_wp2_with fail
 refine hon hK ⟨hg.l.r.cp 0 bt,C9.out _ _ hg.l.l.l⟩ fun hHeld=>?_
 clear hK K
 refine tk 7 ?_
 refine tk 8 ?_
 refine tk 9 ?_
 refine tk 10 ?_
 refine tk 11 ?_
 refine wpAnyH_done (by kernel_rfl) ?_ _
 clear hHeld
 have c3:=hg.l.l.l.r.vi 3 c.threads
 go_wp2_with fail
 with_reducible refine (HH.out _).mono ?_
 rintro e w8 ⟨bh,hgb,rfl,hs⟩
 have g8:aA (CoN O c g cap cb bm mg bs bt bp bsp bh hgb fun _=>.complex .f64 0 0) S w w8:=hg.moreSt hs
 clear HH hs hg c3
 have HG:=zz g8
 have c2:=g8.l.l.l.l.r.vi 2 c.globals
 clear g8
 go_wp2_with fail
 clear c2
 go_loopw [10,11,12,62] (fun _ _ _ i wr=>∃ (j:Nat) (m:Nat→Value),j≤c.globals∧i=.int .i64 j∧MemN c j m∧aA (CoN O c g cap cb bm mg bs bt bp bsp bh hgb m) S w wr) (fun _ _ _ i _=>c.globals-(intOf i).toNat)
 case atStart=>exact ⟨0,_,Nat.zero_le _,rfl,⟨fun _ _=>rfl,fun _ h=>absurd h (Nat.not_lt_zero _)⟩,HG.out⟩
 case round=>
  clear HG
  obtain ⟨j,m,hj,rfl,hm,hg⟩:=hrel
  by_cases hlt:j<c.globals
  · obtain ⟨c0,c1,c2,c3,c4,c5,c6,c7,c8⟩:=C9.out _ _ hg.l.l.l.l
    have eg:(j:Int)+(c.frags:Int)*8+c.spine+c.spine=((c.glob j:Nat):Int):=by unfold Cf.glob;push_cast;omega
    have hgw:c.glob j<c.words:=by unfold Cf.glob Cf.words;omega
    have HGC:=zz (HGL.out j hlt _ _ (hg.conv fun _ _ h=>aB.assoc (aB.assoc (aB.assoc (aB.assoc h)))))
    rw [eg] at HGC
    have HM:=zz hm
    clear hg hm HGL eg
    go_wp2_with fail
    refine qz HGC.out fun w9 hgx=>?_
    have hg:aA (CoN O c g cap cb bm mg bs bt bp bsp bh hgb m) S w w9:=hgx.conv fun _ _ h=>aB.assoc' (aB.assoc' (aB.assoc' (aB.assoc' h)))
    have HLY:=zz (hg.call (bR (bR (bR (cY fun S h=>mem_lay (c.glob j) 0 4607182418800017408 h hgw HWS.out)))))
    clear HGC hgx hg c0 c1 c2 c3 c4 c5 c6 c7 c8
    go_wp2_with fail
    refine qq (fE _) ?_
    unfold cJ
    go_wp2_with fail
    refine qz HLY.out fun w11 hg=>?_
    have HG:=zz hg
    clear HLY hg
    go_wp2_with fail
    go_round
    case rel=>exact ⟨j+1,_,by omega,by go_num,memN_step HM.out,HG.out⟩
    case measure=>simp [intOf];omega
  · obtain rfl:j=c.globals:=by omega
    obtain ⟨c0,c1,c2,c3,c4,c5,c6,c7,c8⟩:=C9.out _ _ hg.l.l.l.l
    have HCA:=zz (HCP.out _ _ (hg.conv fun _ _ h=>aB.assoc (aB.assoc (aB.assoc (aB.assoc h)))))
    have HG:=zz hg
    have HM:=zz hm
    clear HCP hg hm HGL
    go_wp2_with fail
    with_reducible refine HCA.out.mono ?_
    rintro e w9 ⟨g',cap',rfl,hs⟩
    have g9:=(HG.out.moreSt hs).moreSt (St.fresh (eO c ⟨w9.heap.size,g',cap',bm,bs,bt,bsp,bh⟩) 121)
    have HF:=zz (con_done HC.out HM.out g9)
    simp only [eO] at HF
    clear HCA HG hs g9 c0 c1 c2 c3 c4 c5 c6 c7 c8
    unfold cfV
    go_wp2_with fail
    go_ret2
    exact ⟨_,rfl,HF.out⟩
end
end
section
attribute [local go_sem] aF aI aO aV
open Go.RowKit
variable {A:CA} {c:Cf} {cap g n:Nat} {no:Nat→Nat} {sc:Nat→Nat→Opn} {S:Nat→Prop} {fa:Nat→TA} {O:aC} {sv:Value} {w w':World}
def p00:Sw.T:=⟨0,0,false,0,0,0,[],0,0,false,Sw.w0,Sw.w0,0,0,lc0⟩
theorem jU (fa:Nat→TA) (n:Nat) (a:TA):fQ (fun i=>if i=n then a else fa i) (n+1)=fQ fa n++[.pointer (some ⟨a.b,0,none⟩)]:=by
 unfold fQ
 rw [←ptrs_push]
 congr 1
 funext i
 by_cases e:i=n<;>simp [e]
section
variable {α:Type}
theorem all_push2 {f:Nat→α} {T:Nat→α→aC} {b:α} (h:(Sep (All n fun i=>T i (f i)) (T n b)).at_ S w):(All (n+1) fun i=>T i (if i=n then b else f i)).at_ S w:=by
 have e:All (n+1) (fun i=>T i (if i=n then b else f i))=Sep (All n fun i=>T i (f i)) (T n b):=by
  simp only [All]
  rw [fH (T:=fun i=>T i (if i=n then b else f i)) (T':=fun i=>T i (f i)) fun k hk=>by rw [if_neg (by omega)]]
  simp
 rw [e];exact h
theorem opc_one (o:OpR):∀ u∈(opc o).toList,u.oneCell'=true:=by
 intro u hu
 simp [opc] at hu
 rcases hu with rfl|rfl|rfl|rfl|rfl|rfl<;>rfl
theorem opL_one (o:Nat→Opn) (n:Nat):∀ u∈opL o n,u.oneCell'=true:=by
 induction n with
 | zero=>intro u hu;simp [opL] at hu
 | succ n ih=>
  intro u hu
  rw [opL,List.mem_append] at hu
  rcases hu with hu|hu
  · exact ih u hu
  · exact opc_one _ u hu
end
section
def HpN (O:aC) (c:Cf) (g cap cb:Nat) (A:CA) (yb hb:Nat) (sv:Value) (j:Nat) (fa:Nat→TA) (no:Nat→Nat) (sc:Nat→Nat→Opn):aC:=
 Sep (Sep (Sep (Sep (Sep (Sep O (Var cb (aD c (.slice (some ⟨g,0,none⟩) c.shapes.length cap)) 34)) (aE A c (q0 c))) (CyO yb c y00)) (Var hb (eD A.b yb sv 0) 87)) (cQ 101 1 sv j (fQ fa j))) (Ths c j fa no sc fun _=>p00)
theorem hp_order {A B C D E F:aC} (h:(Sep (Sep (Sep (Sep (Sep (Sep O B) C) D) E) F) A).at_ S w):(Sep O (Sep B (Sep (Sep E F) (Sep (Sep C D) A)))).at_ S w:=by
 have h1:(Sep O (Sep B (Sep (Sep C D) (Sep (Sep E F) A)))).at_ S w:=by
  have h2:(Sep O (Sep B (Sep C (Sep D (Sep E (Sep F A)))))).at_ S w:=aB.assoc (aB.assoc (aB.assoc (aB.assoc (aB.assoc h))))
  exact aB.monoR (fun _ h=>aB.monoR (fun _ h=>aB.assoc' (aB.monoR (fun _ h=>aB.monoR (fun _ h=>aB.assoc' h) h) h)) h) h2
 exact aB.monoR (fun _ h=>aB.monoR (fun _ h=>jN h) h) h1
theorem hpn_done {cb yb hb:Nat} (hn:n≠0) (h:aA (HpN O c g cap cb A yb hb sv n fa no sc) S w w'):aA (Sep O (Hp A c (q0 c) yb y00 hb sv n fa no sc 0 fun _=>p00)) S w w':=by
 have h1:=(h.conv fun _ _ h=>hp_order h).drop (aU.both (aU.refl O) (aU.right _ _))
 exact h1.conv fun S w h=>aB.monoR (fun S h=>aB.monoL (fun S h=>aB.monoR (fun S h=>cX h hn) h) h) h
end
end
section
attribute [local go_sem] aF aI aO aV
open Go.Proofs.Tryz
open Go.RowKit
variable {a:Act} {K:Act→World→Prop} {ops:Array Oper} {args:Array Value} {c:Cf} {f:FuncId} {cap g t:Nat} {no:Nat→Nat} {sc:Nat→Nat→Opn} {o:Nat→Opn} {S:Nat→Prop} {v vs:Nat→Value} {P:Program} {O:aC} {v':Value} {w w' w1:World}
theorem dZ {o:Oper} {Q:Exit→Act→World→Prop} (s x:Operand) (t:TypeId)
 (ho:o.op=.call {callee:=.builtin .append,args:=#[s,x],argTypes:=#[t,t]}) (hw:Region.wanted o (yielded ops a.tmps)=true) (v u:Value) (hs:a.eval s=v) (hx:a.eval x=u)
 (hr:(Builtin.append_ #[t,t] o.type #[v,u]).run P w=.ok v' w') (h:K (a.put o.dst v') w'):if Region.wanted o (yielded ops a.tmps)=true then Oper.wp P o a w K Q else K (a.put o.dst undef) w:=by
 rw [if_pos hw]
 unfold Oper.wp execOp
 simp only [ho,resolve,invoke,builtin,Sem.run_bind,Sem.run_pure,Result.andThen_ok,List.map_toArray,List.map_cons,List.map_nil,hs,hx,hr]
 exact h
theorem tho_new {a:TA} {no:Nat} (h:(aT a.b t (a.ov no) a.lg c.locals tc0 lc0 (Seq 6 (a.ov no) no (opL o no))).at_ S w):(ThO c a t no o p00).at_ S w:=
 ⟨tc0,⟨rfl,rfl,rfl,rfl,rfl,by simp [p00],by simp [p00],by simp [p00],by simp [p00],by simp [p00]⟩,by
  rw [bB (by simp [p00]) (by simp [p00])]
  exact aB.monoR (fun _ h=>aB.monoR (fun _ h=>sep_emp h) h) h⟩
section
structure jQ (O:aC) (gb go n:Nat) (vs:Nat→Value) (no:Nat→Nat) (sc:Nat→Nat→Opn):Prop where
 cell:∀ S w,O.at_ S w→∀ t,t<n→w.cell? ⟨gb,go+t,none⟩=some (vs t)
 seq:∀ S w,O.at_ S w→∀ t,t<n→∃ S',(Seq 6 (vs t) (no t) (opL (sc t) (no t))).at_ S' w
 len:∀ t,t<n→1≤no t∧no t≤1000
theorem aA.callx4 {T:Nat→Nat→Nat→Nat→aC} (h:aA O S w w1) (hc:∀ S',O.at_ S' w1→Calls P f args w1 fun e w2=>∃ b og oc lg,e=.returned (v b)∧aA (Sep O (T b og oc lg)) S' w1 w2):
 Calls P f args w1 fun e w2=>∃ b og oc lg,e=.returned (v b)∧aA (Sep O (T b og oc lg)) S w w2:=by
 have:=h.callx (O':=fun x:Nat×Nat×Nat×Nat=>Sep O (T x.1 x.2.1 x.2.2.1 x.2.2.2)) (R:=fun x e=>e=.returned (v x.1)) fun S' h'=>(hc S' h').mono fun e w2 ⟨b,og,oc,lg,he,hg⟩=>⟨(b,og,oc,lg),he,hg⟩
 exact this.mono fun e w2 ⟨x,he,hg⟩=>⟨x.1,x.2.1,x.2.2.1,x.2.2.2,he,hg⟩
theorem heap_new {gb go n capn:Nat} (hc:c.ok) (hcf:∀ S w,O.at_ S w→∃ S',(aZ c g cap).at_ S' w) (hI:jQ O gb go n vs no sc) (hn:n=c.threads) (h:O.at_ S w):
 Calls prog 10 #[cfV c g cap,.slice (some ⟨gb,go,none⟩) n capn] w fun e w'=>∃ (A:CA) (yb hb:Nat) (sv:Value) (fa:Nat→TA),e=.returned (.tuple #[.pointer (some ⟨hb,0,none⟩),.int .i64 0])∧aA (Sep O (Hp A c (q0 c) yb y00 hb sv n fa no sc 0 fun _=>p00)) S w w':=by
 obtain ⟨i0,hi,hz0,hz1,hz2⟩:=info_parts Tryz.info101
 have g0:=(aA.begin h).moreSt (St.fresh (aD c (.slice (some ⟨g,0,none⟩) c.shapes.length cap)) 34)
 obtain ⟨cb,hcb⟩:∃ k,w.heap.size=k:=⟨_,rfl⟩
 rw [hcb] at g0
 have cf9:∀ (O':aC) (w1:World),aA (Sep O' (Var cb (aD c (.slice (some ⟨g,0,none⟩) c.shapes.length cap)) 34)) S w w1→w1.cell? ⟨cb,0,none⟩=some (.int .i64 c.frags)∧w1.cell? ⟨cb,1,none⟩=some (.int .i64 c.spine)∧w1.cell? ⟨cb,2,none⟩=some (.int .i64 c.globals)∧w1.cell? ⟨cb,3,none⟩=some (.int .i64 c.threads)∧
  w1.cell? ⟨cb,4,none⟩=some (.int .i64 c.locals)∧w1.cell? ⟨cb,5,none⟩=some (.int .i64 0)∧w1.cell? ⟨cb,6,none⟩=some (.int .i64 c.stack)∧w1.cell? ⟨cb,7,none⟩=some (.int .i64 c.low)∧w1.cell? ⟨cb,8,none⟩=some (.slice (some ⟨g,0,none⟩) c.shapes.length cap):=fun _ _ h=>⟨h.r.vc 0 rfl,h.r.vc 1 rfl,h.r.vc 2 rfl,h.r.vc 3 rfl,h.r.vc 4 rfl,h.r.vc 5 rfl,h.r.vc 6 rfl,h.r.vc 7 rfl,h.r.vc 8 rfl⟩
 have C9:=zz cf9
 have HCO:=zz fun w1 X (gg:aA (Sep O X) S w w1)=>gg.callx (fun S h=>core_new (O:=Sep O X) hc (fun S w h=>let ⟨S1,a,_⟩:=aB.l h;hcf S1 w a) h)
 have HI:=zz hI
 have hth:=hc.threads
 have hlc:=hc.locals
 unfold cfV at*
 simp only [aD] at*
 clear h hcf cf9 hc hI
 go_enter func10,ntmps10
 go_upto_region 1 with fail
 generalize w.alloc _=w1 at*
 obtain ⟨c0,c1,c2,c3,c4,c5,c6,c7,c8⟩:=C9.out _ _ g0
 have HCA:=zz (HCO.out _ _ g0)
 clear HCO g0
 go_wp2_with fail
 with_reducible refine HCA.out.mono ?_
 rintro e w2 ⟨A,rfl,hg⟩
 clear HCA c0 c1 c2 c3 c4 c5 c6 c7 c8
 have c3:=hg.l.r.vi 3 c.threads
 have hnt:decide ((n:Int)>(c.threads:Int))=false:=by subst hn;simp
 go_wp2_with fail
 with_reducible refine (cycle_newO (c:=c) _).mono ?_
 rintro e w3 ⟨yb,rfl,hs⟩
 have g4:=(hg.moreSt hs).moreSt (St.fresh (eD A.b yb (.slice none 0 0) 0) 87)
 clear hg hs c3
 have g5:aA (HpN O c g cap cb A yb w3.heap.size (.slice none 0 0) 0 (fun _=>⟨0,0,0,0,0⟩) no sc) S w _:=(eL g4).conv fun _ _ h=>gK h
 have HG:=zz g5
 simp only [eD] at HG
 clear g4 g5 hnt
 go_upto_region 7 with fail
 generalize w3.heap.size=hb at*
 generalize w3.alloc _=w4 at*
 go_wp2_with fail
 go_loopw [9,10,31] (fun _ _ i wr=>∃ (j:Nat) (sv:Value) (fa:Nat→TA),j≤n∧i=.int .i64 j∧aA (HpN O c g cap cb A yb hb sv j fa no sc) S w wr) (fun _ _ i _=>n-(intOf i).toNat)
 case atStart=>exact ⟨0,_,_,Nat.zero_le _,rfl,HG.out⟩
 case round=>
  clear HG
  obtain ⟨j,sv,fa,hj,rfl,hg⟩:=hrel
  by_cases hlt:j<n
  · obtain ⟨hl1,hl2⟩:=HI.out.len j hlt
    have gO:=hg.l.l.l.l.l.l
    have e1:=HI.out.cell _ _ gO.is j hlt
    obtain ⟨S9,hseq⟩:=HI.out.seq _ _ gO.is j hlt
    obtain ⟨vg,vo,vc,hv,_,_⟩:=bN hseq
    have HV:=zz hv
    rw [hv] at e1
    have HJ:=zz (show j≤16 by omega)
    have HG:=zz hg
    clear hg hseq gO hj hv
    have hno:((no j:Nat):Int)≤1000:=by omega
    have hlti:(j:Int)<(n:Int):=by omega
    go_wp2_with fail
    have g7:=HG.out.drew_
    obtain ⟨sa,scap,hsv,_,_⟩:=bK HG.out.l.r.is.1
    have HSV:=zz hsv
    have HNW:=zz fun w1 (gg:aA (HpN O c g cap cb A yb hb sv j fa no sc) S w w1)=>gg.callx4 (fun S h=>act_new (O:=HpN O c g cap cb A yb hb sv j fa no sc) (t:=j) (n:=c.locals) (v:=vs j) hlc.1 hlc.2 hl2 (by omega) (opL_one (sc j) (no j)) (fun S w h=>let ⟨S1,a,_⟩:=aB.l h;let ⟨S2,b,_⟩:=aB.l a;let ⟨S3,d,_⟩:=aB.l b;let ⟨S4,e,_⟩:=aB.l d;let ⟨S5,f,_⟩:=aB.l e;let ⟨S6,k,_⟩:=aB.l f;HI.out.seq S6 w k j hlt) h)
    rw [HV.out] at HNW
    have cb4:=g7.l.l.l.l.l.r.vi 4 c.locals
    clear HG hsv e1
    refine wp_region_held_drew (S:=fun w'=>w'.cell? ⟨cb,4,none⟩=some (.int .i64 c.locals)) (by kernel_rfl) cb4 (fun hHeld=>?_)
    generalize World.drew _=wd at*
    clear cb4
    refine tk 0 ?_
    refine tk 1 ?_
    refine tk 2 ?_
    refine tk 3 ?_
    refine tk 5 ?_
    refine tk 6 ?_
    refine tk 7 ?_
    refine tk 8 ?_
    refine wpAnyH_ready (rs:=[4,9]) (by kernel_rfl) (by simp) ?_
    refine AllReadyH.cons (o:=_) rfl ?cA (AllReadyH.cons (o:=_) rfl ?cB AllReadyH.nil)
    case cA=>
     have c2:=g7.l.l.r.vC 2 sv
     rw [HSV.out] at c2
     intro K hK
     go_simp
     go_wp2_with fail
     refine hon hK (g7.l.l.l.l.l.r.vi 4 c.locals) fun hHeld=>?_
     clear hK K
     clear c2
     refine rdy 9 fun K hK=>?_
     go_simp
     with_reducible refine (HNW.out _ g7).mono ?_
     rintro e wA ⟨b',og,oc,lg,rfl,gA⟩
     go_wp2_with fail
     refine hon hK (gA.l.l.l.l.l.l.r.vi 4 c.locals) fun hHeld=>?_
     clear hK K
     refine rdy 10 fun K hK=>?_
     go_simp
     have gB:=gA.moreSt (St.fresh #[.pointer (some ⟨b',0,none⟩)] 101)
     go_wp2_with fail
     refine hon hK (gB.l.l.l.l.l.l.l.r.vi 4 c.locals) fun hHeld=>?_
     clear hK K
     obtain ⟨tb,htb⟩:∃ k,wA.heap.size=k:=⟨_,rfl⟩
     have hBe:(wA.alloc (.cells #[.pointer (some ⟨b',0,none⟩)] 101)).cell? ⟨tb,0,none⟩=some (.pointer (some ⟨b',0,none⟩)):=by rw [←htb,(Blk.new wA #[.pointer (some ⟨b',0,none⟩)] 101).cell];rfl
     rw [htb] at*
     clear htb
     generalize wA.alloc _=wB at*
     have hrow:=gB.l.l.l.r.is.1
     rw [HSV.out] at hrow
     obtain ⟨v',wC,hr,ho,hgr,hbk⟩:=bZ (P:=prog) wB 0 85 85 101 i0 (.pointer none) 1 8 underlying85 hi hz0 hz1 hz2 rfl (by decide) _ j (fQ fa j) hrow ⟨tb,0,none⟩ 1 1 [.pointer (some ⟨b',0,none⟩)] rfl
      (fun i u hu=>by match i,hu with|0,hu=>simp at hu;subst hu;simpa [Addr.add] using hBe) (fun u hu=>by simp at hu;subst hu;rfl) (by have:=HJ.out;unfold maxLen;omega) (by have:=HJ.out;omega) (Nat.zero_le _)
     obtain ⟨na,ncap,rfl,_,_⟩:=bK ho
     have gC:=gB.then (aG (aG (aG (aH (fun S h=>bS h (Below.refl _ _) ho (by rw [HSV.out];exact hgr) (by rw [HSV.out];exact hbk))))))
     have cb4:=gC.l.l.l.l.l.l.l.r.vi 4 c.locals
     refine rdy 11 fun K hK=>?_
     refine dZ _ _ _ rfl (by kernel_rfl) _ _ rfl rfl hr ?_
     refine hon hK cb4 fun hHeld=>?_
     clear hK K
     clear hr ho hgr hbk hBe hrow gB
     refine tk 12 ?_
     refine tk 13 ?_
     have c2:=gC.l.l.l.l.r.vC 2 sv
     rw [HSV.out] at c2
     have f2:=gC.l.l.l.l.r.vf 2
     have gD:=gC.then (aG (aG (aG (aG (aH (fun S h=>(aA.begin h).vput 2 (.slice na (j+1) ncap) (cs':=eD A.b yb (.slice na (j+1) ncap) 0) rfl))))))
     clear hHeld cb4
     have cb4:=gD.l.l.l.l.l.l.l.r.vi 4 c.locals
     refine rdy 14 fun K hK=>?_
     go_simp
     go_wp2_with fail
     refine hon hK (cb4) fun hHeld=>?_
     clear hK K
     refine wpAnyH_done (by kernel_rfl) ?_ _
     clear hHeld cb4 c2 f2 gC
     have gE:=gD.l
     have HE:=zz gE
     clear gD gE
     generalize World.setCell _ _ _=wE at*
     go_wp2_with fail
     go_round
     case rel=>
      refine ⟨j+1,.slice na (j+1) ncap,fun i=>if i=j then ⟨b',og,0,oc,lg⟩ else fa i,by omega,by go_num,?_⟩
      refine HE.out.conv fun S w h=>?_
      have h1:=aB.assoc h
      refine aB.monoR (fun _ h=>?_) (aB.monoL (fun _ h=>aB.monoR (fun _ h=>?_) h) h1)
      · exact all_push2 (T:=fun t a=>ThO c a t (no t) (sc t) p00) (aB.monoR (fun _ h=>tho_new h) h)
      · rw [jU];exact h
     case measure=>simp [intOf];omega
    case cB=>
     intro K hK
     go_simp
     with_reducible refine (HNW.out _ g7).mono ?_
     rintro e wA ⟨b',og,oc,lg,rfl,gA⟩
     go_wp2_with fail
     refine hon hK (gA.l.l.l.l.l.l.r.vi 4 c.locals) fun hHeld=>?_
     clear hK K
     refine wpAnyH_ready (rs:=[4,10]) (by kernel_rfl) (by simp) ?_
     refine AllReadyH.cons (o:=_) rfl ?cC (AllReadyH.cons (o:=_) rfl ?cD AllReadyH.nil)
     case cC=>
      have c2:=gA.l.l.l.r.vC 2 sv
      rw [HSV.out] at c2
      intro K hK
      go_simp
      go_wp2_with fail
      refine hon hK (gA.l.l.l.l.l.l.r.vi 4 c.locals) fun hHeld=>?_
      clear hK K
      clear c2
      refine rdy 10 fun K hK=>?_
      go_simp
      have gB:=gA.moreSt (St.fresh #[.pointer (some ⟨b',0,none⟩)] 101)
      go_wp2_with fail
      refine hon hK (gB.l.l.l.l.l.l.l.r.vi 4 c.locals) fun hHeld=>?_
      clear hK K
      obtain ⟨tb,htb⟩:∃ k,wA.heap.size=k:=⟨_,rfl⟩
      have hBe:(wA.alloc (.cells #[.pointer (some ⟨b',0,none⟩)] 101)).cell? ⟨tb,0,none⟩=some (.pointer (some ⟨b',0,none⟩)):=by rw [←htb,(Blk.new wA #[.pointer (some ⟨b',0,none⟩)] 101).cell];rfl
      rw [htb] at*
      clear htb
      generalize wA.alloc _=wB at*
      have hrow:=gB.l.l.l.r.is.1
      rw [HSV.out] at hrow
      obtain ⟨v',wC,hr,ho,hgr,hbk⟩:=bZ (P:=prog) wB 0 85 85 101 i0 (.pointer none) 1 8 underlying85 hi hz0 hz1 hz2 rfl (by decide) _ j (fQ fa j) hrow ⟨tb,0,none⟩ 1 1 [.pointer (some ⟨b',0,none⟩)] rfl
       (fun i u hu=>by match i,hu with|0,hu=>simp at hu;subst hu;simpa [Addr.add] using hBe) (fun u hu=>by simp at hu;subst hu;rfl) (by have:=HJ.out;unfold maxLen;omega) (by have:=HJ.out;omega) (Nat.zero_le _)
      obtain ⟨na,ncap,rfl,_,_⟩:=bK ho
      have gC:=gB.then (aG (aG (aG (aH (fun S h=>bS h (Below.refl _ _) ho (by rw [HSV.out];exact hgr) (by rw [HSV.out];exact hbk))))))
      have cb4:=gC.l.l.l.l.l.l.l.r.vi 4 c.locals
      refine rdy 11 fun K hK=>?_
      refine dZ _ _ _ rfl (by kernel_rfl) _ _ rfl rfl hr ?_
      refine hon hK cb4 fun hHeld=>?_
      clear hK K
      clear hr ho hgr hbk hBe hrow gB
      refine tk 12 ?_
      refine tk 13 ?_
      have c2:=gC.l.l.l.l.r.vC 2 sv
      rw [HSV.out] at c2
      have f2:=gC.l.l.l.l.r.vf 2
      have gD:=gC.then (aG (aG (aG (aG (aH (fun S h=>(aA.begin h).vput 2 (.slice na (j+1) ncap) (cs':=eD A.b yb (.slice na (j+1) ncap) 0) rfl))))))
      clear hHeld cb4
      have cb4:=gD.l.l.l.l.l.l.l.r.vi 4 c.locals
      refine rdy 14 fun K hK=>?_
      go_simp
      go_wp2_with fail
      refine hon hK (cb4) fun hHeld=>?_
      clear hK K
      refine wpAnyH_done (by kernel_rfl) ?_ _
      clear hHeld cb4 c2 f2 gC
      have gE:=gD.l
      have HE:=zz gE
      clear gD gE
      generalize World.setCell _ _ _=wE at*
      go_wp2_with fail
      go_round
      case rel=>
       refine ⟨j+1,.slice na (j+1) ncap,fun i=>if i=j then ⟨b',og,0,oc,lg⟩ else fa i,by omega,by go_num,?_⟩
       refine HE.out.conv fun S w h=>?_
       have h1:=aB.assoc h
       refine aB.monoR (fun _ h=>?_) (aB.monoL (fun _ h=>aB.monoR (fun _ h=>?_) h) h1)
       · exact all_push2 (T:=fun t a=>ThO c a t (no t) (sc t) p00) (aB.monoR (fun _ h=>tho_new h) h)
       · rw [jU];exact h
      case measure=>simp [intOf];omega
     case cD=>
      intro K hK
      go_simp
      have gB:=gA.moreSt (St.fresh #[.pointer (some ⟨b',0,none⟩)] 101)
      go_wp2_with fail
      refine hon hK (gB.l.l.l.l.l.l.l.r.vi 4 c.locals) fun hHeld=>?_
      clear hK K
      obtain ⟨tb,htb⟩:∃ k,wA.heap.size=k:=⟨_,rfl⟩
      have hBe:(wA.alloc (.cells #[.pointer (some ⟨b',0,none⟩)] 101)).cell? ⟨tb,0,none⟩=some (.pointer (some ⟨b',0,none⟩)):=by rw [←htb,(Blk.new wA #[.pointer (some ⟨b',0,none⟩)] 101).cell];rfl
      rw [htb] at*
      clear htb
      generalize wA.alloc _=wB at*
      have c2:=gB.l.l.l.l.r.vC 2 sv
      rw [HSV.out] at c2
      refine rdy 4 fun K hK=>?_
      go_simp
      go_wp2_with fail
      refine hon hK (gB.l.l.l.l.l.l.l.r.vi 4 c.locals) fun hHeld=>?_
      clear hK K
      clear c2
      have hrow:=gB.l.l.l.r.is.1
      rw [HSV.out] at hrow
      obtain ⟨v',wC,hr,ho,hgr,hbk⟩:=bZ (P:=prog) wB 0 85 85 101 i0 (.pointer none) 1 8 underlying85 hi hz0 hz1 hz2 rfl (by decide) _ j (fQ fa j) hrow ⟨tb,0,none⟩ 1 1 [.pointer (some ⟨b',0,none⟩)] rfl
       (fun i u hu=>by match i,hu with|0,hu=>simp at hu;subst hu;simpa [Addr.add] using hBe) (fun u hu=>by simp at hu;subst hu;rfl) (by have:=HJ.out;unfold maxLen;omega) (by have:=HJ.out;omega) (Nat.zero_le _)
      obtain ⟨na,ncap,rfl,_,_⟩:=bK ho
      have gC:=gB.then (aG (aG (aG (aH (fun S h=>bS h (Below.refl _ _) ho (by rw [HSV.out];exact hgr) (by rw [HSV.out];exact hbk))))))
      have cb4:=gC.l.l.l.l.l.l.l.r.vi 4 c.locals
      refine rdy 11 fun K hK=>?_
      refine dZ _ _ _ rfl (by kernel_rfl) _ _ rfl rfl hr ?_
      refine hon hK cb4 fun hHeld=>?_
      clear hK K
      clear hr ho hgr hbk hBe hrow gB
      refine tk 12 ?_
      refine tk 13 ?_
      have c2:=gC.l.l.l.l.r.vC 2 sv
      rw [HSV.out] at c2
      have f2:=gC.l.l.l.l.r.vf 2
      have gD:=gC.then (aG (aG (aG (aG (aH (fun S h=>(aA.begin h).vput 2 (.slice na (j+1) ncap) (cs':=eD A.b yb (.slice na (j+1) ncap) 0) rfl))))))
      clear hHeld cb4
      have cb4:=gD.l.l.l.l.l.l.l.r.vi 4 c.locals
      refine rdy 14 fun K hK=>?_
      go_simp
      go_wp2_with fail
      refine hon hK (cb4) fun hHeld=>?_
      clear hK K
      refine wpAnyH_done (by kernel_rfl) ?_ _
      clear hHeld cb4 c2 f2 gC
      have gE:=gD.l
      have HE:=zz gE
      clear gD gE
      generalize World.setCell _ _ _=wE at*
      go_wp2_with fail
      go_round
      case rel=>
       refine ⟨j+1,.slice na (j+1) ncap,fun i=>if i=j then ⟨b',og,0,oc,lg⟩ else fa i,by omega,by go_num,?_⟩
       refine HE.out.conv fun S w h=>?_
       have h1:=aB.assoc h
       refine aB.monoR (fun _ h=>?_) (aB.monoL (fun _ h=>aB.monoR (fun _ h=>?_) h) h1)
       · exact all_push2 (T:=fun t a=>ThO c a t (no t) (sc t) p00) (aB.monoR (fun _ h=>tho_new h) h)
       · rw [jU];exact h
      case measure=>simp [intOf];omega
  · obtain rfl:j=n:=by omega
    have HF:=zz (hpn_done (by omega) hg)
    clear hg
    go_wp2_with fail
    go_ret2
    exact ⟨_,_,_,_,_,rfl,HF.out⟩
end
end
end Go.Proofs.YtgcmiahhkalfmaaGreat
