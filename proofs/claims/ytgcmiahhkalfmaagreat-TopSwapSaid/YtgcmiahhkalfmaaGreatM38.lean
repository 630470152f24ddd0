import Derived.Test.YtgcmiahhkalfmaaGreatM37
set_option maxRecDepth 100000
set_option maxHeartbeats 8000000
set_option linter.unusedVariables false
set_option linter.unusedSimpArgs false
namespace Go.Proofs.YtgcmiahhkalfmaaGreat
attribute [local go_sem] aF aI aO aV
open Go.Proofs.Tryz
open Go.RowKit
variable {args r rr:Array Value} {fu r2:Bool} {c:Cf} {f:FuncId} {x x':GrX} {xs:List Value} {b base bi bk d j k n sz t wb:Nat} {S:Nat→Prop} {T':Nat→aC} {o:OpR} {g g':Sw.Gr} {X:aC} {e:TypeId} {lv v v0 v1:Value} {w w' w1:World}
theorem Tryz.info177:(prog.info? 177).map (fun i=>(i.zero,i.size,i.bytes))=some (some (.agg #[.int .i64 0,.int .i64 0,.slice none 0 0]),3,40):=by kernel_rfl
theorem bE (h:w.ownsRow base e sz v n xs):∃ a cap,v=.slice a n cap:=by
 rcases h.2 with ⟨rfl,rfl⟩|⟨g,cap,cur,rfl,_⟩
 · exact ⟨none,0,rfl⟩
 · exact ⟨some ⟨g,0,none⟩,cap,rfl⟩
def nwM (k:Nat):Sw.Wd:=if k=2 then Sw.w0 else Sw.wN
def nwd (j:Nat):Value:=if j=2 then .complex .f64 0 0 else cJ
def nwL:List Value:=[cJ,cJ,.complex .f64 0 0]
section
theorem row_vgs3 (h:(cQ 25 1 v 3 nwL).at_ S w):∃ wb wc,v=.slice (some ⟨wb,0,none⟩) 3 wc∧(Vgs wb 3 25 (jM nwM)).at_ S w:=by
 obtain ⟨⟨_,h2⟩,h3⟩:=h
 rcases h2 with ⟨_,e⟩|⟨q,cap,cur,rfl,_,e2,e3,e4,e5,e6⟩
 · omega
 · refine ⟨q,cap,rfl,cur,e2,?_,fun j hj=>?_,(h3 q).2 rfl,fun k hk=>?_⟩
   · have:=congrArg List.length e6
     simp [nwL] at this;omega
   · have h1:(cur.toList.take 3)[j]? = nwL[j]? := by rw [←e6]
     rw [List.getElem?_take_of_lt hj] at h1
     have h1':cur[j]? = nwL[j]? := by simpa using h1
     rw [h1']
     have:j=0∨j=1∨j=2:=by omega
     rcases this with rfl|rfl|rfl
     · show some cJ=some (cx 0 1);rw [cx01]
     · show some cJ=some (cx 0 1);rw [cx01]
     · show some (Value.complex .f64 0 0)=some (.complex .f64 (fl 0) (fl 0));rw [fl0]
   · have:=(h3 k).1 hk
     simp [Value.ownBlock] at this;exact this.symm
theorem all_push3 {T:Nat→aC} (e:∀ k,k<n→T' k=T k) (eX:T' n=X) (h:(Sep (All n T) X).at_ S w):(All (n+1) T').at_ S w:=by
 have:All (n+1) T'=Sep (All n T) X:=by
  simp only [All]
  rw [fH (T:=T') (T':=T) e,eX]
 rw [this];exact h
theorem thgs_congr {x x':GrX}:∀ {n:Nat},(∀ d,d<n→x'.wb d=x.wb d∧x'.wc d=x.wc d)→fI x' n=fI x n
 | 0,_=>rfl
 | n+1,h=>by
  unfold fI
  rw [thgs_congr fun d hd=>h d (by omega),(h n (by omega)).1,(h n (by omega)).2]
def GrX.more (x:GrX) (n wb wc:Nat) (lv:Value):GrX:={x with lv:=lv,wb:=fun d=>if d=n then wb else x.wb d,wc:=fun d=>if d=n then wc else x.wc d}
def Gr1 (g:Sw.Gr):Sw.Gr:={g with len:=g.len+1,f:=Sw.set g.f g.len nwM}
def GrM (b:Nat) (c:Cf) (x:GrX) (g:Sw.Gr) (lv:Value) (n:Nat) (l:List Value):aC:=
 Sep (Var b (grC c {x with lv:=lv}) 73) (Sep (aZ c x.g x.cap) (Sep (Sep (cQ 177 3 lv n l) (All g.len fun d=>Vgs (x.wb d) 3 25 (jM (g.f d))))
  (Sep (Sep (bV x.tb 2 4 (thM g.th)) (bV x.lb 2 59 (lsM c x g.th))) (Sep (Vgs x.gb 2 25 (jM g.g)) (All 2 (LsT c x g))))))
theorem grm_done {wc:Nat} (h:(Sep (GrM b c x g lv (g.len+1) (fI x g.len++[.int .i64 0,.int .i64 0,.slice (some ⟨wb,0,none⟩) 3 wc])) (Vgs wb 3 25 (jM nwM))).at_ S w):(GrB b c (x.more g.len wb wc lv) (Gr1 g)).at_ S w:=by
 have h1:=aB.monoR (fun _ h=>aB.monoR (fun _ h=>aB.monoL (fun _ h=>aB.assoc h) (aB.rot h)) (aB.assoc h)) (aB.assoc h)
 have e1:fI (x.more g.len wb wc lv) (g.len+1)=fI x g.len++[.int .i64 0,.int .i64 0,.slice (some ⟨wb,0,none⟩) 3 wc]:=by
  show fI (x.more g.len wb wc lv) g.len++[.int .i64 0,.int .i64 0,.slice (some ⟨if g.len=g.len then wb else x.wb g.len,0,none⟩) 3 (if g.len=g.len then wc else x.wc g.len)]=_
  rw [thgs_congr (x:=x) (x':=x.more g.len wb wc lv) fun d hd=>by unfold GrX.more;simp only;rw [if_neg (by omega),if_neg (by omega)];exact ⟨rfl,rfl⟩,if_pos rfl,if_pos rfl]
 unfold GrB
 show (Sep _ (Sep _ (Sep (Sep (cQ _ 3 _ (g.len+1) (fI (x.more g.len wb wc lv) (g.len+1))) (All (g.len+1) _)) _))).at_ S w
 rw [e1]
 refine aB.monoR (fun _ h=>aB.monoR (fun _ h=>aB.monoL (fun _ h=>aB.monoR (fun _ h=>all_push3 (fun k hk=>?_) ?_ h) h) h) h) h1
 · unfold GrX.more Gr1 Sw.set;simp only;rw [if_neg (by omega),if_neg (by omega)]
 · unfold GrX.more Gr1 Sw.set;simp
def MkT (b:Nat) (c:Cf) (x:GrX) (g:Sw.Gr) (y:Option Addr) (yk b7 b9:Nat) (v:Value) (j:Nat):aC:=
 Sep (Sep (Sep (GrS b c x g (.slice y 3 yk) [true,true,false]) (Var b7 #[.bool false,.slice y 3 yk] 55)) (Var b9 #[.int .i64 0,.int .i64 0,v] 177)) (cQ 25 1 v j (nwL.take j))
def MkD (b:Nat) (c:Cf) (x:GrX) (g:Sw.Gr) (y:Option Addr) (yk b7 b9 wb wc:Nat):aC:=
 Sep (Sep (Sep (GrS b c x g (.slice y 3 yk) [true,true,false]) (Var b7 #[.bool false,.slice y 3 yk] 55)) (Var b9 #[.int .i64 0,.int .i64 0,.slice (some ⟨wb,0,none⟩) 3 wc] 177)) (Vgs wb 3 25 (jM nwM))
theorem gr_make (hc:c.ok) (hs:c.shapes[0]? = some (false,[true,true,false])) (hlen:g.len≤60) (w:World):
 aN prog 88 #[.pointer (some ⟨b,0,none⟩),.int .i64 0,.int .i64 0] w (GrB b c x g) (fun (x':GrX) e=>e=.returned (.int .i64 g.len)∧x'.xb=x.xb) (fun x'=>GrB b c x' (Gr1 g)):=by
 intro S h
 obtain ⟨i0,hi,hz0,hz1,hz2⟩:=info_parts Tryz.info25
 obtain ⟨i1,hj,hy0,hy1,hy2⟩:=info_parts Tryz.info177
 obtain ⟨c0,c1,c2,c3,c4,c5,c6,c7,c8⟩:=gr_conf9 (aA.begin h)
 have HSH:=zz (gr_shapeD (b:=b) (x:=x) (g:=g) hc hs w S h)
 have HLN:=zz hlen
 unfold cfV at HSH
 clear h hc hs hlen
 go_enter func88,ntmps88
 go_wp2_with fail
 with_reducible refine HSH.out.mono ?_
 rintro e w2 ⟨⟨y,yk⟩,rfl,hg⟩
 clear HSH c0 c1 c2 c3 c4 c5 c6 c7 c8
 have g1:=hg.moreSt (St.fresh #[.bool false,.slice y 3 yk] 55)
 have g4:=g1.moreSt (St.fresh #[.int .i64 0,.int .i64 0,.slice none 0 0] 177)
 rw [World.size_alloc] at g4
 have k1:=g4.l.r.vC 1 (.slice y 3 yk)
 have k0:=g4.l.r.vb 0 false
 have HG:=zz (show aA (MkT b c x g y yk w2.heap.size (w2.heap.size+1) (.slice none 0 0) 0) S w _ from eL (e:=25) (sz:=1) g4)
 clear hg g1 g4
 go_wp2_with fail
 clear k0 k1
 generalize (w2.alloc _).alloc _=w3 at*
 generalize w2.heap.size+1=b9 at*
 generalize w2.heap.size=b7 at*
 go_loopw [11,12,13] (fun i _ _ wr=>∃ (j:Nat) (v:Value) (wx:World),wx=wr∧j≤3∧i=.int .i64 j∧aA (MkT b c x g y yk b7 b9 v j) S w wx) (fun i _ _ _=>3-(intOf i).toNat)
 case atStart=>exact ⟨0,_,_,rfl,by omega,rfl,HG.out⟩
 case round=>
  clear HG
  obtain ⟨j,v,wr,rfl,hj3,rfl,hg⟩:=hrel
  unfold MkT at hg
  obtain ⟨va,vc,rfl⟩:=bE hg.r.is.1
  have k0:=hg.l.l.r.vb 0 false
  have k1:=hg.l.l.r.vC 1 (.slice y 3 yk)
  have b2:=hg.l.r.vC 2 (.slice va j vc)
  have HG:=zz hg
  have HR:=zz hg.r.is.1
  rcases (by omega:j=0∨j=1∨j=2∨j=3) with rfl|rfl|rfl|rfl
  case' inl=>
   obtain ⟨r,rfl,cz⟩:=hg.l.l.l.gref (j:=0) (z:=true) rfl
   obtain ⟨wd,hwd⟩:∃ wd,nwd 0=wd:=⟨_,rfl⟩
   go_wp2_with fail
   refine qq (jD _) ?_
   dsimp only
   unfold cJ
  case' inr.inl=>
   obtain ⟨r,rfl,cz⟩:=hg.l.l.l.gref (j:=1) (z:=true) rfl
   obtain ⟨wd,hwd⟩:∃ wd,nwd 1=wd:=⟨_,rfl⟩
   go_wp2_with fail
   refine qq (jD _) ?_
   dsimp only
   unfold cJ
  case' inr.inr.inl=>
   obtain ⟨r,rfl,cz⟩:=hg.l.l.l.gref (j:=2) (z:=false) rfl
   obtain ⟨wd,hwd⟩:∃ wd,nwd 2=wd:=⟨_,rfl⟩
  case inr.inr.inr=>
   obtain ⟨wb,wc,ev,hvx⟩:=row_vgs3 hg.r.is
   cases ev
   clear hvx
   have g5:aA (MkD b c x g y yk b7 b9 wb vc) S w wr:=hg.conv fun S w h=>aB.monoR (fun S h=>by
    obtain ⟨_,_,e,h'⟩:=row_vgs3 h
    cases e
    exact h') h
   have g6:=g5.drew_
   obtain ⟨la,lc,hlv⟩:=bE g6.l.l.l.gb.r.r.l.l.is.1
   clear HR k0 k1 b2 HG hg g5 hi hz0 hz1 hz2
   go_upto_region 14 with fail
   refine wp_region_held_drew (S:=fun w'=>w'.cell? ⟨b9,0,none⟩=some (.int .i64 0)∧w'.cell? ⟨b9,1,none⟩=some (.int .i64 0)∧w'.cell? ⟨b9,2,none⟩=some (.slice (some ⟨wb,0,none⟩) 3 vc)) (by kernel_rfl) ⟨g6.l.r.vi 0 0,g6.l.r.vi 1 0,g6.l.r.vC 2 (.slice (some ⟨wb,0,none⟩) 3 vc)⟩ (fun hHeld=>?_)
   generalize wr.drew=w5 at*
   refine tk 0 ?_
   refine tk 1 ?_
   refine tk 2 ?_
   refine tk 3 ?_
   refine tk 5 ?_
   have c9:=g6.l.l.l.l.vc 9 (v:=.slice la g.len lc) (by rw [←hlv];rfl)
   refine wpAnyH_ready (rs:=[4,6]) (by kernel_rfl) (by simp) ?_
   refine AllReadyH.cons (o:=_) rfl ?cA (AllReadyH.cons (o:=_) rfl ?cB AllReadyH.nil)
   case' cA=>
    intro K hK
    go_simp
    go_wp2_with fail
    refine hon hK ⟨g6.l.r.vi 0 0,g6.l.r.vi 1 0,g6.l.r.vC 2 (.slice (some ⟨wb,0,none⟩) 3 vc)⟩ fun hHeld=>?_
    clear hK K
    clear c9
    refine rdy 6 fun K hK=>?_
    go_simp
    have gB:=g6.moreSt (St.fresh #[.int .i64 0,.int .i64 0,.slice (some ⟨wb,0,none⟩) 3 vc] 177)
    go_wp2_with fail
    refine hon hK ⟨gB.l.l.r.vi 0 0,gB.l.l.r.vi 1 0,gB.l.l.r.vC 2 (.slice (some ⟨wb,0,none⟩) 3 vc)⟩ fun hHeld=>?_
    clear hK K
   case' cB=>
    clear c9
    intro K hK
    go_simp
    have gB:=g6.moreSt (St.fresh #[.int .i64 0,.int .i64 0,.slice (some ⟨wb,0,none⟩) 3 vc] 177)
    have c9:=gB.l.l.l.l.l.vc 9 (v:=.slice la g.len lc) (by rw [←hlv];rfl)
    go_wp2_with fail
    refine hon hK ⟨gB.l.l.r.vi 0 0,gB.l.l.r.vi 1 0,gB.l.l.r.vC 2 (.slice (some ⟨wb,0,none⟩) 3 vc)⟩ fun hHeld=>?_
    clear hK K
    refine rdy 4 fun K hK=>?_
    go_simp
    go_wp2_with fail
    refine hon hK ⟨gB.l.l.r.vi 0 0,gB.l.l.r.vi 1 0,gB.l.l.r.vC 2 (.slice (some ⟨wb,0,none⟩) 3 vc)⟩ fun hHeld=>?_
    clear hK K
    clear c9
   all_goals (
    obtain ⟨tb,htb⟩:∃ k,w5.heap.size=k:=⟨_,rfl⟩
    have hBe:∀ (i:Nat) (u:Value),([.int .i64 0,.int .i64 0,.slice (some ⟨wb,0,none⟩) 3 vc]:List Value)[i]? = some u→(w5.alloc (.cells #[.int .i64 0,.int .i64 0,.slice (some ⟨wb,0,none⟩) 3 vc] 177)).cell? ((⟨tb,0,none⟩:Addr).add i)=some u:=fun i u hu=>by
     rw [bU,←htb,(Blk.new w5 _ 177).cell,Nat.zero_add]
     simpa using hu
    rw [htb] at*
    clear htb
    generalize w5.alloc _=wB at*
    have hrow:=gB.l.l.l.l.gb.r.r.l.l.is.1
    rw [hlv] at hrow
    obtain ⟨v',wC,hr,ho,hgr,hbk⟩:=bZ (P:=prog) wB 0 69 69 177 i1 (.agg #[.int .i64 0,.int .i64 0,.slice none 0 0]) 3 40 underlying69 hj hy0 hy1 hy2 rfl (by decide) _ g.len (fI x g.len) hrow ⟨tb,0,none⟩ 1 1 [.int .i64 0,.int .i64 0,.slice (some ⟨wb,0,none⟩) 3 vc] rfl hBe
     (fun u hu=>by simp at hu;rcases hu with rfl|rfl|rfl<;>rfl) (by have:=HLN.out;unfold maxLen;omega) (by have:=HLN.out;omega) (Nat.zero_le _)
    have gC:=gB.then (aG (aG (aG (aG (aH (aH (aG (aG (fun S h=>bS (m:=1) (news:=[.int .i64 0,.int .i64 0,.slice (some ⟨wb,0,none⟩) 3 vc]) h (Below.refl _ _) ho (by rw [hlv];exact hgr) (by rw [hlv];exact hbk))))))))))
    have gD:=gC.then (aG (aG (aG (aG (aG (fun S h=>(aA.begin h).vput 9 v' (cs':=grC c {x with lv:=v'}) rfl))))))
    have f9:=gC.l.l.l.l.l.vf 9
    have c9:=gC.l.l.l.l.l.vc 9 (v:=.slice la g.len lc) (by rw [←hlv];rfl)
    have d9:=gD.l.l.l.l.l.vC 9 v'
    refine rdy 7 fun K hK=>?_
    refine dZ _ _ _ rfl (by kernel_rfl) _ _ rfl rfl hr ?_
    refine hon hK ⟨gC.l.l.r.vc 0 rfl,gC.l.l.r.vc 1 rfl,gC.l.l.r.vc 2 rfl⟩ fun hHeld=>?_
    clear hK K
    have g9:=((gD.drop (aU.trans (aU.left _ _) (aU.both (aU.trans (aU.left _ _) (aU.left _ _)) (aU.refl _)))).conv fun S w h=>grm_done (b:=b) (c:=c) (x:=x) (g:=g) (lv:=v') (wb:=wb) (wc:=vc) (aB.monoL (fun S h=>aB.monoR (fun S h=>aB.monoL (fun S h=>And.left h) h) h) h))
    have HF:=zz g9
    obtain ⟨na,nc,rfl⟩:=bE ho
    clear hr ho hgr hbk hBe hrow gB g9
    refine tk 8 ?_
    refine tk 9 ?_
    refine rdy 10 fun K hK=>?_
    go_simp
    go_wp2_with fail
    refine hon hK ⟨gD.l.l.r.vi 0 0,gD.l.l.r.vi 1 0,gD.l.l.r.vC 2 (.slice (some ⟨wb,0,none⟩) 3 vc)⟩ fun hHeld=>?_
    clear hK K
    refine wpAnyH_done (by kernel_rfl) ?_ _
    clear hHeld c9 f9 gC gD
    go_wp2_with fail
    go_ret
    refine ⟨x.more g.len wb vc (.slice na (g.len+1) nc),⟨?_,rfl⟩,HF.out⟩
    have:=HLN.out
    show Ending.returned (.int .i64 (wrap64 (g.len:Int)))=_
    rw [show wrap64 (g.len:Int)=(g.len:Int) by unfold wrap64;omega])
  all_goals (
   clear hg
   go_wp2_with (at_builtin;refine bI rfl _ _ 71 rfl 25 i0 (.complex .f64 0 0) 1 16 underlying71 hi hz0 hz1 hz2 rfl (by decide) _ _ _ rfl (HR.out.alloc _) ⟨wr.heap.size,0,none⟩ 1 1 [wd] rfl ?c0 ?c1 ?c2 ?c3 (by decide) ?_)
   case c0=>rfl
   case c1=>
    intro j u hj
    rw [bU,(Blk.new wr _ 25).cell,Nat.zero_add]
    subst hwd
    simpa [nwd,cJ] using hj
   case c2=>intro u hu;simp at hu;subst hu;subst hwd;rfl
   case c3=>omega
   intro v' w4 ho hgr hbk
   have gX:=HG.out.then (aH (fun S h=>bS (m:=1) (news:=[wd]) h ((Below.refl wr.heap.size wr).alloc (Nat.le_refl _) (.cells #[wd] 25)) ho (by subst hwd;exact hgr) (by simpa using hbk)))
   have gY:=gX.then (aG (aH (fun S h=>(aA.begin h).vput 2 v' rfl)))
   have f2:=gX.l.r.vf 2
   have c2:=gX.l.r.vc 2 rfl
   obtain ⟨na,nc,rfl⟩:=bE ho
   have HY:=zz gY
   clear HG HR ho hgr hbk gX gY b2
   subst hwd
   go_wp2_with fail
   go_round
   case rel=>first|exact ⟨1,_,_,rfl,by omega,rfl,HY.out⟩|exact ⟨2,_,_,rfl,by omega,rfl,HY.out⟩|exact ⟨3,_,_,rfl,by omega,rfl,HY.out⟩
   case measure=>simp [intOf]
   )
end
def dsR (r:Bool) (v:Sw.Wd) (er:Int):Value:=.tuple #[.agg #[.bool r,cx v.k v.i],.int .i64 er]
section
def GdO (b:Nat) (c:Cf) (x:GrX) (g:Sw.Gr) (k:Nat) (o:OpR):aC:=Sep (GrB b c x g) (Var k (opc o) 27)
def GdT (b:Nat) (c:Cf) (x:GrX) (g:Sw.Gr) (k:Nat) (o:OpR) (r:Array Value):aC:=
 Sep (Sep (GdO b c x g k o) (Var (k+1) r 39)) (Var (k+1+1) #[.bool false,.complex .f64 0 0] 39)
def gdW (w:World) (o:OpR):World:=((w.alloc (.cells (opc o) 27)).alloc (.cells #[.bool false,.complex .f64 0 0] 39)).alloc (.cells #[.bool false,.complex .f64 0 0] 39)
theorem eE (o:OpR) (h:(GrB b c x g).at_ S w):aA (GdT b c x g w.heap.size o #[.bool false,.complex .f64 0 0]) S w (gdW w o):=by
 have g0:=(((aA.begin h).moreSt (St.fresh (opc o) 27)).moreSt (St.fresh #[.bool false,.complex .f64 0 0] 39)).moreSt (St.fresh #[.bool false,.complex .f64 0 0] 39)
 simp only [World.size_alloc] at g0
 exact g0
theorem eY {kd oa ob oc on z1 z2:Nat} (h:aA (GdO b c x g k ⟨kd,oa,ob,oc,on,z1,z2⟩) S w w'):w'.cell? ⟨k,0,none⟩=some (.int .i64 kd)∧w'.cell? ⟨k,1,none⟩=some (.int .i64 oa)∧w'.cell? ⟨k,2,none⟩=some (.int .i64 ob)∧w'.cell? ⟨k,4,none⟩=some (.int .i64 on):=
 ⟨h.r.vc 0 rfl,h.r.vc 1 rfl,h.r.vc 2 rfl,h.r.vc 4 rfl⟩
theorem eN {u0 u1:Value} (hr:r=#[u0,u1]) (h:aA (GdT b c x g k o r) S w w'):aA (GdT b c x g k o #[v0,v1]) S w ((w'.setCell ⟨k+1,0,none⟩ v0).setCell ⟨k+1,1,none⟩ v1):=
 h.then (aG (aH (fun S h=>((aA.begin h).vput 0 v0 (cs':=#[v0,u1]) (by subst hr;rfl)).vput 1 v1 (cs':=#[v0,v1]) rfl)))
theorem cM (h:aA (GdT b c x g k o #[v0,v1]) S w w'):w'.cell? ⟨k+1,0,none⟩=some v0∧w'.cell? ⟨k+1,1,none⟩=some v1∧w'.frozen? ⟨k+1,0,none⟩=false∧w'.frozen? ⟨k+1,1,none⟩=false∧aA (GrB b c x g) S w w':=⟨h.l.r.vc 0 rfl,h.l.r.vc 1 rfl,h.l.r.vf 0,h.l.r.vf 1,h.l.l.l⟩
theorem gr_glob (h:aA (GrB b c x g) S w w') (hj:j<2):w'.cell? ⟨b,12,none⟩=some (.slice (some ⟨x.gb,0,none⟩) 2 x.gc)∧w'.cell? ⟨x.gb,j,none⟩=some (cx (g.g j).k (g.g j).i):=⟨h.c 12 rfl,eS h.r.r.r.r.l.is hj⟩
theorem gr_loc (h:aA (GrB b c x g) S w w') (ht:t<2) (hth:g.th t=true):aA (bV (x.xb t) (c.locals*2) 39 (cG (g.l t))) S w w':=by
 have:=h.r.r.r.r.r.get ht
 unfold LsT at this
 rw [hth] at this
 exact this
theorem jH (h:aA (GrB b c x g) S w w') (ht:t<2) (hth:g.th t=true) (hj:j<c.locals):w'.cell? ⟨x.xb t,j*2,none⟩=some (.bool (g.l t j).ref)∧w'.cell? ⟨x.xb t,j*2+1,none⟩=some (cx (g.l t j).k (g.l t j).i):=by
 have h1:=gr_loc h ht hth
 have a:=aR (j:=j*2) h1.is (by omega)
 have b:=aR (j:=j*2+1) h1.is (by omega)
 rw [locM0] at a
 rw [locM1] at b
 exact ⟨a,b⟩
theorem fldM_set (f:Nat→Sw.Wd) (j:Nat) (v:Sw.Wd):jM (Sw.set f j v)=dH (jM f) j (cx v.k v.i):=by
 funext k
 unfold jM dH Sw.set
 by_cases e:k=j<;>simp [e]
theorem gr_gset (h:aA (GrB b c x g) S w w') (j:Nat) (v:Sw.Wd):aA (GrB b c x {g with g:=Sw.set g.g j v}) S w (w'.setCell ⟨x.gb,j,none⟩ (cx v.k v.i)):=
 h.then (aH (aH (aH (aH (aG (fun S h=>by rw [fldM_set];exact vgs_set h j _))))))
theorem all_goes {j:Nat} {T T':Nat→aC} {w2:World}:∀ {n:Nat},j<n→(∀ k,k<n→k≠j→T' k=T k)→(∀ S,(T j).at_ S w→aA (T' j) S w w2)→∀ U,(All n T).at_ U w→aA (All n T') U w w2
 | 0,hj,_,_,_,_=>absurd hj (Nat.not_lt_zero _)
 | n+1,hj,e,hc,U,h=>by
  by_cases ej:j=n
  · subst ej
    have:All (j+1) T'=Sep (All j T) (T' j):=by simp only [All];rw [fH (T:=T') (T':=T) fun k hk=>e k (by omega) (by omega)]
    rw [this]
    exact aH hc U h
  · have:All (n+1) T'=Sep (All n T') (T n):=by simp only [All];rw [e n (by omega) (by omega)]
    rw [this]
    exact aG (fun S h=>all_goes (by omega) (fun k hk=>e k (by omega)) hc S h) U h
theorem gr_fset (h:aA (GrB b c x g) S w w') (hd:d<g.len) (j:Nat) (v:Sw.Wd):aA (GrB b c x {g with f:=Sw.set g.f d (Sw.set (g.f d) j v)}) S w (w'.setCell ⟨x.wb d,j,none⟩ (cx v.k v.i)):=
 h.then (aH (aH (aG (aH (fun S h=>all_goes hd (fun k hk e=>by simp only [Sw.set,if_neg e]) (fun S h=>by
  simp only [Sw.set_same]
  rw [fldM_set]
  exact vgs_set h j _) S h)))))
theorem gr_fld (h:aA (GrB b c x g) S w w') (hd:d<g.len) (hj:j<3):w'.cell? ⟨x.wb d,j,none⟩=some (cx (g.f d j).k (g.f d j).i):=eS (h.r.r.l.r.get hd).is hj
theorem gd_7 (hk:o.kd=7) (hn:o.n<2) (w:World):
 aJ prog 41 #[.pointer (some ⟨b,0,none⟩),.int .i64 (t:Int),opR o,lv,.bool fu] w (GrB b c x g) (dsR true (g.g o.n) 0) (GrB b c x g):=by
 intro S h
 obtain ⟨kd,oa,ob,oc,on,z1,z2⟩:=o
 obtain rfl:kd=7:=hk
 have hn:on<2:=hn
 have g0:=eE ⟨7,oa,ob,oc,on,z1,z2⟩ h
 obtain ⟨d0,d1,d2,d4⟩:=eY g0.l.l
 have g1:=g0.drew_
 have HCC:=zz fun w1 (gg:aA (GdO b c x g w.heap.size ⟨7,oa,ob,oc,on,z1,z2⟩) S w w1)=>And.intro (eY gg) (gr_glob gg.l hn)
 have h0:(0:Int)≤(on:Int):=by omega
 have h1:(on:Int)<2:=by omega
 unfold gdW at*
 unfold opR dsR cx at*
 simp only [opc] at*
 clear h hn
 go_enter func41,ntmps41
 go_upto_region 29 with fail
 generalize ((w.alloc _).alloc _).alloc _=w1 at*
 generalize w.heap.size=k at*
 refine wp_region_held_drew (S:=fun w'=>aA (GdO b c x g k ⟨7,oa,ob,oc,on,z1,z2⟩) S w w') (by kernel_rfl) g1.l.l (fun hHeld=>?_)
 generalize w1.drew=w2 at*
 refine tkh 0 HCC.out ?_
 refine tkh 1 HCC.out ?_
 refine tkh 2 HCC.out ?_
 refine tkh 3 HCC.out ?_
 refine tkh 4 HCC.out ?_
 refine tkh 5 HCC.out ?_
 refine tkh 6 HCC.out ?_
 refine tkh 7 HCC.out ?_
 refine tkh 8 HCC.out ?_
 obtain ⟨q0,q1,f0,f1,_⟩:=cM g1
 have g2:=eN (v0:=.bool true) (v1:=.complex .f64 (fl (g.g on).k) (fl (g.g on).i)) rfl g1
 obtain ⟨r0,r1,_,_,HG⟩:=cM g2
 have HF:=zz HG
 clear g0
 refine rdy 9 fun K hK=>?_
 go_simp
 go_wp2_with fail
 refine hon hK g2.l.l fun hHeld=>?_
 clear hK K
 refine tk 10 ?_
 refine wpAnyH_done (by kernel_rfl) ?_ _
 clear hHeld g1 g2 q0 q1 f0 f1 HCC
 go_wp2_with fail
 (try rw [aI])
 exact bodyPost_ret (v:=.tuple #[.agg #[.bool true,.complex .f64 (fl (g.g on).k) (fl (g.g on).i)],.int .i64 0]) (by simp [results,results41,go_sem,r0,r1]) rfl ⟨rfl,HF.out⟩
theorem gd_8 (hk:o.kd=8) (hn:o.n<2) (ht:t<2) (hth:g.th t=true) (hb:o.b<c.locals) (w:World):
 aJ prog 41 #[.pointer (some ⟨b,0,none⟩),.int .i64 (t:Int),opR o,.slice (some ⟨x.xb t,0,none⟩) c.locals c.locals,.bool fu] w (GrB b c x g) (dsR false Sw.w0 0) (GrB b c x {g with g:=Sw.set g.g o.n (g.l t o.b).w}):=by
 intro S h
 obtain ⟨kd,oa,ob,oc,on,z1,z2⟩:=o
 obtain rfl:kd=8:=hk
 have hn:on<2:=hn
 have hb:ob<c.locals:=hb
 have g0:=eE ⟨8,oa,ob,oc,on,z1,z2⟩ h
 obtain ⟨d0,d1,d2,d4⟩:=eY g0.l.l
 have g1:=g0.drew_
 have HCC:=zz fun w1 (gg:∃ v,aA (GdO b c x {g with g:=v} w.heap.size ⟨8,oa,ob,oc,on,z1,z2⟩) S w w1)=>And.intro (eY gg.choose_spec) (And.intro (gr_glob gg.choose_spec.l hn).1 (jH gg.choose_spec.l ht hth hb))
 have h0:(0:Int)≤(on:Int):=by omega
 have h1:(on:Int)<2:=by omega
 have h2:(0:Int)≤(ob:Int):=by omega
 have h3:(ob:Int)<(c.locals:Int):=by omega
 have HN:=zz hn
 unfold gdW at*
 rw [show dsR false Sw.w0 0=.tuple #[.agg #[.bool false,.complex .f64 0 0],.int .i64 0] by unfold dsR Sw.w0 cx;rw [fl0]]
 unfold opR cx at*
 simp only [opc] at*
 clear h hn hth hb
 go_enter func41,ntmps41
 go_upto_region 31 with fail
 generalize ((w.alloc _).alloc _).alloc _=w1 at*
 generalize w.heap.size=k at*
 refine wp_region_held_drew (S:=fun w'=>∃ v,aA (GdO b c x {g with g:=v} k ⟨8,oa,ob,oc,on,z1,z2⟩) S w w') (by kernel_rfl) ⟨_,g1.l.l⟩ (fun hHeld=>?_)
 generalize w1.drew=w2 at*
 clear hHeld
 have hHeld:∃ v,aA (GdO b c x {g with g:=v} k ⟨8,oa,ob,oc,on,z1,z2⟩) S w w2:=⟨_,g1.l.l⟩
 refine tkh 0 HCC.out ?_
 refine tkh 1 HCC.out ?_
 refine tkh 2 HCC.out ?_
 refine tkh 3 HCC.out ?_
 refine tkh 4 HCC.out ?_
 refine tkh 5 HCC.out ?_
 refine tkh 6 HCC.out ?_
 refine tkh 7 HCC.out ?_
 refine tkh 8 HCC.out ?_
 refine tkh 9 HCC.out ?_
 refine tkh 10 HCC.out ?_
 refine tkh 11 HCC.out ?_
 refine tkh 12 HCC.out ?_
 have cg:=(gr_glob g1.l.l.l HN.out).2
 have fg:=vgs_free g1.l.l.l.r.r.r.r.l.is on
 have g2:=g1.then (aG (aG (aG (fun S h=>gr_gset (aA.begin h) on (g.l t ob).w))))
 unfold cx at cg g2
 clear g0
 refine rdy 13 fun K hK=>?_
 go_simp
 go_wp2_with fail
 refine hon hK ⟨_,g2.l.l⟩ fun hHeld=>?_
 clear hK K
 refine wpAnyH_done (by kernel_rfl) ?_ _
 clear hHeld HCC g1 cg fg
 unfold Lc.w at g2
 generalize World.setCell _ _ _=w3 at*
 obtain ⟨q0,q1,f0,f1,_⟩:=cM g2
 have n0:=g2.r.vb 0 false
 have n1:=g2.r.vC 1 (.complex .f64 0 0)
 have g3:=eN (v0:=.bool false) (v1:=.complex .f64 0 0) rfl g2
 obtain ⟨r0,r1,_,_,HG⟩:=cM g3
 have HF:=zz HG
 clear g2 g3 HG
 go_wp2_with fail
 (try rw [aI])
 exact bodyPost_ret (v:=.tuple #[.agg #[.bool false,.complex .f64 0 0],.int .i64 0]) (by simp [results,results41,go_sem,r0,r1]) rfl ⟨rfl,HF.out⟩
end
section
theorem gG (hd:d≤60) (w:World):Calls prog 16 #[cx (d+1) 1] w fun e w'=>e=.returned (.tuple #[.int .i64 d,.bool true])∧w=w':=by
 refine (sr_index (d+1) 1 w (by omega) (by omega)).mono fun e w2 ⟨h1,h2⟩=>⟨?_,h2⟩
 rw [h1]
 simp [ixI,ixB]
theorem nrf (hj:j<3):[true,true,false][j]? = some (decide (j<2)):=by
 have:j=0∨j=1∨j=2:=by omega
 rcases this with rfl|rfl|rfl<;>rfl
theorem hZ (h:aJ prog f args w1 (GrB b c x g) v (GrB b c x' g')) (gg:aA (GdT b c x g k o rr) S w w1):Calls prog f args w1 fun e w2=>e=.returned v∧aA (GdT b c x' g' k o rr) S w w2:=h.l.l.l.on gg
theorem gd_3 {r:Bool} (hc:c.ok) (hs:c.shapes[0]? = some (false,[true,true,false])) (hk:o.kd=3) (hn:o.n<3) (ht:t<2) (hth:g.th t=true) (hb:o.b<c.locals) (hl:g.l t o.b=⟨r,d+1,1⟩) (hd:d<g.len) (hlen:g.len≤60) (w:World):
 aJ prog 41 #[.pointer (some ⟨b,0,none⟩),.int .i64 (t:Int),opR o,.slice (some ⟨x.xb t,0,none⟩) c.locals c.locals,.bool fu] w (GrB b c x g) (dsR (decide (o.n<2)) (g.f d o.n) 0) (GrB b c x g):=by
 intro S h
 obtain ⟨kd,oa,ob,oc,on,z1,z2⟩:=o
 obtain rfl:kd=3:=hk
 replace hn:on<3:=hn
 replace hb:ob<c.locals:=hb
 replace hl:g.l t ob=⟨r,d+1,1⟩:=hl
 have g0:=eE ⟨3,oa,ob,oc,on,z1,z2⟩ h
 obtain ⟨d0,d1,d2,d4⟩:=eY g0.l.l
 have cb:=(jH g0.l.l.l ht hth hb).2
 rw [hl] at cb
 obtain ⟨lg,lc,hlv,_⟩:=iQ g0.l.l.l hd
 have HCC:=zz fun w1 (gg:aA (GdO b c x g w.heap.size ⟨3,oa,ob,oc,on,z1,z2⟩) S w w1)=>And.intro (eY gg) (And.intro (by rw [←hlv];exact gg.l.c 9 rfl:w1.cell? ⟨b,9,none⟩=some (.slice (some ⟨lg,0,none⟩) g.len lc)) (And.intro (jG gg.l hd hlv).2 (gr_fld gg.l hd hn)))
 have HPL:=zz fun w1 (gg:aA (GdT b c x g w.heap.size ⟨3,oa,ob,oc,on,z1,z2⟩ #[.bool false,.complex .f64 0 0]) S w w1)=>hZ (gr_place (b:=b) (x:=x) (g:=g) hc hd hn hs w1) gg
 have HKD:=zz fun w1 (gg:aA (GdT b c x g w.heap.size ⟨3,oa,ob,oc,on,z1,z2⟩ #[.bool false,.complex .f64 0 0]) S w w1)=>hZ (gr_kind (b:=b) (x:=x) (g:=g) (k:=on) hc hd (nrf hn) hs w1) gg
 have HIX:=zz fun w1=>gG (d:=d) (by omega) w1
 have h0:(0:Int)≤(on:Int):=by omega
 have h1:(on:Int)<3:=by omega
 have h2:(0:Int)≤(ob:Int):=by omega
 have h3:(ob:Int)<(c.locals:Int):=by omega
 have h4:(0:Int)≤(d:Int):=by omega
 have h5:(d:Int)<(g.len:Int):=by omega
 have HG0:=zz g0
 unfold gdW at*
 unfold opR dsR cx at*
 simp only [opc] at*
 clear h hn hth hb hl hd hc hs hlen g0
 go_enter func41,ntmps41
 go_upto_region 14 with fail
 generalize ((w.alloc _).alloc _).alloc _=w1 at*
 generalize w.heap.size=k at*
 go_wp2_with fail
 refine qq (HIX.out _) ?_
 clear HIX cb
 go_wp2_with fail
 refine qz (HPL.out _ HG0.out) fun w2 gA=>?_
 clear HPL HG0 d0 d1 d2 d4
 obtain ⟨d0,d1,d2,d4⟩:=eY gA.l.l
 go_upto_region 18 with fail
 clear d0 d1 d2 d4
 have g1:=gA.drew_
 clear gA
 refine wp_region_held_drew (S:=fun w'=>aA (GdO b c x g k ⟨3,oa,ob,oc,on,z1,z2⟩) S w w') (by kernel_rfl) g1.l.l (fun hHeld=>?_)
 generalize w2.drew=w3 at*
 refine tkh 0 HCC.out ?_
 refine tkh 1 HCC.out ?_
 refine tkh 2 HCC.out ?_
 refine tkh 3 HCC.out ?_
 refine tkh 5 HCC.out ?_
 refine tkh 6 HCC.out ?_
 refine tkh 7 HCC.out ?_
 refine tkh 8 HCC.out ?_
 refine tkh 9 HCC.out ?_
 refine tkh 10 HCC.out ?_
 refine tkh 11 HCC.out ?_
 refine tkh 12 HCC.out ?_
 refine tkh 13 HCC.out ?_
 refine tkh 14 HCC.out ?_
 refine tkh 15 HCC.out ?_
 refine tkh 16 HCC.out ?_
 refine tkh 18 HCC.out ?_
 refine rdy 4 fun K hK=>?_
 go_simp
 refine qz (HKD.out _ g1) fun w4 gB=>?_
 clear HKD g1
 go_wp2_with fail
 refine hon hK gB.l.l fun hHeld=>?_
 clear hK K
 refine tk 17 ?_
 generalize hdc:decide (on<2)=dc at*
 obtain ⟨q0,q1,f0,f1,_⟩:=cM gB
 have g2:=eN (v0:=.bool dc) (v1:=.complex .f64 (fl (g.f d on).k) (fl (g.f d on).i)) rfl gB
 obtain ⟨r0,r1,_,_,HG⟩:=cM g2
 have HF:=zz HG
 refine rdy 19 fun K hK=>?_
 go_simp
 go_wp2_with fail
 refine hon hK g2.l.l fun hHeld=>?_
 clear hK K
 refine tk 20 ?_
 refine wpAnyH_done (by kernel_rfl) ?_ _
 clear hHeld gB g2 q0 q1 f0 f1 HCC
 go_wp2_with fail
 (try rw [aI])
 exact bodyPost_ret (v:=.tuple #[.agg #[.bool dc,.complex .f64 (fl (g.f d on).k) (fl (g.f d on).i)],.int .i64 0]) (by simp [results,results41,go_sem,r0,r1]) rfl ⟨by rw [hdc],HF.out⟩
theorem gd_4 {r:Bool} (hc:c.ok) (hs:c.shapes[0]? = some (false,[true,true,false])) (hk:o.kd=4) (hn:o.n<3) (ht:t<2) (hth:g.th t=true) (ha:o.a<c.locals) (hb:o.b<c.locals) (hl:g.l t o.a=⟨r,d+1,1⟩) (hl2:g.l t o.b=⟨r2,bk,bi⟩) (hd:d<g.len) (hlen:g.len≤60) (w:World):
 aJ prog 41 #[.pointer (some ⟨b,0,none⟩),.int .i64 (t:Int),opR o,.slice (some ⟨x.xb t,0,none⟩) c.locals c.locals,.bool fu] w (GrB b c x g) (dsR false Sw.w0 (if r2=decide (o.n<2) then 0 else 4)) (GrB b c x (if r2=decide (o.n<2) then {g with f:=Sw.set g.f d (Sw.set (g.f d) o.n ⟨bk,bi⟩)} else g)):=by
 intro S h
 obtain ⟨kd,oa,ob,oc,on,z1,z2⟩:=o
 obtain rfl:kd=4:=hk
 replace hn:on<3:=hn
 replace ha:oa<c.locals:=ha
 replace hb:ob<c.locals:=hb
 replace hl:g.l t oa=⟨r,d+1,1⟩:=hl
 replace hl2:g.l t ob=⟨r2,bk,bi⟩:=hl2
 have g0:=eE ⟨4,oa,ob,oc,on,z1,z2⟩ h
 obtain ⟨d0,d1,d2,d4⟩:=eY g0.l.l
 have cb:=(jH g0.l.l.l ht hth ha).2
 rw [hl] at cb
 obtain ⟨lg,lc,hlv,_⟩:=iQ g0.l.l.l hd
 have HC1:=zz fun w1 (gg:aA (GdO b c x g w.heap.size ⟨4,oa,ob,oc,on,z1,z2⟩) S w w1)=>And.intro (eY gg) (by have:=(jH gg.l ht hth hb).1;rw [hl2] at this;exact this:w1.cell? ⟨x.xb t,ob*2,none⟩=some (.bool r2))
 have HCC:=zz fun w1 (gg:∃ f,aA (GdO b c x {g with f:=f} w.heap.size ⟨4,oa,ob,oc,on,z1,z2⟩) S w w1)=>And.intro (eY gg.choose_spec) (And.intro (by rw [←hlv];exact gg.choose_spec.l.c 9 rfl:w1.cell? ⟨b,9,none⟩=some (.slice (some ⟨lg,0,none⟩) g.len lc)) (And.intro (jG gg.choose_spec.l hd hlv).2 (by have:=(jH gg.choose_spec.l ht hth hb).2;simp only [hl2] at this;exact this:w1.cell? ⟨x.xb t,ob*2+1,none⟩=some (cx bk bi))))
 have HPL:=zz fun w1 (gg:aA (GdT b c x g w.heap.size ⟨4,oa,ob,oc,on,z1,z2⟩ #[.bool false,.complex .f64 0 0]) S w w1)=>hZ (gr_place (b:=b) (x:=x) (g:=g) hc hd hn hs w1) gg
 have HKD:=zz fun w1 (gg:aA (GdT b c x g w.heap.size ⟨4,oa,ob,oc,on,z1,z2⟩ #[.bool false,.complex .f64 0 0]) S w w1)=>hZ (gr_kind (b:=b) (x:=x) (g:=g) (k:=on) hc hd (nrf hn) hs w1) gg
 have HIX:=zz fun w1=>gG (d:=d) (by omega) w1
 have h0:(0:Int)≤(on:Int):=by omega
 have h1:(on:Int)<3:=by omega
 have h2:(0:Int)≤(ob:Int):=by omega
 have h3:(ob:Int)<(c.locals:Int):=by omega
 have h4:(0:Int)≤(d:Int):=by omega
 have h5:(d:Int)<(g.len:Int):=by omega
 have h6:(0:Int)≤(oa:Int):=by omega
 have h7:(oa:Int)<(c.locals:Int):=by omega
 have HG0:=zz g0
 have HN:=zz hn
 have HD:=zz hd
 show Calls _ _ _ _ fun e w'=>e=.returned (dsR false Sw.w0 (if r2=decide (on<2) then 0 else 4))∧aA (GrB b c x (if r2=decide (on<2) then {g with f:=Sw.set g.f d (Sw.set (g.f d) on ⟨bk,bi⟩)} else g)) S w w'
 generalize hdc:decide (on<2)=dc at*
 rw [show ∀ er:Int,dsR false Sw.w0 er=.tuple #[.agg #[.bool false,.complex .f64 0 0],.int .i64 er] from fun er=>by unfold dsR Sw.w0 cx;rw [fl0]]
 unfold gdW at*
 unfold opR cx at*
 simp only [opc] at*
 clear h hn hth ha hb hl hl2 hd hc hs hlen g0 hdc
 generalize hz:(if r2=dc then {g with f:=Sw.set g.f d (Sw.set (g.f d) on ⟨bk,bi⟩)} else g)=g9
 generalize he:(if r2=dc then (0:Int) else 4)=er
 have HZ:=zz hz
 clear hz
 go_enter func41,ntmps41
 go_upto_region 21 with fail
 generalize ((w.alloc _).alloc _).alloc _=w1 at*
 generalize w.heap.size=k at*
 go_wp2_with fail
 refine qq (HIX.out _) ?_
 clear HIX cb
 go_wp2_with fail
 refine qz (HPL.out _ HG0.out) fun w2 gA=>?_
 clear HPL HG0 d0 d1 d2 d4
 obtain ⟨d0,d1,d2,d4⟩:=eY gA.l.l
 go_upto_region 25 with fail
 clear d0 d1 d2 d4
 have g1:=gA.drew_
 clear gA
 refine wp_region_held_drew (S:=fun w'=>aA (GdO b c x g k ⟨4,oa,ob,oc,on,z1,z2⟩) S w w') (by kernel_rfl) g1.l.l (fun hHeld=>?_)
 generalize w2.drew=w3 at*
 refine tkh 0 HC1.out ?_
 refine tkh 1 HC1.out ?_
 refine tkh 2 HC1.out ?_
 refine tkh 3 HC1.out ?_
 refine tkh 4 HC1.out ?_
 refine tkh 5 HC1.out ?_
 refine tkh 6 HC1.out ?_
 refine tkh 7 HC1.out ?_
 refine tkh 8 HC1.out ?_
 refine tkh 9 HC1.out ?_
 refine rdy 10 fun K hK=>?_
 go_simp
 refine qz (HKD.out _ g1) fun w4 gB=>?_
 clear HKD g1
 go_wp2_with fail
 refine hon hK gB.l.l fun hHeld=>?_
 clear hK K
 refine tk 11 ?_
 refine wpAnyH_done (by kernel_rfl) ?_ _
 clear hHeld HC1
 cases r2<;>cases dc
 case false.false|true.true=>
  obtain rfl:(0:Int)=er:=by rw [←he];rfl
  have e9:=HZ.out
  rw [if_pos rfl] at e9
  go_upto_region 27 with fail
  have g1:=gB.drew_
  clear gB
  refine wp_region_held_drew (S:=fun w'=>∃ f,aA (GdO b c x {g with f:=f} k ⟨4,oa,ob,oc,on,z1,z2⟩) S w w') (by kernel_rfl) ⟨_,g1.l.l⟩ (fun hHeld=>?_)
  generalize w4.drew=w5 at*
  clear hHeld
  have hHeld:∃ f,aA (GdO b c x {g with f:=f} k ⟨4,oa,ob,oc,on,z1,z2⟩) S w w5:=⟨_,g1.l.l⟩
  refine tkh 0 HCC.out ?_
  refine tkh 1 HCC.out ?_
  refine tkh 2 HCC.out ?_
  refine tkh 3 HCC.out ?_
  refine tkh 4 HCC.out ?_
  refine tkh 5 HCC.out ?_
  refine tkh 6 HCC.out ?_
  refine tkh 7 HCC.out ?_
  refine tkh 8 HCC.out ?_
  refine tkh 9 HCC.out ?_
  refine tkh 10 HCC.out ?_
  refine tkh 11 HCC.out ?_
  refine tkh 12 HCC.out ?_
  refine tkh 13 HCC.out ?_
  refine tkh 14 HCC.out ?_
  refine tkh 15 HCC.out ?_
  refine tkh 16 HCC.out ?_
  have cg:=gr_fld g1.l.l.l HD.out HN.out
  have fg:=vgs_free (g1.l.l.l.r.r.l.r.get HD.out).is on
  have g2:=g1.then (aG (aG (aG (fun S h=>gr_fset (aA.begin h) HD.out on ⟨bk,bi⟩))))
  unfold cx at cg g2
  refine rdy 17 fun K hK=>?_
  go_simp
  go_wp2_with fail
  refine hon hK ⟨_,g2.l.l⟩ fun hHeld=>?_
  clear hK K
  refine wpAnyH_done (by kernel_rfl) ?_ _
  clear hHeld HCC g1 cg fg
  generalize World.setCell _ _ _=w6 at*
  have n0:=g2.r.vb 0 false
  have n1:=g2.r.vC 1 (.complex .f64 0 0)
  obtain ⟨q0,q1,f0,f1,_⟩:=cM g2
  have g3:=eN (v0:=.bool false) (v1:=.complex .f64 0 0) rfl g2
  obtain ⟨r0,r1,_,_,HG⟩:=cM g3
  have HF:=zz HG
  clear g2 g3 HG
  go_wp2_with fail
  (try rw [aI])
  exact bodyPost_ret (v:=.tuple #[.agg #[.bool false,.complex .f64 0 0],.int .i64 0]) (by simp [results,results41,go_sem,r0,r1]) rfl ⟨rfl,e9▸HF.out⟩
 case false.true|true.false=>
  obtain rfl:(4:Int)=er:=by rw [←he];rfl
  have n0:=gB.r.vb 0 false
  have n1:=gB.r.vC 1 (.complex .f64 0 0)
  obtain ⟨q0,q1,f0,f1,_⟩:=cM gB
  have g3:=eN (v0:=.bool false) (v1:=.complex .f64 0 0) rfl gB
  obtain ⟨r0,r1,_,_,HG⟩:=cM g3
  have HF:=zz HG
  have e9:g=g9:=by have:=HZ.out;simpa using this
  clear gB g3 HG
  go_wp2_with fail
  (try rw [aI])
  exact bodyPost_ret (v:=.tuple #[.agg #[.bool false,.complex .f64 0 0],.int .i64 4]) (by simp [results,results41,go_sem,r0,r1]) rfl ⟨rfl,e9▸HF.out⟩
end
end Go.Proofs.YtgcmiahhkalfmaaGreat
