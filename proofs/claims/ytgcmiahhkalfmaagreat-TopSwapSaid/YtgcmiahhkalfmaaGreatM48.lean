import Derived.Test.YtgcmiahhkalfmaaGreatM47
import Derived.Deep.CutRange
set_option maxRecDepth 100000
set_option maxHeartbeats 8000000
set_option linter.unusedVariables false
set_option linter.unusedSimpArgs false
namespace Go.Proofs.YtgcmiahhkalfmaaGreat
attribute [local go_sem] aF aI aO aV
open Go.Proofs.Tryz
open Go.RowKit
variable {gn z:Bool} {c:Cf} {steps:Int} {m v:Lc} {hs:List Value} {b hb j n rb vg:Nat} {f go jo:Nat→Bool} {ids ids':Nat→Int} {l:Nat→Lc} {no:Nat→Nat} {sc:Nat→Nat→Opn} {S:Nat→Prop} {ps:Nat→Sw.T} {fa:Nat→TA} {vs:Nat→Value} {o:OpR} {g g':Sw.Gr} {q q':Sw.Q} {rs:Sw.Rs} {p':Sw.T} {y:Sw.Y} {A B C D E F H O R V:aC} {a0 a1 a2 a3 a4 a5 a6 kv sv:Value} {X:WkX} {w w' w1:World}
section
variable {wb t yb:Nat} {A:CA}
theorem hp_thrD (hn:n≤16) (ht:t<n) (hs:bG A c (fa t) t (no t) (sc t) q (ps t) q' p' rs) (w:World):aN prog 11 #[.pointer (some ⟨hb,0,none⟩),.int .i64 ((t:Int)+1)] w (Hp A c q yb y hb sv n fa no sc steps ps) (fun (ow:Int) e=>e=.returned (tkV ((t:Int)+1) (rsOf rs ow))) (fun _=>Hp A c q' yb y hb sv n fa no sc (wrap64 (steps+1)) (Sw.set ps t p')):=fun S h=>hp_step_thr hn ht hs h
theorem hp_lcD (hn:n≤16) (ht:t<n) (hlc:1≤c.locals∧c.locals≤8) (w:World):aN prog 12 #[.pointer (some ⟨hb,0,none⟩),.int .i64 (t:Int)] w (Hp A c q yb y hb sv n fa no sc steps ps) (fun (x:Nat×Nat) e=>e=.returned (.tuple #[.int .i64 (ps t).ph,.int .i64 (ps t).st,.slice (some ⟨x.1,0,none⟩) c.locals x.2])) (fun x=>Sep (Hp A c q yb y hb sv n fa no sc steps ps) (Vgs x.1 (c.locals*2) 39 (cG (ps t).l))):=fun S h=>(hp_thread hn ht hlc h).mono fun e w' ⟨vg,vc,he,hg⟩=>⟨(vg,vc),he,hg⟩
theorem gr_lcD (ht:t<2) (hlc:1≤c.locals∧c.locals≤8) (hz:g.th t=true) (w:World):aN prog 18 #[.pointer (some ⟨b,0,none⟩),.int .i64 (t:Int)] w (GrO b c g) (fun (x:Nat×Nat) e=>e=.returned (.slice (some ⟨x.1,0,none⟩) c.locals x.2)) (fun x=>Sep (GrO b c g) (Vgs x.1 (c.locals*2) 39 (cG (g.l t)))):=fun S h=>(gr_locals1 ht hlc hz h).mono fun e w' ⟨vg,vc,he,hg⟩=>⟨(vg,vc),he,hg⟩
theorem wk_lcD (ht:t<2) (hz:g.th t=true) (gg:aA (Sep (Sep (WkT O wb X ids g jo go H) B) C) S w w1):Calls prog 18 #[.pointer (some ⟨X.gb,0,none⟩),.int .i64 (t:Int)] w1 fun e w2=>∃ x:Nat×Nat,e=.returned (.slice (some ⟨x.1,0,none⟩) 4 x.2)∧aA (Sep (Sep (Sep (WkT O wb X ids g jo go H) B) C) (Vgs x.1 8 39 (cG (g.l t)))) S w w2:=
 ((((((gr_lcD (b:=X.gb) (c:=Sw.cS) ht (by decide) hz w1).lX).rX).rX).lX).lX).on gg
theorem wk_val (hv:VlOk ids v m) (gg:aA (Sep (Sep (Sep (WkT O wb X ids g jo go H) B) C) D) S w w1):Calls prog 17 #[.pointer (some ⟨wb,0,none⟩),lcV v,lcV m] w1 fun e w2=>e=.returned (.bool true)∧aA (Sep (Sep (Sep (WkT O wb X ids g jo go H) B) C) D) S w w2:=
 (((((wk_value hv w1).l).r).l).l).l.on gg
theorem vgs_lc (h:aA (Vgs vg 8 39 (cG l)) S w w') (hj:j<4):w'.cell? ⟨vg,j*2,none⟩=some (.bool (l j).ref)∧w'.cell? ⟨vg,j*2+1,none⟩=some (cx (l j).k (l j).i):=by
 have a:=eS (j:=j*2) h.is (by omega)
 have b:=eS (j:=j*2+1) h.is (by omega)
 rw [locM0] at a
 rw [locM1] at b
 exact ⟨a,b⟩
theorem goes_ex {α:Type} {T:α→aC} (h:aA (Sep (Ex T) B) S w w'):∃ x,aA (Sep (T x) B) S w w':=by
 obtain ⟨⟨S1,⟨A1,A2,⟨x,a⟩,b⟩,hs⟩,ht⟩:=h
 exact ⟨x,⟨S1,⟨A1,A2,a,b⟩,hs⟩,ht⟩
theorem gI {A Y:aC} (hc:∀ S,A.at_ S w→(Sep V Y).at_ S w) (S:Nat→Prop) (h:(Sep A B).at_ S w):(Sep V (Sep Y B)).at_ S w:=aB.assoc (aB.monoL hc h)
theorem iN {A Y:aC} (hc:∀ S,(Sep V Y).at_ S w→A.at_ S w) (S:Nat→Prop) (h:(Sep V (Sep Y B)).at_ S w):(Sep A B).at_ S w:=aB.monoL hc (aB.assoc' h)
def WkR (O:aC) (X:WkX) (g:Sw.Gr) (jo go:Nat→Bool) (H B C D E F:aC):aC:=Sep (Sep (Sep (Sep (Sep (Sep O (Sep (GrO X.gb Sw.cS g) (Sep (Sep (bV X.jb 2 4 (bM jo)) (bV X.nb 2 4 (bM go))) H))) B) C) D) E) F
theorem wk_fr (h:aA (Sep (Sep (Sep (Sep (Sep (WkN O wb X ids n g jo go H) B) C) D) E) F) S w w'):∃ (kv:Value) (hs:List Value),aA (Sep (Sep (WkU wb X ids kv) (cQ 3 1 kv n hs)) (WkR O X g jo go H B C D E F)) S w w':=by
 obtain ⟨x,hx⟩:=goes_ex (T:=fun h:Value×List Value=>Sep (WkU wb X ids h.1) (cQ 3 1 h.1 n h.2)) (h.conv fun S w h=>gI (fun S h=>gI (fun S h=>gI (fun S h=>gI (fun S h=>gI (fun S h=>jN h) S h) S h) S h) S h) S h:aA (Sep (WkV wb X ids n) (WkR O X g jo go H B C D E F)) S w w')
 exact ⟨x.1,x.2,hx⟩
theorem wk_bk (h:aA (Sep (Sep (WkU wb X ids kv) (cQ 3 1 kv n hs)) (WkR O X g jo go H B C D E F)) S w w'):aA (Sep (Sep (Sep (Sep (Sep (WkN O wb X ids n g jo go H) B) C) D) E) F) S w w':=by
 have h1:aA (Sep (WkV wb X ids n) (WkR O X g jo go H B C D E F)) S w w':=h.conv fun S w h=>aB.monoL (fun S h=>(⟨(kv,hs),h⟩:(WkV wb X ids n).at_ S w)) h
 exact h1.conv fun S w h=>iN (fun S h=>iN (fun S h=>iN (fun S h=>iN (fun S h=>iN (fun S h=>jN h) S h) S h) S h) S h) S h
theorem wk_len (h:aA (WkN O wb X ids n g jo go H) S w w'):∃ la lc,w'.cell? ⟨X.gb,9,none⟩=some (.slice la g.len lc):=by
 obtain ⟨⟨S1,⟨x,hx⟩,hs⟩,ht⟩:=h.r.r.l
 have hg:aA (GrB X.gb Sw.cS x g) S w w':=⟨⟨S1,hx,hs⟩,ht⟩
 obtain ⟨la,lc,e⟩:=bE hg.r.r.l.l.is.1
 exact ⟨la,lc,e▸(iR hg).1⟩
theorem wk_ids (h:aA (Sep (Sep (WkU wb X ids kv) R) B) S w w') (i:Nat) (z:Int):aA (Sep (Sep (WkU wb X (Sw.set ids i z) kv) R) B) S w (w'.setCell ⟨X.ib,i,none⟩ (.int .i64 z)):=
 h.then (aG (aG (aH (fun S h=>by
  have e:idM (Sw.set ids i z)=dH (idM ids) i (.int .i64 z):=by
   funext k
   unfold idM dH Sw.set
   by_cases e:k=i<;>simp [e]
  rw [e]
  exact vgs_set h i _))))
theorem wk_fin {H1:aC} (h:aA (Sep (Sep (WkT O wb X ids g jo go (Sep H1 V)) B) C) S w w'):aA (WkT O wb X ids g jo go H1) S w w':=
 h.l.l.drop (aU.both (aU.refl _) (aU.both (aU.refl _) (aU.both (aU.refl _) (aU.both (aU.refl _) (aU.left _ _)))))
theorem tk_put {T:aC} (h:aA (Sep (Sep T (Var rb #[.int .i64 0,.bool false,.int .i64 0,.int .i64 0,.int .i64 0,.bool false,.complex .f64 0 0] 43)) C) S w w'):
 aA (Sep (Sep T (Var rb #[a0,a1,a2,a3,a4,a5,a6] 43)) C) S w (((((((w'.setCell ⟨rb,0,none⟩ a0).setCell ⟨rb,1,none⟩ a1).setCell ⟨rb,2,none⟩ a2).setCell ⟨rb,3,none⟩ a3).setCell ⟨rb,4,none⟩ a4).setCell ⟨rb,5,none⟩ a5).setCell ⟨rb,6,none⟩ a6):=
 h.then (aG (aH (fun S h=>((aA.begin h).p7 a0 a1 a2 a3 a4 a5 a6))))
theorem cT (h:aA (Var b #[a0,a1,a2,a3,a4,a5,a6] 43) S w w'):(w'.cell? ⟨b,0,none⟩=some a0∧w'.cell? ⟨b,1,none⟩=some a1∧w'.cell? ⟨b,2,none⟩=some a2∧w'.cell? ⟨b,3,none⟩=some a3∧w'.cell? ⟨b,4,none⟩=some a4∧w'.cell? ⟨b,5,none⟩=some a5∧w'.cell? ⟨b,6,none⟩=some a6)∧
 w'.frozen? ⟨b,0,none⟩=false∧w'.frozen? ⟨b,1,none⟩=false∧w'.frozen? ⟨b,2,none⟩=false∧w'.frozen? ⟨b,3,none⟩=false∧w'.frozen? ⟨b,4,none⟩=false∧w'.frozen? ⟨b,5,none⟩=false∧w'.frozen? ⟨b,6,none⟩=false:=
 ⟨⟨h.vc 0 rfl,h.vc 1 rfl,h.vc 2 rfl,h.vc 3 rfl,h.vc 4 rfl,h.vc 5 rfl,h.vc 6 rfl⟩,h.vf 0,h.vf 1,h.vf 2,h.vf 3,h.vf 4,h.vf 5,h.vf 6⟩
theorem set_id (h:f t=z):Sw.set f t z=f:=by
 funext k;unfold Sw.set;split
 · next e=>rw [e,h]
 · rfl
theorem does_th (g:Sw.Gr) (t:Nat) (o:Opn) (fu:Bool):(g.does t o fu).1.th=g.th:=by
 unfold Sw.Gr.does Sw.Gr.lay
 repeat' split
 all_goals rfl
theorem op_at {g off cap k:Nat} {sc:Nat→Opn} (h:aA (Seq 6 (.slice (some ⟨g,off,none⟩) n cap) n (opL sc n)) S w w') (hk:k<n) (ho:(sc k).r=o):w'.cell? ⟨g,off+k*6,none⟩=some (.int .i64 o.kd)∧w'.cell? ⟨g,off+k*6+1,none⟩=some (.int .i64 o.a)∧w'.cell? ⟨g,off+k*6+2,none⟩=some (.int .i64 o.b)∧w'.cell? ⟨g,off+k*6+3,none⟩=some (.int .i64 o.c)∧w'.cell? ⟨g,off+k*6+4,none⟩=some (.int .i64 o.n)∧w'.cell? ⟨g,off+k*6+5,none⟩=some (.complex .f64 o.z1 o.z2):=by
 subst ho
 have c:=fun i (hi:i<6) x (e:(opc (sc k).r)[i]? = some x)=>h.seq (i:=k*6+i) (x:=x) (by rw [opL_get sc n k i hk hi];exact e)
 exact ⟨c 0 (by decide) _ rfl,c 1 (by decide) _ rfl,c 2 (by decide) _ rfl,c 3 (by decide) _ rfl,c 4 (by decide) _ rfl,c 5 (by decide) _ rfl⟩
theorem wk_thr (ht:t<2) (hc:Sw.cS.ok) (hs:bG A Sw.cS (fa t) t (no t) (sc t) q (ps t) q' p' rs) (hO:jQ O X.ob X.oo 2 vs no sc) (hF:Flow t (sc t (ps t).nx) (no t) (ps t) p' rs ids g (jo t) (go t) ids' g' gn) (hlen:g.len≤60) (w:World):
 aN prog 7 #[.pointer (some ⟨wb,0,none⟩),.int .i64 ((t:Int)+1)] w (WkT O wb X ids g jo go (Hp A Sw.cS q yb y X.hb sv 2 fa no sc steps ps)) (fun (ow:Int) e=>e=.returned (.tuple #[tkV ((t:Int)+1) (rsOf rs ow),.bool true]))
  (fun _=>WkT O wb X ids' g' (Sw.set jo t true) (Sw.set go t gn) (Hp A Sw.cS q' yb y X.hb sv 2 fa no sc (wrap64 (steps+1)) (Sw.set ps t p'))):=by
 intro S h
 have g0:=(aA.begin h).moreSt (St.fresh (bW 0 rs0) 43)
 obtain ⟨rb,hrb⟩:∃ k,w.heap.size=k:=⟨_,rfl⟩
 rw [hrb] at g0
 obtain ⟨c0,_⟩:=bJ g0.l
 have HST:=zz fun w1 (gg:aA (Sep (WkT O wb X ids g jo go (Hp A Sw.cS q yb y X.hb sv 2 fa no sc steps ps)) (Var rb (bW 0 rs0) 43)) S w w1)=>(wk_hp (hp_thrD (by decide) ht hs w1)).l.on gg
 obtain ⟨H1,hH1⟩:∃ H,H=Hp A Sw.cS q' yb y X.hb sv 2 fa no sc (wrap64 (steps+1)) (Sw.set ps t p'):=⟨_,rfl⟩
 have HTH:=zz fun w1 B C (gg:aA (Sep (Sep (WkT O wb X ids g jo go H1) B) C) S w w1)=>(((wk_hp (by rw [hH1];exact hp_lcD (by decide) ht (by decide) w1)).l).l.on gg:Calls prog 12 #[.pointer (some ⟨X.hb,0,none⟩),.int .i64 (t:Int)] w1 fun e w2=>∃ x:Nat×Nat,e=.returned (.tuple #[.int .i64 (Sw.set ps t p' t).ph,.int .i64 (Sw.set ps t p' t).st,.slice (some ⟨x.1,0,none⟩) 4 x.2])∧aA (Sep (Sep (WkT O wb X ids g jo go (Sep (Hp A Sw.cS q' yb y X.hb sv 2 fa no sc (wrap64 (steps+1)) (Sw.set ps t p')) (Vgs x.1 8 39 (cG (Sw.set ps t p' t).l)))) B) C) S w w2)
 rw [←hH1] at HST HTH
 simp only [Sw.set_same] at HTH
 have e1:IntKind.i64.wrap (t:Int)=(t:Int):=(by decide:∀ k:Fin 16,IntKind.i64.wrap (k.val:Int)=k.val) ⟨t,by omega⟩
 have h0:(0:Int)≤(t:Int):=by omega
 have h2:(t:Int)<2:=by omega
 unfold tkV rsOf at*
 simp only [bW,rs0] at*
 clear h hs
 go_enter func7,ntmps7
 go_upto_region 1 with fail
 generalize w.alloc _=w1 at*
 go_wp2_with fail
 refine (HST.out _ g0).mono ?_
 rintro e w2 ⟨ow,rfl,g1⟩
 clear HST g0 c0
 have g2:=g1.moreSt (St.fresh #[.int .i64 ((t:Int)+1),.bool rs.d,.int .i64 rs.nx,.int .i64 ow,.int .i64 rs.er,.bool rs.r,.complex .f64 (fl rs.z.k) (fl rs.z.i)] 43)
 obtain ⟨c0,c1,c2,c3,c5,c6,cj,cn⟩:=bJ g2.l.l
 have cj1:=cj t ht
 go_upto_region 5 with fail
 clear c0 c1 c2 c3 c5 c6 cj cn cj1 g1
 generalize w2.alloc _=w3 at*
 generalize w2.heap.size=xb at*
 obtain ⟨c0,c1,c2,c3,c5,c6,cj,cn⟩:=bJ g2.l.l
 go_wp2_with fail
 refine (HTH.out _ _ _ g2).mono ?_
 rintro e w4 ⟨⟨vg,vc⟩,rfl,g3⟩
 clear HTH g2 c0 c1 c2 c3 c5 c6 cj cn
 obtain ⟨H2,hH2⟩:∃ H,Sep H1 (Vgs vg 8 39 (cG p'.l))=H:=⟨_,rfl⟩
 dsimp only at g3
 rw [hH2] at g3
 dsimp only
 go_upto_region 6 with fail
 obtain ⟨gA,hgA⟩:∃ gA,(if (ps t).ph=0 then g.join t else g)=gA:=⟨_,rfl⟩
 obtain ⟨zA,hzA⟩:∃ z:Bool,(!jo t)=z:=⟨_,rfl⟩
 have HA:(zA=true∧(ps t).ph=0∧jo t=false∧p'.ph=1∧g.th t=false∧gA=g.join t)∨(zA=false∧jo t=true∧gA=g):=by
  cases hF with
  | join a b c d e=>exact .inl ⟨by rw [←hzA,b];rfl,a,b,c,e,by rw [←hgA,if_pos a]⟩
  | on a b=>exact .inr ⟨by rw [←hzA,b];rfl,b,by rw [←hgA,if_neg a]⟩
  | leave a b=>exact .inr ⟨by rw [←hzA,b];rfl,b,by rw [←hgA,if_neg a]⟩
  | gone a b=>exact .inr ⟨by rw [←hzA,b];rfl,b,by rw [←hgA,if_neg a]⟩
  | done a b=>exact .inr ⟨by rw [←hzA,b];rfl,b,by rw [←hgA,if_neg a]⟩
 have G3:=zz g3
 clear hzA
 go_cut [64] from 53 to 76 (fun u wc=>u=.bool zA∧w4=wc)
 case first=>
  obtain ⟨c0,c1,c2,c3,c5,c6,cj,cn⟩:=bJ g3.l.l
  have cj1:=cj t ht
  clear cj cn c0 c2 c3 c6
  rcases HA with ⟨rfl,a1,a2,a3,a4,rfl⟩|⟨rfl,a2,rfl⟩
  · rw [a2] at cj1
    have a5:(p'.ph != 0)=true:=by rw [a3];rfl
    clear a3
    go_wp2_with fail
    go_meet
    first|exact ⟨rfl,rfl⟩|exact ⟨by rw [a5],rfl⟩
  · rw [a2] at cj1
    go_wp2_with fail
    go_meet
    exact ⟨rfl,rfl⟩
 case rest=>
 obtain ⟨rfl,rfl⟩:=hcut
 clear g3
 go_upto_if 64 with fail
 go_cut [] from 20 to 76 (fun wc=>aA (Sep (Sep (WkT O wb X ids gA (Sw.set jo t true) go H2) (Var rb #[.int .i64 0,.bool false,.int .i64 0,.int .i64 0,.int .i64 0,.bool false,.complex .f64 0 0] 43)) (Var xb #[.int .i64 ((t:Int)+1),.bool rs.d,.int .i64 rs.nx,.int .i64 ow,.int .i64 rs.er,.bool rs.r,.complex .f64 (fl rs.z.k) (fl rs.z.i)] 43)) S w wc)
 case first=>
  have g3:=G3.out
  obtain ⟨c0,c1,c2,c3,c5,c6,cj,cn⟩:=bJ g3.l.l
  have cj1:=cj t ht
  clear cj cn c0 c2 c3 c6
  rcases HA with ⟨rfl,a1,a2,a3,a4,rfl⟩|⟨rfl,a2,rfl⟩
  · rw [a2] at cj1
    clear a3
    go_upto_region 7 with fail
    have g5:=g3.drew_
    refine wp_region_held_drew (S:=fun w'=>w'.cell? ⟨wb,5,none⟩=some (.slice (some ⟨X.jb,0,none⟩) 2 2)∧w'.cell? ⟨wb,1,none⟩=some (.pointer (some ⟨X.gb,0,none⟩))) (by kernel_rfl) ⟨(bJ g5.l.l).2.2.2.2.1,(bJ g5.l.l).2.1⟩ (fun hHeld=>?_)
    generalize w4.drew=w5 at*
    clear cj1 c1 c5
    refine tk 0 ?_
    refine tk 1 ?_
    refine tk 2 ?_
    refine tk 3 ?_
    refine tk 4 ?_
    refine tk 5 ?_
    refine tk 6 ?_
    refine tk 7 ?_
    refine tk 8 ?_
    refine tk 9 ?_
    refine rdy 10 fun K hK=>?_
    go_simp
    refine qz ((wk_gr (gr_join ht a4 hc _) rfl).l.l.on g5) fun w6 g6=>?_
    go_wp2_with fail
    refine hon hK ⟨(bJ g6.l.l).2.2.2.2.1,(bJ g6.l.l).2.1⟩ fun hHeld=>?_
    clear hK K
    refine tk 11 ?_
    have cj2:=(bJ g6.l.l).2.2.2.2.2.2.1 t ht
    have fj2:=wk_jf g6.l.l t
    have g7:=g6.then (aG (aG (fun S h=>wk_jset (t:=t) (aA.begin h) true)))
    refine rdy 12 fun K hK=>?_
    go_simp
    go_wp2_with fail
    refine hon hK ⟨(bJ g7.l.l).2.2.2.2.1,(bJ g7.l.l).2.1⟩ fun hHeld=>?_
    clear hK K
    refine wpAnyH_done (by kernel_rfl) ?_ _
    clear hHeld
    go_wp2_with fail
    go_meet
    exact g7
  · go_wp2_with fail
    go_meet
    have:Sw.set jo t true=jo:=by
     funext k;unfold Sw.set;split
     · next e=>rw [e,a2]
     · rfl
    rw [this]
    exact g3
 case rest=>
 clear HA G3
 have x1:=hcut.r.vb 1 rs.d
 go_upto_if 78 with fail
 obtain ⟨gB,hgB⟩:∃ gB,(if rs.d then g' else gA)=gB:=⟨_,rfl⟩
 have HB:(rs.d=false∧gB=gA∧ids'=ids)∨(rs.d=true∧gB=g'∧gA=g):=by
  cases hF with
  | join a b c d e=>exact .inl ⟨d,by rw [←hgB,if_neg (by simp [d])],rfl⟩
  | on a b c d=>exact .inl ⟨d,by rw [←hgB,if_neg (by simp [d])],rfl⟩
  | leave a b c d=>exact .inl ⟨d,by rw [←hgB,if_neg (by simp [d])],rfl⟩
  | gone a b c d=>exact .inl ⟨d,by rw [←hgB,if_neg (by simp [d])],rfl⟩
  | done a b c d=>exact .inr ⟨d,by rw [←hgB,if_pos d],by rw [←hgA,if_neg a]⟩
 obtain ⟨zC,hzC⟩:∃ z:Bool,(p'.ph==4&&!go t)=z:=⟨_,rfl⟩
 have HC:(zC=true∧(go t=false∧p'.ph=4)∧gB.th t=true∧g'=gB.quit t∧gn=true)∨(zC=false∧(p'.ph=4→go t=true)∧gB=g'∧gn=go t∧((g'.th t=true∧∀ j,j<4→VlOk ids' (p'.l j) (g'.l t j))∨g'.th t=false)):=by
  cases hF with
  | join a b c d e f=>exact .inr ⟨by rw [←hzC,c];rfl,fun h=>by omega,by rw [←hgB,if_neg (by simp [d]),←hgA,if_pos a],rfl,.inl ⟨by unfold Sw.Gr.join;exact Sw.set_same,f⟩⟩
  | on a b c d e f=>exact .inr ⟨by rw [←hzC];simp [c],fun h=>absurd h c,by rw [←hgB,if_neg (by simp [d]),←hgA,if_neg a],rfl,.inl ⟨e,f⟩⟩
  | leave a b c d e f=>
   have e1:gB=g:=by rw [←hgB,if_neg (by simp [d]),←hgA,if_neg a]
   exact .inl ⟨by rw [←hzC,c,f];rfl,⟨f,c⟩,by rw [e1];exact e,by rw [e1],rfl⟩
  | gone a b c d e f=>exact .inr ⟨by rw [←hzC,f];simp,fun _=>f,by rw [←hgB,if_neg (by simp [d]),←hgA,if_neg a],f.symm,.inr e⟩
  | done a b c d e f1 f2 f3 f4 f5 f6 f7 f8 f9=>
   refine .inr ⟨by rw [←hzC];simp [c],fun h=>absurd h c,by rw [←hgB,if_pos d],rfl,.inl ⟨?_,f9⟩⟩
   have:=does_th g t (sc t (ps t).nx) (rs.er==6)
   rw [f5] at this
   rw [show g'.th=g.th from this];exact e
 have HF:=zz hF
 have GA:=zz hgA
 have GB:=zz hgB
 have G4:=zz hcut
 clear hF hgA hgB hcut x1
 go_cut [11,12,13,14,15,16,17] from 77 to 201 (fun _ _ _ _ _ _ _ wd=>aA (Sep (Sep (WkT O wb X ids' gB (Sw.set jo t true) go H2) (Var rb #[.int .i64 0,.bool false,.int .i64 0,.int .i64 0,.int .i64 0,.bool false,.complex .f64 0 0] 43)) (Var xb #[.int .i64 ((t:Int)+1),.bool rs.d,.int .i64 rs.nx,.int .i64 ow,.int .i64 rs.er,.bool rs.r,.complex .f64 (fl rs.z.k) (fl rs.z.i)] 43)) S w wd)
 case first=>
  rcases HB with ⟨b1,rfl,rfl⟩|⟨b1,rfl,rfl⟩
  · rw [b1]
    go_wp2_with fail
    go_meet
    exact b1▸G4.out
  · obtain ⟨v,d0,d1,d2,d3,d4,d5,d6,d7,d8⟩:∃ v,gA.th t=true∧rs.nx=(ps t).nx∧(ps t).nx<no t∧Sw.OpOk (sc t (ps t).nx)∧(∀ j,j<4→GLc gA (gA.l t j))∧gA.does t (sc t (ps t).nx) (rs.er==6)=(gB,rs.er,v)∧(rs.er=0∨rs.er=3∨rs.er=4∨rs.er=6)∧
     (rs.er=0∧(sc t (ps t).nx).kd=1∧(∃ got,got<24∧rs.r=true∧rs.z=Sw.wR got∧ids'=Sw.set ids got gA.len∧gB.len=gA.len+1)∨¬(rs.er=0∧(sc t (ps t).nx).kd=1)∧ids'=ids∧gB.len=gA.len)∧VlOk ids' (Sw.lcOf rs.r rs.z) v:=by
     have hF:=HF.out
     cases hF with
     | join a b c d e f=>rw [b1] at d;cases d
     | on a b c d e f=>rw [b1] at d;cases d
     | leave a b c d e f=>rw [b1] at d;cases d
     | gone a b c d e f=>rw [b1] at d;cases d
     | done a b c d e f1 f2 f3 f4 f5 f6 f7 f8 f9=>exact ⟨_,e,f1,f2,f3,f4,f5,f6,f7,f8⟩
    rw [b1]
    obtain ⟨o,ho⟩:∃ o,sc t (ps t).nx=o:=⟨_,rfl⟩
    rw [ho] at d3 d5 d7
    obtain ⟨og,oo,oc,hvs,_,_⟩:=bN (hO.seq _ _ (G4.out.l.l.l).is t ht).choose_spec
    have HOC:=zz fun w1 (gO:aA O S w w1)=>(by
     obtain ⟨S9,hs9⟩:=hO.seq _ _ gO.is t ht
     rw [hvs] at hs9
     have c9:=hO.cell _ _ gO.is t ht
     rw [hvs] at c9
     exact ⟨c9,op_at (o:=o.r) (aA.begin hs9) d2 (by rw [ho])⟩:w1.cell? ⟨X.ob,X.oo+t,none⟩=some (.slice (some ⟨og,oo,none⟩) (no t) oc)∧w1.cell? ⟨og,oo+(ps t).nx*6,none⟩=some (.int .i64 o.r.kd)∧w1.cell? ⟨og,oo+(ps t).nx*6+1,none⟩=some (.int .i64 o.r.a)∧w1.cell? ⟨og,oo+(ps t).nx*6+2,none⟩=some (.int .i64 o.r.b)∧w1.cell? ⟨og,oo+(ps t).nx*6+3,none⟩=some (.int .i64 o.r.c)∧w1.cell? ⟨og,oo+(ps t).nx*6+4,none⟩=some (.int .i64 o.r.n)∧w1.cell? ⟨og,oo+(ps t).nx*6+5,none⟩=some (.complex .f64 o.r.z1 o.r.z2))
    have D0:=zz d0
    have HLN:=zz hlen
    have D3:=zz d3
    have D4:=zz d4
    have D5:=zz d5
    have D7:=zz d7
    have D8:=zz d8
    have n0:decide ((rs.nx:Int)<0)=false:=decide_eq_false (by omega)
    have n1:decide ((rs.nx:Int)≥(no t:Int))=false:=decide_eq_false (by omega)
    have n4:decide (no t≤rs.nx)=false:=decide_eq_false (by omega)
    have n5:decide ((no t:Int)≤(rs.nx:Int))=false:=decide_eq_false (by omega)
    have n2:(rs.nx:Int)<(no t:Int):=by omega
    have n3:(0:Int)≤(rs.nx:Int):=by omega
    have r10:(rs.er==10)=false:=by rcases d6 with h|h|h|h<;>rw [h]<;>rfl
    have r8:(rs.er==8)=false:=by rcases d6 with h|h|h|h<;>rw [h]<;>rfl
    rw [←d1] at HOC
    clear d0 d1 d2 d3 d4 d5 d6 d7 d8 hvs hO HF GA GB HC hzC
    obtain ⟨⟨x0,x1,x2,x3,x4,x5,x6⟩,_⟩:=cT G4.out.r
    have g5:=G4.out.moreSt (St.fresh #[.int .i64 rs.nx,.int .i64 ow,.int .i64 rs.er,.bool rs.r,.complex .f64 (fl rs.z.k) (fl rs.z.i)] 41)
    obtain ⟨rr,hrr⟩:∃ k,wc.heap.size=k:=⟨_,rfl⟩
    rw [hrr] at g5
    go_upto_region 10 with fail
    try rw [hrr]
    clear x0 x1 x2 x3 x4 x5 x6 G4
    generalize wc.alloc _=w5 at*
    clear hrr
    obtain ⟨K1,hK1⟩:∃ T,T=Sep (Sep (Sep (WkT O wb X ids gA (Sw.set jo t true) go H2) (Var rb #[.int .i64 0,.bool false,.int .i64 0,.int .i64 0,.int .i64 0,.bool false,.complex .f64 0 0] 43)) (Var xb #[.int .i64 ((t:Int)+1),.bool rs.d,.int .i64 rs.nx,.int .i64 ow,.int .i64 rs.er,.bool rs.r,.complex .f64 (fl rs.z.k) (fl rs.z.i)] 43)) (Var rr #[.int .i64 rs.nx,.int .i64 ow,.int .i64 rs.er,.bool rs.r,.complex .f64 (fl rs.z.k) (fl rs.z.i)] 41):=⟨_,rfl⟩
    rw [←hK1] at g5
    have HC1:=zz fun w1 (gg:aA K1 S w w1)=>(by rw [hK1] at gg;exact And.intro (gg.r.vc 0 rfl) (And.intro (gg.r.vc 2 rfl) (And.intro (bJ gg.l.l.l).2.2.1 (HOC.out _ gg.l.l.l.l))):w1.cell? ⟨rr,0,none⟩=some (.int .i64 rs.nx)∧w1.cell? ⟨rr,2,none⟩=some (.int .i64 rs.er)∧w1.cell? ⟨wb,2,none⟩=some (.slice (some ⟨X.ob,X.oo,none⟩) 2 X.oc)∧w1.cell? ⟨X.ob,X.oo+t,none⟩=some (.slice (some ⟨og,oo,none⟩) (no t) oc)∧_)
    have hg1:=zz g5.drew_
    have HK1:=zz hK1
    clear g5 hK1
    have e2:=fun i:In K1 S w=>(HC1.out _ i.h).1
    have e3:=fun i:In K1 S w=>(HC1.out _ i.h).2.1
    have e4:=fun i:In K1 S w=>(HC1.out _ i.h).2.2.1
    have e5:=fun i:In K1 S w=>(HC1.out _ i.h).2.2.2.1
    have hne:=Nonempty.intro (⟨_,hg1.out⟩:In _ S w)
    refine bL (by kernel_rfl) (by kernel_rfl) hg1.out ?_
    repeat (go_big_quiet_step (fail))
    refine wpQuiet_nil ?_
    intro w6 hg6
    clear hne e2 e3 e4 e5 hg1
    go_upto_region 12 with fail
    have g6:=hg6.drew_
    clear hg6 n0 n1 n4 n5 r10 r8
    have hrn:o.r=⟨o.kd,o.a,o.b,o.c,o.n,fl o.zk,fl o.zi⟩:=rfl
    rw [hrn] at HC1
    clear hrn
    refine wp_region_held_drew (S:=fun w'=>aA K1 S w w') (by kernel_rfl) g6 (fun hHeld=>?_)
    generalize w6.drew=w7 at*
    refine tkh 0 HC1.out ?_
    refine tkh 1 HC1.out ?_
    refine tkh 2 HC1.out ?_
    refine tkh 3 HC1.out ?_
    refine tkh 4 HC1.out ?_
    refine tkh 5 HC1.out ?_
    refine tkh 6 HC1.out ?_
    refine tkh 7 HC1.out ?_
    refine tkh 8 HC1.out ?_
    refine tkh 9 HC1.out ?_
    refine tkh 10 HC1.out ?_
    refine rdy 11 fun K hK=>?_
    go_simp
    have g7:=g6.moreSt (St.fresh #[.int .i64 0,.int .i64 0,.int .i64 0,.int .i64 0,.int .i64 0,.complex .f64 0 0] 27)
    go_wp2_with fail
    refine hon hK g7.l fun hHeld=>?_
    clear hK K
    clear g7
    have g8:=g6.moreSt (St.fresh #[.int .i64 o.kd,.int .i64 o.a,.int .i64 o.b,.int .i64 o.c,.int .i64 o.n,.complex .f64 (fl o.zk) (fl o.zi)] 27)
    refine rdy 12 fun K hK=>?_
    go_simp
    go_wp2_with fail
    refine hon hK g8.l fun hHeld=>?_
    clear hK K
    refine wpAnyH_done (by kernel_rfl) ?_ _
    clear hHeld g6
    obtain ⟨oq,hoq⟩:∃ k,w7.heap.size=k:=⟨_,rfl⟩
    rw [hoq] at g8
    try rw [hoq]
    obtain ⟨zM,hzM⟩:∃ z:Bool,(rs.er==0&&o.kd==1)=z:=⟨_,rfl⟩
    have m0:=g8.r.vi 0 o.kd
    have m2:=(HC1.out _ g8.l).2.1
    have G8:=zz g8
    have HOQ:=zz hoq
    clear g8 hoq
    go_upto_region 13 with fail
    go_cut [13] from 119 to 131 (fun u wc=>u=.bool zM∧aA (Sep K1 (Var oq #[.int .i64 o.kd,.int .i64 o.a,.int .i64 o.b,.int .i64 o.c,.int .i64 o.n,.complex .f64 (fl o.zk) (fl o.zi)] 27)) S w wc)
    case first=>
     have hk3:(o.kd==2)=false:=by rcases D3.out.kd with h|h|h|h|h|h|h<;>rw [h]<;>rfl
     have hk4:((o.kd:Int)==2)=false:=by rcases D3.out.kd with h|h|h|h|h|h|h<;>rw [h]<;>rfl
     have h3:((o.kd:Int)==1)=(o.kd==1):=by rcases D3.out.kd with h|h|h|h|h|h|h<;>rw [h]<;>rfl
     cases h1:(rs.er==0)<;>cases h2:(o.kd==1)
     all_goals
      rw [h2] at h3
      rw [h1,h2] at hzM
      subst hzM
      go_wp2_with fail
      go_meet
      exact ⟨rfl,G8.out⟩
    case rest=>
    obtain ⟨rfl,g8⟩:=hcut
    clear m0 m2 G8
    obtain ⟨VT,hVT⟩:∃ T,T=Var oq #[.int .i64 o.kd,.int .i64 o.a,.int .i64 o.b,.int .i64 o.c,.int .i64 o.n,.complex .f64 (fl o.zk) (fl o.zi)] 27:=⟨_,rfl⟩
    obtain ⟨K2,hK2⟩:∃ T,T=Sep (Sep (Sep (WkN O wb X ids gA.len gB (Sw.set jo t true) go H2) (Var rb #[.int .i64 0,.bool false,.int .i64 0,.int .i64 0,.int .i64 0,.bool false,.complex .f64 0 0] 43)) (Var xb #[.int .i64 ((t:Int)+1),.bool rs.d,.int .i64 rs.nx,.int .i64 ow,.int .i64 rs.er,.bool rs.r,.complex .f64 (fl rs.z.k) (fl rs.z.i)] 43)) (Var rr #[.int .i64 rs.nx,.int .i64 ow,.int .i64 rs.er,.bool rs.r,.complex .f64 (fl rs.z.k) (fl rs.z.i)] 41):=⟨_,rfl⟩
    rw [←hVT] at g8
    have HP1:=zz fun w' (gg:aA (Sep K1 VT) S w w')=>(by rw [HK1.out,hVT] at gg;exact ⟨(bJ gg.l.l.l.l).2.1,gg.l.r.vc 2 rfl,gg.r.vc 0 rfl,gg.r.vc 1 rfl,gg.r.vc 2 rfl,gg.r.vc 3 rfl,gg.r.vc 4 rfl,gg.r.vc 5 rfl⟩:w'.cell? ⟨wb,1,none⟩=some (.pointer (some ⟨X.gb,0,none⟩))∧w'.cell? ⟨rr,2,none⟩=some (.int .i64 rs.er)∧w'.cell? ⟨oq,0,none⟩=some (.int .i64 o.kd)∧w'.cell? ⟨oq,1,none⟩=some (.int .i64 o.a)∧w'.cell? ⟨oq,2,none⟩=some (.int .i64 o.b)∧w'.cell? ⟨oq,3,none⟩=some (.int .i64 o.c)∧w'.cell? ⟨oq,4,none⟩=some (.int .i64 o.n)∧w'.cell? ⟨oq,5,none⟩=some (.complex .f64 (fl o.zk) (fl o.zi)))
    have HP2:=zz fun w' (gg:aA (Sep K2 VT) S w w')=>(by rw [hK2,hVT] at gg;exact ⟨(bJ gg.l.l.l.l).2.1,gg.l.r.vc 2 rfl,gg.r.vc 0 rfl,gg.r.vc 1 rfl,gg.r.vc 2 rfl,gg.r.vc 3 rfl,gg.r.vc 4 rfl,gg.r.vc 5 rfl⟩:w'.cell? ⟨wb,1,none⟩=some (.pointer (some ⟨X.gb,0,none⟩))∧w'.cell? ⟨rr,2,none⟩=some (.int .i64 rs.er)∧w'.cell? ⟨oq,0,none⟩=some (.int .i64 o.kd)∧w'.cell? ⟨oq,1,none⟩=some (.int .i64 o.a)∧w'.cell? ⟨oq,2,none⟩=some (.int .i64 o.b)∧w'.cell? ⟨oq,3,none⟩=some (.int .i64 o.c)∧w'.cell? ⟨oq,4,none⟩=some (.int .i64 o.n)∧w'.cell? ⟨oq,5,none⟩=some (.complex .f64 (fl o.zk) (fl o.zi)))
    have HDO:=zz fun w1 Y (gg:aA (Sep (Sep K1 VT) Y) S w w1)=>(by rw [HK1.out] at gg;rw [hK2];exact ((((((wk_grN (gr_does hc D3.out ht D0.out HLN.out D4.out D5.out w1)).l).l).l).l).l).on gg:Calls prog 15 #[.pointer (some ⟨X.gb,0,none⟩),.int .i64 (t:Int),opR o.r,.bool (rs.er==6)] w1 fun e w2=>e=.returned (doR v.ref (fl v.k) (fl v.i) rs.er)∧aA (Sep (Sep K2 VT) Y) S w w2)
    have HDO1:=zz fun w1 (gg:aA (Sep K1 VT) S w w1)=>(by rw [HK1.out] at gg;rw [hK2];exact (((((wk_grN (gr_does hc D3.out ht D0.out HLN.out D4.out D5.out w1)).l).l).l).l).on gg:Calls prog 15 #[.pointer (some ⟨X.gb,0,none⟩),.int .i64 (t:Int),opR o.r,.bool (rs.er==6)] w1 fun e w2=>e=.returned (doR v.ref (fl v.k) (fl v.i) rs.er)∧aA (Sep K2 VT) S w w2)
    have HK2:=zz hK2
    have HVT:=zz hVT
    unfold doR opR opc Opn.r at HDO HDO1
    clear hK2 hVT HC1
    go_upto_region 14 with fail
    go_cut [14,15] from 132 to 144 (fun u u5 wc=>∃ vb:Nat,u=.pointer (some ⟨vb,0,none⟩)∧u5=.int .i64 rs.er∧aA (Sep (Sep K2 VT) (Var vb #[.bool v.ref,.complex .f64 (fl v.k) (fl v.i)] 39)) S w wc)
    case first=>
     have g9:=g8.drew_
     clear g8
     refine wp_region_held_drew (S:=fun w'=>w'.cell? ⟨wb,1,none⟩=some (.pointer (some ⟨X.gb,0,none⟩))∧w'.cell? ⟨rr,2,none⟩=some (.int .i64 rs.er)∧w'.cell? ⟨oq,0,none⟩=some (.int .i64 o.kd)∧w'.cell? ⟨oq,1,none⟩=some (.int .i64 o.a)∧w'.cell? ⟨oq,2,none⟩=some (.int .i64 o.b)∧w'.cell? ⟨oq,3,none⟩=some (.int .i64 o.c)∧w'.cell? ⟨oq,4,none⟩=some (.int .i64 o.n)∧w'.cell? ⟨oq,5,none⟩=some (.complex .f64 (fl o.zk) (fl o.zi))) (by kernel_rfl) (HP1.out _ g9) (fun hHeld=>?_)
     generalize World.drew _=w9 at*
     refine tk 0 ?_
     refine tk 1 ?_
     refine tk 2 ?_
     refine tk 3 ?_
     refine tk 4 ?_
     refine tk 5 ?_
     refine tk 6 ?_
     refine tk 7 ?_
     refine tk 8 ?_
     refine wpAnyH_ready (rs:=[9,13]) (by kernel_rfl) (by simp) ?_
     refine AllReadyH.cons (o:=_) rfl ?_ (AllReadyH.cons (o:=_) rfl ?_ AllReadyH.nil)
     focus (
      intro K hK
      go_simp
      refine qz (HDO1.out _ g9) fun wa gA2=>?_
      go_wp2_with fail
      refine hon hK (HP2.out _ gA2) fun hHeld=>?_
      clear hK K
      refine tk 10 ?_
      refine tk 11 ?_
      refine tk 12 ?_
      refine rdy 13 fun K hK=>?_
      go_simp
      have gB2:=gA2.moreSt (St.fresh #[.bool false,.complex .f64 0 0] 39)
      go_wp2_with fail
      refine hon hK (HP2.out _ gB2.l) fun hHeld=>?_
      clear hK K
      clear gA2 g9
      generalize wa.heap.size=vb at*
      generalize wa.alloc _=wz at*
      )
     rotate_left
     focus (
      intro K hK
      go_simp
      have gA2:=g9.moreSt (St.fresh #[.bool false,.complex .f64 0 0] 39)
      go_wp2_with fail
      refine hon hK (HP1.out _ gA2.l) fun hHeld=>?_
      clear hK K
      clear g9
      generalize w9.heap.size=vb at*
      generalize w9.alloc _=wa at*
      refine rdy 9 fun K hK=>?_
      go_simp
      refine qz (HDO.out _ _ gA2) fun wz gB2=>?_
      go_wp2_with fail
      refine hon hK (HP2.out _ gB2.l) fun hHeld=>?_
      clear hK K
      refine tk 10 ?_
      refine tk 11 ?_
      refine tk 12 ?_
      clear gA2
      )
     all_goals (
      have a0:=gB2.r.vb 0 false
      have a1:=gB2.r.vC 1 (.complex .f64 0 0)
      have q0:=gB2.r.vf 0
      have q1:=gB2.r.vf 1
      have gC2:=gB2.then (aH (fun S h=>((aA.begin h).vput 0 (.bool v.ref) (cs':=#[.bool v.ref,.complex .f64 0 0]) rfl).vput 1 (.complex .f64 (fl v.k) (fl v.i)) (cs':=#[.bool v.ref,.complex .f64 (fl v.k) (fl v.i)]) rfl))
      refine rdy 14 fun K hK=>?_
      go_simp
      go_wp2_with fail
      refine hon hK (HP2.out _ gC2.l) fun hHeld=>?_
      clear hK K
      refine tk 15 ?_
      refine wpAnyH_done (by kernel_rfl) ?_ _
      clear hHeld a0 a1 q0 q1 gB2 HDO HDO1 HP1
      generalize World.setCell (World.setCell _ _ _) _ _=we at*
      go_wp2_with fail
      go_meet
      exact ⟨vb,rfl,rfl,gC2⟩)
    case rest=>
    obtain ⟨vb,rfl,rfl,g9⟩:=hcut
    clear HDO HDO1 HP1 g8
    have G9:=zz g9
    have r2:=(HP2.out _ g9.l).2.1
    have hne:(rs.er != rs.er)=false:=by simp
    clear g9
    go_upto_if 150 with fail
    go_cut [16,17] from 152 to 194 (fun _ _ wc=>aA (Sep (Sep (Sep (Sep (Sep (WkT O wb X ids' gB (Sw.set jo t true) go H2) (Var rb #[.int .i64 0,.bool false,.int .i64 0,.int .i64 0,.int .i64 0,.bool false,.complex .f64 0 0] 43)) (Var xb #[.int .i64 ((t:Int)+1),.bool rs.d,.int .i64 rs.nx,.int .i64 ow,.int .i64 rs.er,.bool rs.r,.complex .f64 (fl rs.z.k) (fl rs.z.i)] 43)) (Var rr #[.int .i64 rs.nx,.int .i64 ow,.int .i64 rs.er,.bool rs.r,.complex .f64 (fl rs.z.k) (fl rs.z.i)] 41)) VT) (Var vb #[.bool v.ref,.complex .f64 (fl v.k) (fl v.i)] 39)) S w wc)
    case first=>
     clear r2
     cases zM
     · have h7:ids'=ids∧gB.len=gA.len:=by
        rcases D7.out with h|h
        · rw [h.1,h.2.1] at hzM;simp at hzM
        · exact h.2
       obtain ⟨rfl,h7⟩:=h7
       have g9:=G9.out
       rw [HK2.out,←h7] at g9
       go_wp2_with fail
       go_meet
       exact g9
     · obtain ⟨hm1,hm2,got,hgt,hrr2,hz,hid,hlB⟩:rs.er=0∧o.kd=1∧∃ got,got<24∧rs.r=true∧rs.z=Sw.wR got∧ids'=Sw.set ids got gA.len∧gB.len=gA.len+1:=by
        rcases D7.out with h|h
        · exact h
        · exfalso
          simp at hzM
          exact h.1 hzM
       have g9:=G9.out
       rw [HK2.out] at g9
       obtain ⟨kv,hs,gf⟩:=wk_fr g9
       have r4:=g9.l.l.r.vc 4 (v:=.complex .f64 (fl (got+1)) (fl 1)) (by rw [hz];rfl)
       have c3:=(bJ g9.l.l.l.l.l).2.2.2.1
       have HIX:=zz fun w=>gG (d:=got) (by omega) w
       have t0:(0:Int)≤(got:Int):=by omega
       have t1:(got:Int)<24:=by omega
       have t2:¬(24:Int)≤(got:Int):=by omega
       have t3:decide ((24:Int)≤(got:Int))=false:=decide_eq_false t2
       have t4:decide (24≤got)=false:=decide_eq_false (by omega)
       have GF:=zz gf
       have G99:=zz g9
       have HID:=zz hid
       have HLB:=zz hlB
       have HGT:=zz hgt
       unfold cx at HIX
       clear g9 gf hm1 hm2 hrr2 hz hid hlB hgt D7 hzM
       go_wp2_with fail
       refine qq (HIX.out _) ?_
       clear HIX r4
       go_upto_region 21 with fail
       clear c3
       obtain ⟨d0,d1,d2,d3,_⟩:=bJ G99.out.l.l.l.l.l
       obtain ⟨la,lc,c9⟩:=wk_len G99.out.l.l.l.l.l
       have hlb:=HLB.out
       rw [hlb] at c9
       clear hlb
       have hgl:(gA.len:Int)≤60:=by have:=HLN.out;omega
       go_still_tail 15,(by kernel_rfl)
       change wpList _ _ _ _ _ (World.drew _)
       have gk:=GF.out.drew_
       clear d0 d1 d2 d3 c9
       have ci:=eS gk.l.l.r.is HGT.out
       have fi:=vgs_free gk.l.l.r.is got
       generalize World.drew _=w9 at*
       have gk2:=wk_ids gk got (wrap64 (gA.len:Int))
       clear GF G99
       go_upto_region 22 with fail
       have ew:wrap64 (gA.len:Int)=(gA.len:Int):=by unfold wrap64;omega
       try rw [ew]
       rw [ew] at gk2
       clear ew ci fi gk
       generalize World.setCell _ _ _=we at*
       obtain ⟨i0,hi,hz0,hz1,hz2⟩:=info_parts Tryz.info3
       obtain ⟨ka,kc,rfl⟩:=bE gk2.l.r.is.1
       have b4:=gk2.l.l.cC 4 (.slice ka gA.len kc)
       have GK:=zz gk2
       have HR:=zz gk2.l.r.is.1
       clear gk2
       go_wp2_with (at_builtin;refine bI rfl _ _ 22 rfl 3 i0 (.int .i64 0) 1 8 underlying22 hi hz0 hz1 hz2 rfl (by decide) _ _ _ rfl (HR.out.alloc _) ⟨we.heap.size,0,none⟩ 1 1 [.int .i64 got] rfl ?c0 ?c1 ?c2 ?c3 (by decide) ?_)
       case c0=>rfl
       case c1=>
        intro j u hj
        rw [bU,(Blk.new we _ 3).cell,Nat.zero_add]
        simpa using hj
       case c2=>intro u hu;simp at hu;subst hu;rfl
       case c3=>have:=HLN.out;omega
       intro v' wf ho9 hgr hbk
       have gX:=GK.out.then (aG (aH (fun S h=>bS (m:=1) (news:=[.int .i64 got]) h ((Below.refl we.heap.size we).alloc (Nat.le_refl _) (.cells #[.int .i64 got] 3)) ho9 hgr (by simpa using hbk))))
       have gY:=gX.then (aG (aG (aG (fun S h=>(aA.begin h).vput 4 v' (cs':=wkC X v') rfl))))
       have f4:=gX.l.l.l.vf 4
       have c4:=gX.l.l.cC 4 (.slice ka gA.len kc)
       obtain ⟨na,nc,rfl⟩:=bE ho9
       have HY:=zz gY
       clear GK HR ho9 hgr hbk gX gY b4
       go_wp2_with fail
       go_meet
       have g10:=wk_bk (n:=gA.len+1) HY.out
       rw [HID.out]
       unfold WkT
       rw [HLB.out]
       exact g10
    case rest=>
    clear G9 r2 D7
    have K9:=zz hcut
    have r3:=hcut.l.l.r.vb 3 rs.r
    have r4:=hcut.l.l.r.vC 4 (.complex .f64 (fl rs.z.k) (fl rs.z.i))
    have v0:=hcut.r.vb 0 v.ref
    have v1:=hcut.r.vC 1 (.complex .f64 (fl v.k) (fl v.i))
    have HVA:=zz ((((((((wk_value (n:=gB.len) D8.out _).l).r).l).l).l).l).l.on hcut)
    unfold lcV cx at HVA
    clear hcut
    go_wp2_with fail
    refine qz HVA.out fun wv gv=>?_
    clear HVA K9 r3 r4 v0 v1
    go_wp2_with fail
    go_meet
    exact gv.l.l.l
 case rest=>
 clear HB G4
 have G5:=zz hcut
 generalize wc=wd at*
 clear hcut
 go_upto_region 25 with fail
 go_cut [213] from 202 to 233 (fun u we=>u=.bool zC∧wd=we)
 case first=>
  obtain ⟨c0,c1,c2,c3,c5,c6,cj,cn⟩:=bJ G5.out.l.l
  have cn1:=cn t ht
  clear cj cn c0 c1 c2 c3 c5
  rcases HC with ⟨rfl,⟨b1,b2⟩,_⟩|⟨rfl,b1,_⟩
  · have b3:(p'.ph==4)=true:=by rw [b2];rfl
    rw [b1] at cn1
    clear b1 b2
    go_wp2_with fail
    go_meet
    first|exact ⟨rfl,rfl⟩|exact ⟨by rw [b3],rfl⟩
  · by_cases b2:p'.ph=4
    · have b3:(p'.ph==4)=true:=by rw [b2];rfl
      rw [b1 b2] at cn1
      clear b1 b2
      go_wp2_with fail
      go_meet
      first|exact ⟨rfl,rfl⟩|exact ⟨by rw [b3],rfl⟩
    · have b3:(p'.ph==4)=false:=by simp [b2]
      clear b1 b2
      go_wp2_with fail
      go_meet
      first|exact ⟨rfl,rfl⟩|exact ⟨by rw [b3],rfl⟩
 case rest=>
 obtain ⟨rfl,rfl⟩:=hcut
 go_upto_if 213 with fail
 go_cut [] from 202 to 233 (fun we=>(gB=g'∧gn=go t∧((g'.th t=true∧∀ j,j<4→VlOk ids' (p'.l j) (g'.l t j))∨g'.th t=false))∧aA (Sep (Sep (WkT O wb X ids' gB (Sw.set jo t true) go H2) (Var rb #[.int .i64 0,.bool false,.int .i64 0,.int .i64 0,.int .i64 0,.bool false,.complex .f64 0 0] 43)) (Var xb #[.int .i64 ((t:Int)+1),.bool rs.d,.int .i64 rs.nx,.int .i64 ow,.int .i64 rs.er,.bool rs.r,.complex .f64 (fl rs.z.k) (fl rs.z.i)] 43)) S w we)
 case first=>
  rcases HC with ⟨rfl,⟨b1,b2⟩,b3,b4,b5⟩|⟨rfl,b1,b2⟩
  · have g5:=G5.out
    obtain ⟨c0,c1,c2,c3,c5,c6,cj,cn⟩:=bJ g5.l.l
    have cn1:=cn t ht
    have fn1:=wk_nf g5.l.l t
    have g6:=g5.then (aG (aG (fun S h=>wk_nset (t:=t) (aA.begin h) true)))
    clear cj cn b1 b2 g5
    go_upto_region 27 with fail
    generalize World.setCell _ _ _=w5 at*
    clear c0 c1 c2 c3 c5 c6 cn1 fn1
    have c1:=(bJ g6.l.l).2.1
    go_wp2_with fail
    refine qz ((wk_gr (gr_leave hc (by decide) ht b3 _) rfl).l.l.on g6) fun w6 g7=>?_
    clear c1 g6
    obtain ⟨⟨x0,x1,x2,x3,x4,x5,x6⟩,_⟩:=cT g7.r
    obtain ⟨⟨y0,y1,y2,y3,y4,y5,y6⟩,f0,f1,f2,f3,f4,f5,f6⟩:=cT g7.l.r
    have g8:=tk_put (a0:=.int .i64 ((t:Int)+1)) (a1:=.bool rs.d) (a2:=.int .i64 rs.nx) (a3:=.int .i64 ow) (a4:=.int .i64 rs.er) (a5:=.bool rs.r) (a6:=.complex .f64 (fl rs.z.k) (fl rs.z.i)) g7
    obtain ⟨⟨k0,k1,k2,k3,k4,k5,k6⟩,_⟩:=cT g8.l.r
    rw [←hH2] at g8
    have HZ:=zz (wk_fin g8)
    subst b5
    rw [←b4,hH1] at HZ
    clear g7 g8
    go_wp2_with fail
    (try rw [aI])
    exact bodyPost_ret (v:=.tuple #[.agg #[.int .i64 ((t:Int)+1),.bool rs.d,.int .i64 rs.nx,.int .i64 ow,.int .i64 rs.er,.bool rs.r,.complex .f64 (fl rs.z.k) (fl rs.z.i)],.bool true]) (by simp [results,results7,go_sem,k0,k1,k2,k3,k4,k5,k6]) rfl ⟨ow,rfl,HZ.out⟩
  · go_wp2_with fail
    go_meet
    exact ⟨b2,G5.out⟩
 case rest=>
 obtain ⟨⟨rfl,rfl,hl⟩,g6⟩:=hcut
 clear HC G5 HF GA GB hO
 rw [←hH2] at g6
 have c1:=(bJ g6.l.l).2.1
 have HT:=zz ht
 rcases hl with ⟨h1,hl⟩|h1
 case inr=>
  go_wp2_with fail
  refine qz ((wk_gr (fun S h=>gr_locals0 ht h1 h) rfl).l.l.on g6) fun w6 g7=>?_
  clear c1 g6
  dsimp only
  go_wp2_with fail
  go_loopw [19] (fun i wr=>i=.int .i64 0∧wr=w6) (fun _ _=>0)
  case atStart=>exact ⟨rfl,rfl⟩
  case round=>
   obtain ⟨rfl,rfl⟩:=hrel
   obtain ⟨⟨x0,x1,x2,x3,x4,x5,x6⟩,_⟩:=cT g7.r
   obtain ⟨⟨y0,y1,y2,y3,y4,y5,y6⟩,f0,f1,f2,f3,f4,f5,f6⟩:=cT g7.l.r
   have g8:=tk_put (a0:=.int .i64 ((t:Int)+1)) (a1:=.bool rs.d) (a2:=.int .i64 rs.nx) (a3:=.int .i64 ow) (a4:=.int .i64 rs.er) (a5:=.bool rs.r) (a6:=.complex .f64 (fl rs.z.k) (fl rs.z.i)) g7
   obtain ⟨⟨k0,k1,k2,k3,k4,k5,k6⟩,_⟩:=cT g8.l.r
   have HZ:=zz (wk_fin g8)
   rw [hH1] at HZ
   clear g8 g7
   go_wp2_with fail
   (try rw [aI])
   exact bodyPost_ret (v:=.tuple #[.agg #[.int .i64 ((t:Int)+1),.bool rs.d,.int .i64 rs.nx,.int .i64 ow,.int .i64 rs.er,.bool rs.r,.complex .f64 (fl rs.z.k) (fl rs.z.i)],.bool true]) (by simp [results,results7,go_sem,k0,k1,k2,k3,k4,k5,k6]) rfl ⟨ow,rfl,by rw [set_id rfl];exact HZ.out⟩
 case inl=>
  go_wp2_with fail
  refine (wk_lcD ht h1 g6).mono ?_
  rintro e w6 ⟨⟨mg,mc⟩,rfl,g7⟩
  clear c1 g6
  dsimp only at g7
  dsimp only
  obtain ⟨OT,hOT⟩:∃ T,T=Sep (Sep (Sep (WkT O wb X ids' gB (Sw.set jo t true) go (Sep H1 (Vgs vg 8 39 (cG p'.l)))) (Var rb #[.int .i64 0,.bool false,.int .i64 0,.int .i64 0,.int .i64 0,.bool false,.complex .f64 0 0] 43)) (Var xb #[.int .i64 ((t:Int)+1),.bool rs.d,.int .i64 rs.nx,.int .i64 ow,.int .i64 rs.er,.bool rs.r,.complex .f64 (fl rs.z.k) (fl rs.z.i)] 43)) (Vgs mg 8 39 (cG (gB.l t))):=⟨_,rfl⟩
  have HVL:=zz fun j (hj:j<4) w1 (gg:aA OT S w w1)=>(by rw [hOT] at gg ⊢;exact wk_val (hl j hj) gg:Calls prog 17 #[.pointer (some ⟨wb,0,none⟩),.agg #[.bool (p'.l j).ref,.complex .f64 (fl (p'.l j).k) (fl (p'.l j).i)],.agg #[.bool (gB.l t j).ref,.complex .f64 (fl (gB.l t j).k) (fl (gB.l t j).i)]] w1 fun e w2=>e=.returned (.bool true)∧aA OT S w w2)
  have HLC:=zz fun j (hj:j<4) w1 (gg:aA OT S w w1)=>And.intro (vgs_lc (by rw [hOT] at gg;exact gg.l.l.l.r.r.r.r.r:aA (Vgs vg 8 39 (cG p'.l)) S w w1) hj) (vgs_lc (by rw [hOT] at gg;exact gg.r:aA (Vgs mg 8 39 (cG (gB.l t))) S w w1) hj)
  have HG:=zz (hOT▸g7:aA OT S w w6)
  have HOT:=zz hOT
  unfold cx at HLC
  clear g7 hl h1 hOT
  go_wp2_with fail
  go_loopw [19] (fun i wr=>∃ (j:Nat) (wx:World),wx=wr∧j≤4∧i=.int .i64 j∧aA OT S w wx) (fun i _=>4-(intOf i).toNat)
  case atStart=>exact ⟨0,_,rfl,by omega,rfl,HG.out⟩
  case round=>
   clear HG
   obtain ⟨j,wr,rfl,hj4,rfl,hg⟩:=hrel
   by_cases hlt:j<4
   · have HVJ:=zz fun w1 gg=>HVL.out j hlt w1 gg
     have hji:(j:Int)<4:=by omega
     have hj0:(0:Int)≤(j:Int):=by omega
     have hjd:decide ((j:Int)≥4)=false:=by simp;omega
     have hg1:=zz hg.drew_
     go_upto_region 33 with fail
     clear hg
     have e0:=fun i:In OT S w=>(HLC.out j hlt _ i.h).1.1
     have e1:=fun i:In OT S w=>(HLC.out j hlt _ i.h).1.2
     have e2:=fun i:In OT S w=>(HLC.out j hlt _ i.h).2.1
     have e3:=fun i:In OT S w=>(HLC.out j hlt _ i.h).2.2
     have hne:=Nonempty.intro (⟨_,hg1.out⟩:In _ S w)
     refine bL (by kernel_rfl) (by kernel_rfl) hg1.out ?_
     repeat (go_big_quiet_step (exact In.call HVJ.out))
     refine wpQuiet_nil ?_
     intro w7 hg7
     clear hne e0 e1 e2 e3 hg1
     have HG7:=zz hg7
     clear hg7
     go_wp2_with fail
     go_round
     case rel=>exact ⟨j+1,_,rfl,by omega,by go_num,HG7.out⟩
     case measure=>simp [intOf];omega
   · obtain rfl:j=4:=by omega
     have g7:=hg
     rw [HOT.out] at g7
     have g7:=g7.l
     obtain ⟨⟨x0,x1,x2,x3,x4,x5,x6⟩,_⟩:=cT g7.r
     obtain ⟨⟨y0,y1,y2,y3,y4,y5,y6⟩,f0,f1,f2,f3,f4,f5,f6⟩:=cT g7.l.r
     have g8:=tk_put (a0:=.int .i64 ((t:Int)+1)) (a1:=.bool rs.d) (a2:=.int .i64 rs.nx) (a3:=.int .i64 ow) (a4:=.int .i64 rs.er) (a5:=.bool rs.r) (a6:=.complex .f64 (fl rs.z.k) (fl rs.z.i)) g7
     obtain ⟨⟨k0,k1,k2,k3,k4,k5,k6⟩,_⟩:=cT g8.l.r
     have HZ:=zz (wk_fin g8)
     rw [hH1] at HZ
     clear g8 hg g7
     go_wp2_with fail
     (try rw [aI])
     exact bodyPost_ret (v:=.tuple #[.agg #[.int .i64 ((t:Int)+1),.bool rs.d,.int .i64 rs.nx,.int .i64 ow,.int .i64 rs.er,.bool rs.r,.complex .f64 (fl rs.z.k) (fl rs.z.i)],.bool true]) (by simp [results,results7,go_sem,k0,k1,k2,k3,k4,k5,k6]) rfl ⟨ow,rfl,by rw [set_id rfl];exact HZ.out⟩
end
end Go.Proofs.YtgcmiahhkalfmaaGreat
