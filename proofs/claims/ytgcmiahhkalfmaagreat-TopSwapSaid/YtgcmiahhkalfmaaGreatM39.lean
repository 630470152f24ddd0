import Derived.Test.YtgcmiahhkalfmaaGreatM38
set_option maxRecDepth 100000
set_option maxHeartbeats 8000000
set_option linter.unusedVariables false
set_option linter.unusedSimpArgs false
namespace Go.Proofs.YtgcmiahhkalfmaaGreat
attribute [local go_sem] aF aI aO aV
open Go.Proofs.Tryz
open Go.RowKit
variable {fu r rv:Bool} {c:Cf} {x:GrX} {er1 er2:Int} {b d n t u1 u2 vi vk:Nat} {S:Nat→Prop} {o:OpR} {g g' gf:Sw.Gr} {lv v:Value} {w w':World}
section
theorem cx00:cx 0 0=.complex .f64 0 0:=by unfold cx;rw [fl0]
theorem dsR0 (er:Int):dsR false Sw.w0 er=.tuple #[.agg #[.bool false,.complex .f64 0 0],.int .i64 er]:=by unfold dsR Sw.w0;rw [cx00]
theorem gd_1f (hk:o.kd=1) (w:World):
 aJ prog 41 #[.pointer (some ⟨b,0,none⟩),.int .i64 (t:Int),opR o,lv,.bool true] w (GrB b c x g) (dsR false Sw.w0 6) (GrB b c x g):=by
 intro S h
 obtain ⟨kd,oa,ob,oc,on,z1,z2⟩:=o
 obtain rfl:kd=1:=hk
 have g0:=eE ⟨1,oa,ob,oc,on,z1,z2⟩ h
 obtain ⟨d0,d1,d2,d4⟩:=eY g0.l.l
 have n0:=g0.r.vb 0 false
 have n1:=g0.r.vC 1 (.complex .f64 0 0)
 obtain ⟨q0,q1,f0,f1,_⟩:=cM g0
 have g3:=eN (v0:=.bool false) (v1:=.complex .f64 0 0) rfl g0
 obtain ⟨r0,r1,_,_,HG⟩:=cM g3
 have HF:=zz HG
 rw [dsR0]
 unfold gdW at*
 unfold opR at*
 simp only [opc] at*
 clear h g0 g3 HG
 go_enter func41,ntmps41
 go_upto_region 2 with fail
 generalize ((w.alloc _).alloc _).alloc _=w1 at*
 generalize w.heap.size=k at*
 go_wp2_with fail
 (try rw [aI])
 exact bodyPost_ret (v:=.tuple #[.agg #[.bool false,.complex .f64 0 0],.int .i64 6]) (by simp [results,results41,go_sem,r0,r1]) rfl ⟨rfl,HF.out⟩
theorem gd_1 (hc:c.ok) (hs:c.shapes[0]? = some (false,[true,true,false])) (hk:o.kd=1) (hb:o.b=0) (hlen:g.len≤60) (w:World):
 aN prog 41 #[.pointer (some ⟨b,0,none⟩),.int .i64 (t:Int),opR o,lv,.bool false] w (GrB b c x g) (fun (x':GrX) e=>e=.returned (dsR true ⟨g.len+1,1⟩ 0)∧x'.xb=x.xb) (fun x'=>GrB b c x' (Gr1 g)):=by
 intro S h
 obtain ⟨kd,oa,ob,oc,on,z1,z2⟩:=o
 obtain rfl:kd=1:=hk
 obtain rfl:ob=0:=hb
 have g0:=eE ⟨1,oa,0,oc,on,z1,z2⟩ h
 obtain ⟨d0,d1,d2,d4⟩:=eY g0.l.l
 have HMK:=zz fun w1 (gg:aA (GdT b c x g w.heap.size ⟨1,oa,0,oc,on,z1,z2⟩ #[.bool false,.complex .f64 0 0]) S w w1)=>(gr_make (b:=b) (x:=x) (g:=g) hc hs hlen w1).l.l.l.on gg
 have HRF:=zz fun w1=>sr_ref g.len w1 (by omega)
 have HG0:=zz g0
 unfold gdW at*
 unfold opR dsR cx at*
 simp only [opc] at*
 clear h g0 hc hs hlen
 go_enter func41,ntmps41
 go_upto_region 2 with fail
 generalize ((w.alloc _).alloc _).alloc _=w1 at*
 generalize w.heap.size=k at*
 go_wp2_with fail
 with_reducible refine (HMK.out _ HG0.out).mono ?_
 rintro e w2 ⟨x',⟨rfl,hx⟩,gA⟩
 have gA:aA (GdT b c x' (Gr1 g) k ⟨1,oa,0,oc,on,z1,z2⟩ #[.bool false,.complex .f64 0 0]) S w w2:=gA
 clear HMK HG0 d0 d1 d2 d4
 go_wp2_with fail
 refine qq (HRF.out _) ?_
 obtain ⟨q0,q1,f0,f1,_⟩:=cM gA
 have g3:=eN (v0:=.bool true) (v1:=.complex .f64 (fl (g.len+1)) (fl 1)) rfl gA
 obtain ⟨r0,r1,_,_,HG⟩:=cM g3
 have HF:=zz HG
 clear gA g3 HG HRF
 go_wp2_with fail
 (try rw [aI])
 exact bodyPost_ret (v:=.tuple #[.agg #[.bool true,.complex .f64 (fl (g.len+1)) (fl 1)],.int .i64 0]) (by simp [results,results41,go_sem,r0,r1]) rfl ⟨x',⟨rfl,hx⟩,HF.out⟩
theorem sg_plain (h:(o.kd=12∧r=false∧u1=o.z1∧u2=o.z2)∨(o.kd=13∧r=true∧cx 0 1=.complex .f64 u1 u2)) (w:World):
 Calls prog 93 #[opR o,lv] w fun e w'=>e=.returned (.agg #[.bool r,.complex .f64 u1 u2])∧Below w.heap.size w w':=by
 obtain ⟨kd,oa,ob,oc,on,z1,z2⟩:=o
 have h2:(kd=12∧r=false∧u1=z1∧u2=z2)∨(kd=13∧r=true∧cx 0 1=.complex .f64 u1 u2):=h
 clear h
 have g0:=((aA.begin (O:=Emp) (S:=fun _=>False) (w:=w) fun _ h=>h).moreSt (St.fresh (opc ⟨kd,oa,ob,oc,on,z1,z2⟩) 27)).moreSt (St.fresh #[.bool false,.complex .f64 0 0] 39)
 rw [World.size_alloc] at g0
 have hb:Below w.heap.size w ((w.alloc (.cells (opc ⟨kd,oa,ob,oc,on,z1,z2⟩) 27)).alloc (.cells #[.bool false,.complex .f64 0 0] 39)):=((Below.refl w.heap.size w).alloc (Nat.le_refl _) _).alloc (by simp) _
 have d0:=g0.l.r.vi 0 kd
 have d5:=g0.l.r.vC 5 (.complex .f64 z1 z2)
 have q0:=g0.r.vb 0 false
 have q1:=g0.r.vC 1 (.complex .f64 0 0)
 have f0:=g0.r.vf 0
 have f1:=g0.r.vf 1
 have g1:=g0.then (aH (fun S h=>((aA.begin h).vput 0 (.bool r) (cs':=#[.bool r,.complex .f64 0 0]) rfl).vput 1 (.complex .f64 u1 u2) (cs':=#[.bool r,.complex .f64 u1 u2]) rfl))
 have k0:=g1.r.vb 0 r
 have k1:=g1.r.vC 1 (.complex .f64 u1 u2)
 have B9:=bX (b:=w.heap.size+1) (by omega) [.bool r,.complex .f64 u1 u2] _ 0 hb
 simp only [setCells] at B9
 have HB:=zz B9
 unfold opR at*
 simp only [opc] at*
 clear hb g0 g1 B9
 rcases h2 with ⟨rfl,rfl,rfl,rfl⟩|⟨rfl,rfl,e⟩
 · go_enter func93,ntmps93
   go_upto_region 1 with fail
   generalize (w.alloc _).alloc _=w1 at*
   generalize w.heap.size+1=rb at*
   go_wp2_with fail
   (try rw [aI])
   exact bodyPost_ret (v:=.agg #[.bool false,.complex .f64 u1 u2]) (by simp [results,results93,go_sem,k0,k1]) rfl ⟨rfl,HB.out⟩
 · have HN:=zz fun w=>jD w
   rw [←cx01,e] at HN
   clear e
   go_enter func93,ntmps93
   go_upto_region 1 with fail
   generalize (w.alloc _).alloc _=w1 at*
   generalize w.heap.size+1=rb at*
   go_wp2_with fail
   refine qq (HN.out _) ?_
   clear HN
   go_wp2_with fail
   (try rw [aI])
   exact bodyPost_ret (v:=.agg #[.bool true,.complex .f64 u1 u2]) (by simp [results,results93,go_sem,k0,k1]) rfl ⟨rfl,HB.out⟩
theorem gd_pl (h:(o.kd=12∧r=false∧u1=o.z1∧u2=o.z2)∨(o.kd=13∧r=true∧cx 0 1=.complex .f64 u1 u2)) (w:World):
 aJ prog 41 #[.pointer (some ⟨b,0,none⟩),.int .i64 (t:Int),opR o,lv,.bool fu] w (GrB b c x g) (.tuple #[.agg #[.bool r,.complex .f64 u1 u2],.int .i64 0]) (GrB b c x g):=by
 intro S hg
 have HP:=zz fun w1 (gg:aA (GdT b c x g w.heap.size o #[.bool false,.complex .f64 0 0]) S w w1)=>gg.plain (sg_plain (lv:=lv) h w1)
 obtain ⟨kd,oa,ob,oc,on,z1,z2⟩:=o
 have h2:kd=12∨kd=13:=by rcases h with h|h;exact .inl h.1;exact .inr h.1
 have g0:=eE ⟨kd,oa,ob,oc,on,z1,z2⟩ hg
 obtain ⟨d0,d1,d2,d4⟩:=eY g0.l.l
 have d3:=g0.l.l.r.vi 3 oc
 have d5:=g0.l.l.r.vC 5 (.complex .f64 z1 z2)
 have HG0:=zz g0
 unfold gdW at*
 unfold opR at*
 simp only [opc] at*
 clear h g0 hg
 rcases h2 with rfl|rfl<;>(
  go_enter func41,ntmps41
  go_upto_region 2 with fail
  generalize ((w.alloc _).alloc _).alloc _=w1 at*
  generalize w.heap.size=k at*
  go_wp2_with fail
  refine qz (HP.out _ HG0.out) fun w2 gA=>?_
  clear HP HG0 d0 d1 d2 d3 d4 d5
  obtain ⟨q0,q1,f0,f1,_⟩:=cM gA
  have g3:=eN (v0:=.bool r) (v1:=.complex .f64 u1 u2) rfl gA
  obtain ⟨r0,r1,_,_,HG⟩:=cM g3
  have HF:=zz HG
  clear gA g3 HG
  go_wp2_with fail
  (try rw [aI])
  exact bodyPost_ret (v:=.tuple #[.agg #[.bool r,.complex .f64 u1 u2],.int .i64 0]) (by simp [results,results41,go_sem,r0,r1]) rfl ⟨rfl,HF.out⟩)
theorem part_all {T T':Nat→aC}:∀ {n:Nat},(∀ k,k<n→aU (T k) (T' k))→aU (All n T) (All n T')
 | 0,_=>aU.refl _
 | n+1,h=>aU.both (part_all fun k hk=>h k (by omega)) (h n (by omega))
theorem lsM_off (x:GrX) (th:Nat→Bool) (t:Nat):lsM c x (Sw.set th t false)=dH (lsM c x th) t (.slice none 0 0):=by
 funext k
 unfold lsM dH Sw.set
 by_cases e:k=t<;>simp [e]
theorem grp_quit:aU (GrP b c x g (dH (thM g.th) t (.bool false)) (dH (lsM c x g.th) t (.slice none 0 0))) (GrB b c x (g.quit t)):=by
 have e:∀ k,k<2→aU (LsT c x g k) (LsT c x (g.quit t) k):=fun k _=>by
  unfold LsT Sw.Gr.quit Sw.set
  by_cases e:k=t
  · simp only [e,if_true];exact aU.emp _
  · simp only [e,if_false];exact aU.refl _
 unfold GrP GrB
 rw [←thM_on,←lsM_off]
 exact aU.both (aU.refl _) (aU.both (aU.refl _) (aU.both (aU.refl _) (aU.both (aU.refl _) (aU.both (aU.refl _) (part_all e)))))
theorem gd_18 (hk:o.kd=18) (ht:t<2) (w:World):
 aJ prog 41 #[.pointer (some ⟨b,0,none⟩),.int .i64 (t:Int),opR o,lv,.bool fu] w (GrB b c x g) (dsR false Sw.w0 0) (GrB b c x (g.quit t)):=by
 intro S h
 obtain ⟨kd,oa,ob,oc,on,z1,z2⟩:=o
 obtain rfl:kd=18:=hk
 have g0:=eE ⟨18,oa,ob,oc,on,z1,z2⟩ h
 obtain ⟨d0,d1,d2,d4⟩:=eY g0.l.l
 have g1:aA (Sep (Sep (Sep (GrP b c x g (thM g.th) (lsM c x g.th)) (Var w.heap.size (opc ⟨18,oa,ob,oc,on,z1,z2⟩) 27)) (Var (w.heap.size+1) #[.bool false,.complex .f64 0 0] 39)) (Var (w.heap.size+1+1) #[.bool false,.complex .f64 0 0] 39)) S w _:=g0.drew_
 have h0:(0:Int)≤(t:Int):=by omega
 have h2:(t:Int)<2:=by omega
 have HT:=zz ht
 rw [dsR0]
 unfold gdW at*
 unfold opR at*
 simp only [opc] at*
 clear h g0
 go_enter func41,ntmps41
 go_upto_region 41 with fail
 generalize ((w.alloc _).alloc _).alloc _=w1 at*
 generalize w.heap.size=k at*
 refine wp_region_held_drew (S:=fun w'=>w'.cell? ⟨b,10,none⟩=some (.slice (some ⟨x.tb,0,none⟩) 2 2)∧w'.cell? ⟨b,11,none⟩=some (.slice (some ⟨x.lb,0,none⟩) 2 2)) (by kernel_rfl) ⟨g1.l.l.l.cC 10 (.slice (some ⟨x.tb,0,none⟩) 2 2),g1.l.l.l.cC 11 (.slice (some ⟨x.lb,0,none⟩) 2 2)⟩ (fun hHeld=>?_)
 generalize w1.drew=w2 at*
 refine tk 0 ?_
 refine tk 1 ?_
 refine tk 2 ?_
 refine tk 3 ?_
 refine tk 4 ?_
 refine tk 5 ?_
 refine tk 6 ?_
 refine tk 7 ?_
 refine tk 8 ?_
 refine tk 9 ?_
 refine tk 10 ?_
 have ct1:=aR (j:=t) g1.l.l.l.r.r.r.l.l.is HT.out
 have ft1:=bD g1.l.l.l.r.r.r.l.l.is t
 unfold thM at ct1
 have g2:=g1.then (aG (aG (aG (fun S h=>grp_th (aA.begin h) t (.bool false)))))
 refine rdy 11 fun K hK=>?_
 go_simp
 go_wp2_with fail
 refine hon hK ⟨g2.l.l.l.cC 10 (.slice (some ⟨x.tb,0,none⟩) 2 2),g2.l.l.l.cC 11 (.slice (some ⟨x.lb,0,none⟩) 2 2)⟩ fun hHeld=>?_
 clear hK K
 refine tk 12 ?_
 have cl1:=aR (j:=t) g2.l.l.l.r.r.r.l.r.is HT.out
 have fl1:=bD g2.l.l.l.r.r.r.l.r.is t
 have g3:=g2.then (aG (aG (aG (fun S h=>grp_ls (aA.begin h) t (.slice none 0 0)))))
 clear ct1 ft1
 refine rdy 13 fun K hK=>?_
 go_simp
 go_wp2_with fail
 refine hon hK ⟨g3.l.l.l.cC 10 (.slice (some ⟨x.tb,0,none⟩) 2 2),g3.l.l.l.cC 11 (.slice (some ⟨x.lb,0,none⟩) 2 2)⟩ fun hHeld=>?_
 clear hK K
 refine wpAnyH_done (by kernel_rfl) ?_ _
 have g4:aA (GdT b c x (g.quit t) k ⟨18,oa,ob,oc,on,z1,z2⟩ #[.bool false,.complex .f64 0 0]) S w _:=g3.drop (aU.both (aU.both (aU.both grp_quit (aU.refl _)) (aU.refl _)) (aU.refl _))
 clear hHeld g1 g2 g3 cl1 fl1
 generalize World.setCell (World.setCell _ _ _) _ _=w6 at*
 have n0:=g4.r.vb 0 false
 have n1:=g4.r.vC 1 (.complex .f64 0 0)
 obtain ⟨q0,q1,f0,f1,_⟩:=cM g4
 have g5:=eN (v0:=.bool false) (v1:=.complex .f64 0 0) rfl g4
 obtain ⟨r0,r1,_,_,HG⟩:=cM g5
 have HF:=zz HG
 clear g4 g5 HG
 go_wp2_with fail
 (try rw [aI])
 exact bodyPost_ret (v:=.tuple #[.agg #[.bool false,.complex .f64 0 0],.int .i64 0]) (by simp [results,results41,go_sem,r0,r1]) rfl ⟨rfl,HF.out⟩
end
section
theorem runs_all {P:Program} {f:FuncId} {args:Array Value} {v:Value} {T:Nat→aC} {j:Nat}:∀ {n:Nat},j<n→aJ P f args w (T j) v (T j)→aJ P f args w (All n T) v (All n T)
 | 0,h,_=>absurd h (Nat.not_lt_zero _)
 | n+1,h,hr=>by
  by_cases e:j=n
  · subst e;exact hr.r
  · exact (runs_all (by omega) hr).l
theorem gr_lset (h:aA (GrB b c x g) S w w') (ht:t<2) (hth:g.th t=true) (a:Nat) (r:Bool) (k i:Nat):aA (GrB b c x {g with l:=Sw.set g.l t (Sw.set (g.l t) a ⟨r,k,i⟩)}) S w ((w'.setCell ⟨x.xb t,a*2,none⟩ (.bool r)).setCell ⟨x.xb t,a*2+1,none⟩ (cx k i)):=
 h.then (aH (aH (aH (aH (aH (fun S h=>all_goes ht (fun k hk e=>by unfold LsT;simp only [Sw.set,if_neg e]) (fun S h=>by
  unfold LsT at h ⊢
  simp only [hth,if_true,Sw.set_same] at h ⊢
  have e:=locM_set (g.l t) a ⟨r,k,i⟩
  have e2:jL (g.l t) a ⟨r,k,i⟩=Sw.set (g.l t) a ⟨r,k,i⟩:=rfl
  rw [←e2,←e]
  exact (dE h (a*2) (.bool r)).then fun S h=>dE h (a*2+1) (cx k i)) S h))))))
def doR (r:Bool) (u1 u2:Nat) (er:Int):Value:=.tuple #[.agg #[.bool r,.complex .f64 u1 u2],.int .i64 er]
theorem gJ (ht:t<2) (hth:g.th t=true)
 (hck:∀ w,aJ prog 39 #[cfV c x.g x.cap,opR o] w (aZ c x.g x.cap) (.int .i64 0) (aZ c x.g x.cap))
 (hop:∀ w,aJ prog 40 #[opR o,.slice (some ⟨x.xb t,0,none⟩) c.locals c.locals] w (LsT c x g t) (.int .i64 er1) (LsT c x g t))
 (hds:er1=0→∀ w,aN prog 41 #[.pointer (some ⟨b,0,none⟩),.int .i64 (t:Int),opR o,.slice (some ⟨x.xb t,0,none⟩) c.locals c.locals,.bool fu] w (GrB b c x g) (fun (x':GrX) e=>e=.returned (doR rv (fl vk) (fl vi) er2)∧x'.xb=x.xb) (fun x'=>GrB b c x' g'))
 (hv:(er1≠0∧v=doR false 0 0 er1∧gf=g)∨(er1=0∧er2≠0∧v=doR false 0 0 er2∧gf=g')∨(er1=0∧er2=0∧(o.kd=4∨o.kd=8∨o.kd=18)∧v=doR false 0 0 0∧gf=g')∨
   (er1=0∧er2=0∧(o.kd=1∨o.kd=3∨o.kd=7∨o.kd=12∨o.kd=13)∧v=doR rv (fl vk) (fl vi) 0∧g'.th t=true∧o.a<c.locals∧gf={g' with l:=Sw.set g'.l t (Sw.set (g'.l t) o.a ⟨rv,vk,vi⟩)})) (w:World):
 aJ prog 15 #[.pointer (some ⟨b,0,none⟩),.int .i64 (t:Int),opR o,.bool fu] w (GrB b c x g) v (GrO b c gf):=by
 intro S h
 have g0:=eE o h
 have HIS:=zz fun w1 (gg:aA (GdT b c x g w.heap.size o #[.bool false,.complex .f64 0 0]) S w w1)=>hZ (gr_isB (b:=b) (c:=c) (x:=x) (g:=g) ht w1) gg
 have HCK:=zz fun w1 (gg:aA (GdT b c x g w.heap.size o #[.bool false,.complex .f64 0 0]) S w w1)=>hZ ((hck w1).l.r) gg
 have HOP:=zz fun w1 (gg:aA (GdT b c x g w.heap.size o #[.bool false,.complex .f64 0 0]) S w w1)=>hZ ((runs_all ht (hop w1)).r.r.r.r.r) gg
 have HDS:=zz fun w1 (gg:aA (GdT b c x g w.heap.size o #[.bool false,.complex .f64 0 0]) S w w1) he=>(hds he w1).l.l.l.on gg
 rw [hth] at HIS
 obtain ⟨kd,oa,ob,oc,on,z1,z2⟩:=o
 have HC9:=zz fun w1 (gg:aA (GdO b c x g w.heap.size ⟨kd,oa,ob,oc,on,z1,z2⟩) S w w1)=>And.intro (gr_conf9 gg.l) (And.intro (eY gg) (And.intro (gg.r.vi 3 oc) (gg.r.vC 5 (.complex .f64 z1 z2))))
 have HCL:=zz fun w1 (gg:aA (GdT b c x g w.heap.size ⟨kd,oa,ob,oc,on,z1,z2⟩ #[.bool false,.complex .f64 0 0]) S w w1)=>And.intro (iR gg.l.l.l).2.2.1 (by have:=(iR gg.l.l.l).2.2.2.2.2 t ht;unfold lsM at this;rw [hth] at this;exact this:w1.cell? ⟨x.lb,t,none⟩=some (.slice (some ⟨x.xb t,0,none⟩) c.locals c.locals))
 have HV:=zz hv
 have HT:=zz ht
 have HG0:=zz g0
 have h0:(0:Int)≤(t:Int):=by omega
 have h2:(t:Int)<2:=by omega
 unfold gdW at*
 unfold cfV at HCK
 unfold opR doR at*
 simp only [opc] at*
 clear h g0 hth hck hop hds hv ht
 go_enter func15,ntmps15
 go_upto_region 2 with fail
 generalize ((w.alloc _).alloc _).alloc _=w1 at*
 generalize w.heap.size=k at*
 go_wp2_with fail
 refine qz (HIS.out _ HG0.out) fun w2 gA=>?_
 clear HIS HG0
 have gA:aA (GdT b c x g k ⟨kd,oa,ob,oc,on,z1,z2⟩ #[.bool false,.complex .f64 0 0]) S w w2:=gA
 go_upto_region 4 with fail
 have g1:=gA.drew_
 refine wp_region_held_drew (S:=fun w'=>aA (GdO b c x g k ⟨kd,oa,ob,oc,on,z1,z2⟩) S w w') (by kernel_rfl) g1.l.l (fun hHeld=>?_)
 generalize w2.drew=w3 at*
 clear gA
 refine tkh 0 HC9.out ?_
 refine tkh 1 HC9.out ?_
 refine tkh 2 HC9.out ?_
 refine tkh 3 HC9.out ?_
 refine tkh 4 HC9.out ?_
 refine rdy 5 fun K hK=>?_
 go_simp
 refine qz (HCK.out _ g1) fun w4 gB=>?_
 have gB:aA (GdT b c x g k ⟨kd,oa,ob,oc,on,z1,z2⟩ #[.bool false,.complex .f64 0 0]) S w w4:=gB
 clear HCK g1
 go_wp2_with fail
 refine hon hK gB.l.l fun hHeld=>?_
 clear hK K
 refine tk 6 ?_
 refine wpAnyH_done (by kernel_rfl) ?_ _
 clear hHeld
 obtain ⟨b11,ct⟩:=HCL.out _ gB
 obtain ⟨_,⟨d0,d1,d2,d4⟩,d3,d5⟩:=HC9.out _ gB.l.l
 go_wp2_with fail
 refine qz (HOP.out _ gB) fun w5 gC=>?_
 have gC:aA (GdT b c x g k ⟨kd,oa,ob,oc,on,z1,z2⟩ #[.bool false,.complex .f64 0 0]) S w w5:=gC
 clear HOP HCL b11 ct d0 d1 d2 d3 d4 d5 gB
 by_cases h1:er1=0
 case neg=>
  obtain ⟨rfl,rfl⟩:v=doR false 0 0 er1∧gf=g:=by
   rcases HV.out with h|h|h|h
   · exact h.2
   · exact absurd h.1 h1
   · exact absurd h.1 h1
   · exact absurd h.1 h1
  clear HV HDS
  have n0:=gC.r.vb 0 false
  have n1:=gC.r.vC 1 (.complex .f64 0 0)
  obtain ⟨q0,q1,f0,f1,_⟩:=cM gC
  have g3:=eN (v0:=.bool false) (v1:=.complex .f64 0 0) rfl gC
  obtain ⟨r0,r1,_,_,HG⟩:=cM g3
  have HF:=zz (aA.ex (T:=fun x=>GrB b c x _) HG)
  clear g3 HG
  go_wp2_with fail
  (try rw [aI])
  exact bodyPost_ret (v:=.tuple #[.agg #[.bool false,.complex .f64 0 0],.int .i64 er1]) (by simp [results,results15,go_sem,r0,r1]) rfl ⟨rfl,HF.out⟩
 case pos=>
  subst h1
  obtain ⟨_,⟨d0,d1,d2,d4⟩,d3,d5⟩:=HC9.out _ gC.l.l
  go_wp2_with fail
  refine (HDS.out _ gC trivial).mono ?_
  rintro e w6 ⟨x',⟨rfl,hx⟩,gD⟩
  have gD:aA (GdT b c x' g' k ⟨kd,oa,ob,oc,on,z1,z2⟩ #[.bool false,.complex .f64 0 0]) S w w6:=gD
  have gE:=gD.moreSt (St.fresh #[.bool rv,.complex .f64 (fl vk) (fl vi)] 39)
  clear HDS gC gD d0 d1 d2 d3 d4 d5 HC9
  have v0:=gE.r.vb 0 rv
  have v1:=gE.r.vC 1 (.complex .f64 (fl vk) (fl vi))
  by_cases h2:er2=0
  case neg=>
   obtain ⟨rfl,rfl⟩:v=doR false 0 0 er2∧gf=g':=by
    rcases HV.out with h|h|h|h
    · exact absurd rfl h.1
    · exact h.2.2
    · exact absurd h.2.1 h2
    · exact absurd h.2.1 h2
   clear HV
   have n0:=gE.l.r.vb 0 false
   have n1:=gE.l.r.vC 1 (.complex .f64 0 0)
   obtain ⟨q0,q1,f0,f1,_⟩:=cM gE.l
   have g3:=eN (v0:=.bool false) (v1:=.complex .f64 0 0) rfl gE.l
   obtain ⟨r0,r1,_,_,HG⟩:=cM g3
   have HF:=zz (aA.ex (T:=fun x=>GrB b c x _) HG)
   clear g3 HG
   go_wp2_with fail
   (try rw [aI])
   exact bodyPost_ret (v:=.tuple #[.agg #[.bool false,.complex .f64 0 0],.int .i64 er2]) (by simp [results,results15,go_sem,r0,r1]) rfl ⟨rfl,HF.out⟩
  case pos=>
   subst h2
   have hv2:((kd=4∨kd=8∨kd=18)∧v=doR false 0 0 0∧gf=g')∨((kd=1∨kd=3∨kd=7∨kd=12∨kd=13)∧v=doR rv (fl vk) (fl vi) 0∧g'.th t=true∧oa<c.locals∧gf={g' with l:=Sw.set g'.l t (Sw.set (g'.l t) oa ⟨rv,vk,vi⟩)}):=by
    rcases HV.out with h|h|h|h
    · exact absurd rfl h.1
    · exact absurd rfl h.2.1
    · exact .inl h.2.2
    · exact .inr h.2.2
   clear HV
   obtain ⟨d0,d1,d2,d4⟩:=eY gE.l.l.l
   rcases hv2 with ⟨hk,rfl,rfl⟩|⟨hk,rfl,hth',ha,rfl⟩
   · have n0:=gE.l.r.vb 0 false
     have n1:=gE.l.r.vC 1 (.complex .f64 0 0)
     obtain ⟨q0,q1,f0,f1,_⟩:=cM gE.l
     have g3:=eN (v0:=.bool false) (v1:=.complex .f64 0 0) rfl gE.l
     obtain ⟨r0,r1,_,_,HG⟩:=cM g3
     have HF:=zz (aA.ex (T:=fun x=>GrB b c x _) HG)
     clear g3 HG
     rcases hk with rfl|rfl|rfl<;>(
      go_wp2_with fail
      (try rw [aI])
      exact bodyPost_ret (v:=.tuple #[.agg #[.bool false,.complex .f64 0 0],.int .i64 0]) (by simp [results,results15,go_sem,r0,r1]) rfl ⟨rfl,HF.out⟩)
   · have cl:=jH gE.l.l.l.l HT.out hth' ha
     have fl0:=bD (gr_loc gE.l.l.l.l HT.out hth').is (oa*2)
     have fl1:=bD (gr_loc gE.l.l.l.l HT.out hth').is (oa*2+1)
     have gF:=gE.then (aG (aG (aG (aG (fun S h=>gr_lset (aA.begin h) HT.out hth' oa rv vk vi)))))
     have gF:aA (Sep (GdT b c x' {g' with l:=Sw.set g'.l t (Sw.set (g'.l t) oa ⟨rv,vk,vi⟩)} k ⟨kd,oa,ob,oc,on,z1,z2⟩ #[.bool false,.complex .f64 0 0]) (Var w6.heap.size #[.bool rv,.complex .f64 (fl vk) (fl vi)] 39)) S w _:=gF
     unfold cx at*
     rw [hx] at cl fl0 fl1 gF
     obtain ⟨cl0,cl1⟩:=cl
     have w0:=gF.r.vb 0 rv
     have w1:=gF.r.vC 1 (.complex .f64 (fl vk) (fl vi))
     obtain ⟨q0,q1,f0,f1,_⟩:=cM gF.l
     have g3:=eN (v0:=.bool rv) (v1:=.complex .f64 (fl vk) (fl vi)) rfl gF.l
     obtain ⟨r0,r1,_,_,HG⟩:=cM g3
     have HF:=zz (aA.ex (T:=fun x=>GrB b c x _) HG)
     have ha0:(0:Int)≤(oa:Int):=by omega
     have ha1:(oa:Int)<(c.locals:Int):=by omega
     clear g3 HG gE gF
     rcases hk with rfl|rfl|rfl|rfl|rfl<;>(
      go_wp2_with fail
      (try rw [aI])
      exact bodyPost_ret (v:=.tuple #[.agg #[.bool rv,.complex .f64 (fl vk) (fl vi)],.int .i64 0]) (by simp [results,results15,go_sem,r0,r1]) rfl ⟨rfl,HF.out⟩)
end
end Go.Proofs.YtgcmiahhkalfmaaGreat
