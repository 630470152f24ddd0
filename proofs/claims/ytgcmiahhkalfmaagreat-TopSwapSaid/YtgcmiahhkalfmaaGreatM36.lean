import Derived.Test.YtgcmiahhkalfmaaGreatM35
set_option maxRecDepth 100000
set_option maxHeartbeats 8000000
set_option linter.unusedVariables false
set_option linter.unusedSimpArgs false
namespace Go.Proofs.YtgcmiahhkalfmaaGreat
attribute [local go_sem] aF aI aO aV
open Go.Proofs.Tryz
open Go.RowKit
variable {z:Bool} {c:Cf} {x:GrX} {kd:Int} {l:List Bool} {b cap cg ch d e j k lg n sz t wl:Nat} {f:Nat→Nat} {S:Nat→Prop} {o:OpR} {y:Option Addr} {P:Program} {g:Sw.Gr} {A O:aC} {s sv v:Value} {w w':World}
def opR (o:OpR):Value:=.agg (opc o)
section
variable {l:Nat→Lc}
theorem sg_opnd (hch:(ch=66∧j=o.b)∨(ch=98∧j=o.b)∨(ch=65∧j=o.a)) (hj:j<n) (hn:n≤8) (h:(bV lg (n*2) 39 (cG l)).at_ S w):
 Calls prog 87 #[.int .u8 (ch:Int),opR o,.slice (some ⟨lg,0,none⟩) n n] w fun e w'=>e=.returned (.agg #[.bool (l j).ref,cx (l j).k (l j).i])∧Below w.heap.size w w':=by
 obtain ⟨kd,oa,ob,oc,on,z1,z2⟩:=o
 have hch2:(ch=66∧j=ob)∨(ch=98∧j=ob)∨(ch=65∧j=oa):=hch
 clear hch
 have g0:=((aA.begin h).moreSt (St.fresh (opc ⟨kd,oa,ob,oc,on,z1,z2⟩) 27)).moreSt (St.fresh #[.bool false,.complex .f64 0 0] 39)
 rw [World.size_alloc] at g0
 have hb:Below w.heap.size w ((w.alloc (.cells (opc ⟨kd,oa,ob,oc,on,z1,z2⟩) 27)).alloc (.cells #[.bool false,.complex .f64 0 0] 39)):=((Below.refl w.heap.size w).alloc (Nat.le_refl _) _).alloc (by simp) _
 have d1:=g0.l.r.vi 1 oa
 have d2:=g0.l.r.vi 2 ob
 have r0:=g0.r.vb 0 false
 have r1:=g0.r.vC 1 (.complex .f64 0 0)
 have f0:=g0.r.vf 0
 have f1:=g0.r.vf 1
 have l0:=aR (j:=j*2) g0.l.l.is (by omega)
 have l1:=aR (j:=j*2+1) g0.l.l.is (by omega)
 rw [locM0] at l0
 rw [locM1] at l1
 have g1:=g0.then (aH (fun S h=>((aA.begin h).vput 0 (.bool (l j).ref) (cs':=#[.bool (l j).ref,.complex .f64 0 0]) rfl).vput 1 (cx (l j).k (l j).i) (cs':=#[.bool (l j).ref,cx (l j).k (l j).i]) rfl))
 have k0:=g1.r.vb 0 ((l j).ref)
 have k1:=g1.r.vC 1 (cx (l j).k (l j).i)
 have B9:=bX (b:=w.heap.size+1) (by omega) [.bool (l j).ref,cx (l j).k (l j).i] _ 0 hb
 simp only [setCells] at B9
 have HB:=zz B9
 have h0:(j:Int)<(n:Int):=by omega
 have h2:(0:Int)≤(j:Int):=by omega
 have h3:¬(n:Int)≤(j:Int):=by omega
 unfold opR at*
 simp only [opc,cx] at*
 clear h hb g0 g1 hn B9
 rcases hch2 with ⟨rfl,e⟩|⟨rfl,e⟩|⟨rfl,e⟩<;>(
  subst e
  go_enter func87,ntmps87
  go_upto_region 1 with fail
  generalize (w.alloc _).alloc _=w1 at*
  generalize w.heap.size+1=rb at*
  go_wp2_with fail
  (try rw [aI])
  exact bodyPost_ret (v:=.agg #[.bool (l j).ref,.complex .f64 (fl (l j).k) (fl (l j).i)]) (by simp [results,results87,go_sem,k0,k1]) rfl ⟨rfl,HB.out⟩)
theorem sg_ask (h:(kd=3∧s=.string ⟨#[66]⟩)∨(kd=4∧s=.string ⟨#[65]⟩)∨(kd=8∧s=.string ⟨#[98]⟩)∨((kd=1∨kd=7∨kd=12∨kd=13∨kd=18)∧s=.string ⟨#[]⟩)) (w:World):
 Calls prog 86 #[.int .i64 kd] w fun e w'=>e=.returned s∧w=w':=by
 rcases h with ⟨rfl,rfl⟩|⟨rfl,rfl⟩|⟨rfl,rfl⟩|⟨rfl|rfl|rfl|rfl|rfl,rfl⟩<;>(
  go_enter func86,ntmps86
  go_wp2_with fail
  go_ret
  exact ⟨rfl,rfl⟩)
theorem sg_opds0 (hk:o.kd=1∨o.kd=7∨o.kd=12∨o.kd=13∨o.kd=18) (lv:Value) (w:World):
 Calls prog 40 #[opR o,lv] w fun e w'=>e=.returned (.int .i64 0)∧Below w.heap.size w w':=by
 have HA:=zz fun w=>sg_ask (kd:=(o.kd:Int)) (s:=.string ⟨#[]⟩) (.inr (.inr (.inr ⟨by omega,rfl⟩))) w
 have g0:aA (Sep Emp (Var w.heap.size (opc o) 27)) (fun _=>False) w _:=(aA.begin (O:=Emp) fun _ h=>h).moreSt (St.fresh (opc o) 27)
 have hb:=zz ((Below.refl w.heap.size w).alloc (Nat.le_refl _) (.cells (opc o) 27))
 have d0:=g0.r.vi 0 o.kd
 clear g0 hk
 unfold opR at*
 simp only [opc] at*
 go_enter func40,ntmps40
 go_upto_region 1 with fail
 generalize w.alloc _=w1 at*
 go_wp2_with fail
 refine qq (HA.out _) ?_
 clear HA
 go_wp2_with fail
 go_loop [6,7] (fun i _=>i=.int .i64 0) (fun _ _=>0)
 case atStart=>exact rfl
 case round=>
  obtain rfl:=hrel
  go_wp2_with fail
  go_loop [8] (fun i=>i=.int .i64 0) (fun _=>0)
  case atStart=>exact rfl
  case round=>
   obtain rfl:=hrel
   go_wp2_with fail
   go_ret
   exact ⟨rfl,hb.out⟩
end
section
variable {l:Nat→Lc}
theorem field_v (r:Bool) (x1 x2:Nat) (w:World):(Instr.field 39 (.agg #[.bool r,.complex .f64 x1 x2]) 0).run prog w=.ok (.bool r) w∧(Instr.field 39 (.agg #[.bool r,.complex .f64 x1 x2]) 1).run prog w=.ok (.complex .f64 x1 x2) w:=by
 constructor<;>kernel_rfl
def eZ (k:Nat) (v:Lc):Int:=if v.ref=false then 4 else if k≠8∧v.k=0∧v.i=1 then 3 else 0
theorem sg_opds (hk:(o.kd=3∧j=o.b)∨(o.kd=4∧j=o.a)∨(o.kd=8∧j=o.b)) (hj:j<n) (hn:n≤8) (hl:(l j).k≤63∧(l j).i≤63) (h:(bV lg (n*2) 39 (cG l)).at_ S w):
 Calls prog 40 #[opR o,.slice (some ⟨lg,0,none⟩) n n] w fun e w'=>e=.returned (.int .i64 (eZ o.kd (l j)))∧aA (bV lg (n*2) 39 (cG l)) S w w':=by
 obtain ⟨kd,oa,ob,oc,on,z1,z2⟩:=o
 have hk2:(kd=3∧j=ob)∨(kd=4∧j=oa)∨(kd=8∧j=ob):=hk
 clear hk
 obtain ⟨ch,hch,hk3⟩:∃ ch:Nat,((ch=66∧j=ob)∨(ch=98∧j=ob)∨(ch=65∧j=oa))∧((kd=3∧ch=66)∨(kd=4∧ch=65)∨(kd=8∧ch=98)):=by
  rcases hk2 with ⟨a,b⟩|⟨a,b⟩|⟨a,b⟩
  · exact ⟨66,.inl ⟨rfl,b⟩,.inl ⟨a,rfl⟩⟩
  · exact ⟨65,.inr (.inr ⟨rfl,b⟩),.inr (.inl ⟨a,rfl⟩)⟩
  · exact ⟨98,.inr (.inl ⟨rfl,b⟩),.inr (.inr ⟨a,rfl⟩)⟩
 clear hk2
 have g0:=(aA.begin h).moreSt (St.fresh (opc ⟨kd,oa,ob,oc,on,z1,z2⟩) 27)
 have d0:=g0.r.vi 0 kd
 obtain ⟨u,hu⟩:∃ u,((l j).k==0&&(l j).i==1)=u:=⟨_,rfl⟩
 obtain ⟨r,hr⟩:∃ r,(l j).ref=r:=⟨_,rfl⟩
 obtain ⟨z,hz⟩:∃ z,(decide (kd≠8)&&u)=z:=⟨_,rfl⟩
 obtain ⟨x1,hx1⟩:∃ x,fl (l j).k=x:=⟨_,rfl⟩
 obtain ⟨x2,hx2⟩:∃ x,fl (l j).i=x:=⟨_,rfl⟩
 have HE:eZ kd (l j)=if r=false then 4 else if z=true then 3 else 0:=by unfold eZ;rw [←hz,←hu,←hr];simp
 obtain ⟨O,hO⟩:∃ O,O=Sep (bV lg (n*2) 39 (cG l)) (Var w.heap.size (opc ⟨kd,oa,ob,oc,on,z1,z2⟩) 27):=⟨_,rfl⟩
 have HL:=zz fun w1 (gg:aA O S w w1)=>(by rw [hO] at gg;exact gg.l:aA (bV lg (n*2) 39 (cG l)) S w w1)
 have HO:=zz fun w1 (gg:aA O S w w1)=>gg.plain (sg_opnd (lg:=lg) (n:=n) (l:=l) (o:=⟨kd,oa,ob,oc,on,z1,z2⟩) hch hj hn (HL.out _ gg).is)
 have HN:=zz fun w1 (gg:aA O S w w1)=>gg.plain ((jD w1).mono fun e w2 ⟨h1,h2⟩=>⟨h1,h2▸Below.refl _ _⟩)
 have HW:=zz fun w1 (gg:aA O S w w1)=>gg.plain ((kU (l j).k (l j).i 0 1 w1 hl.1 hl.2 (by omega) (by omega)).mono fun e w2 ⟨h1,h2⟩=>⟨h1,h2▸Below.refl _ _⟩)
 have HC:=zz fun w1 (gg:aA O S w w1)=>(by rw [hO] at gg;exact ⟨gg.r.vc 0 rfl,gg.r.vc 1 rfl,gg.r.vc 2 rfl,gg.r.vc 3 rfl,gg.r.vc 4 rfl,gg.r.vc 5 rfl⟩:w1.cell? ⟨w.heap.size,0,none⟩=some (.int .i64 kd)∧w1.cell? ⟨w.heap.size,1,none⟩=some (.int .i64 oa)∧w1.cell? ⟨w.heap.size,2,none⟩=some (.int .i64 ob)∧w1.cell? ⟨w.heap.size,3,none⟩=some (.int .i64 oc)∧w1.cell? ⟨w.heap.size,4,none⟩=some (.int .i64 on)∧w1.cell? ⟨w.heap.size,5,none⟩=some (.complex .f64 z1 z2))
 have g1:=g0
 rw [←hO] at g1
 show Calls _ _ #[opR ⟨kd,oa,ob,oc,on,z1,z2⟩,_] w fun e w'=>e=.returned (.int .i64 (eZ kd (l j)))∧_
 rw [HE]
 rw [cx01,hu] at HW
 rw [hr] at HO
 unfold opR cx cJ at*
 simp only [opc] at*
 rw [hx1,hx2] at HO HW
 clear h hj hn hl hu hr hx1 hx2 hch hO g0 HE
 rcases hk3 with ⟨rfl,rfl⟩|⟨rfl,rfl⟩|⟨rfl,rfl⟩<;>(
  have HZ:=zz hz
  clear hz
  have g2:=zz g1
  clear g1
  have hs0:∀ h,((⟨#[66]⟩:ByteArray)[0]'h).toNat=66:=fun _=>rfl
  have hs1:∀ h,((⟨#[65]⟩:ByteArray)[0]'h).toNat=65:=fun _=>rfl
  have hs2:∀ h,((⟨#[98]⟩:ByteArray)[0]'h).toNat=98:=fun _=>rfl
  have hf0:=fun w=>(field_v r x1 x2 w).1
  have hf1:=fun w=>(field_v r x1 x2 w).2
  go_enter func40,ntmps40
  go_upto_region 1 with fail
  generalize w.alloc _=w1 at*
  generalize w.heap.size=bx at*
  go_wp2_with fail
  first
   | (with_reducible refine (sg_ask (.inl ⟨rfl,rfl⟩) _).mono ?_;rintro e w' ⟨rfl,rfl⟩)
   | (with_reducible refine (sg_ask (.inr (.inl ⟨rfl,rfl⟩)) _).mono ?_;rintro e w' ⟨rfl,rfl⟩)
   | (with_reducible refine (sg_ask (.inr (.inr (.inl ⟨rfl,rfl⟩))) _).mono ?_;rintro e w' ⟨rfl,rfl⟩)
  go_wp2_with fail
  clear d0
  go_loopw [6,7] (fun i _ wr=>(i=.int .i64 0∨i=.int .i64 1∧r=true)∧aA O S w wr) (fun i _ _=>1-(intOf i).toNat)
  case atStart=>exact ⟨.inl rfl,g2.out⟩
  case round=>
   clear g2
   obtain ⟨hi,hg⟩:=hrel
   rcases hi with rfl|⟨rfl,rfl⟩
   · have hg1:=zz hg.drew_
     clear hg
     go_wp2_with fail
     have e0:=fun i:In O S w=>(HC.out _ i.h).1
     have e1:=fun i:In O S w=>(HC.out _ i.h).2.1
     have e2:=fun i:In O S w=>(HC.out _ i.h).2.2.1
     have e3:=fun i:In O S w=>(HC.out _ i.h).2.2.2.1
     have e4:=fun i:In O S w=>(HC.out _ i.h).2.2.2.2.1
     have e5:=fun i:In O S w=>(HC.out _ i.h).2.2.2.2.2
     have hne:=Nonempty.intro (⟨_,hg1.out⟩:In _ S w)
     refine bL (by kernel_rfl) (by kernel_rfl) hg1.out ?_
     repeat (go_big_quiet_step (exact In.call HO.out))
     refine wpQuiet_nil ?_
     intro w7 hg7
     clear hne e0 e1 e2 e3 e4 e5 hg1
     have HG:=zz hg7
     clear hg7
     cases r
     · go_wp2_with fail
       go_ret
       exact ⟨by simp,HL.out _ HG.out⟩
     · go_wp2_with fail
       go_round
       case rel=>exact ⟨.inr ⟨rfl,by simp⟩,HG.out⟩
       case measure=>simp [intOf]
   · have HG:=zz hg
     clear hg
     go_wp2_with fail
     go_loopw [8] (fun i wr=>(i=.int .i64 0∨i=.int .i64 1∧z=false)∧aA O S w wr) (fun i _=>1-(intOf i).toNat)
     case atStart=>exact ⟨.inl rfl,HG.out⟩
     case round=>
      clear HG
      obtain ⟨hi,hg⟩:=hrel
      rcases hi with rfl|⟨rfl,hu⟩
      · have hg1:=zz hg.drew_
        clear hg
        go_wp2_with fail
        have e0:=fun i:In O S w=>(HC.out _ i.h).1
        have e1:=fun i:In O S w=>(HC.out _ i.h).2.1
        have e2:=fun i:In O S w=>(HC.out _ i.h).2.2.1
        have e3:=fun i:In O S w=>(HC.out _ i.h).2.2.2.1
        have e4:=fun i:In O S w=>(HC.out _ i.h).2.2.2.2.1
        have e5:=fun i:In O S w=>(HC.out _ i.h).2.2.2.2.2
        have hne:=Nonempty.intro (⟨_,hg1.out⟩:In _ S w)
        refine bL (by kernel_rfl) (by kernel_rfl) hg1.out ?_
        repeat (go_big_quiet_step (first|exact In.call HO.out|exact In.call HN.out|exact In.call HW.out))
        refine wpQuiet_nil ?_
        intro w7 hg7
        clear hne e0 e1 e2 e3 e4 e5 hg1
        have HG:=zz hg7
        clear hg7
        cases u<;>cases z<;>(try exact absurd HZ.out (by decide))
        all_goals
         go_wp2_with fail
         first
          | (go_ret;exact ⟨by simp,HL.out _ HG.out⟩)
          | (go_round
             case rel=>exact ⟨.inr ⟨rfl,by decide⟩,HG.out⟩
             case measure=>simp [intOf])
      · have HG:=zz hg
        clear hg
        subst hu
        go_wp2_with fail
        go_ret
        exact ⟨by simp,HL.out _ HG.out⟩)
end
theorem thgs_len (x:GrX):∀ n,(fI x n).length=n*3
 | 0=>rfl
 | n+1=>by unfold fI;rw [List.length_append,thgs_len x n];simp;omega
theorem thgs_get (x:GrX) {d:Nat}:∀ {n:Nat},d<n→(fI x n)[d*3]? = some (.int .i64 0)∧(fI x n)[d*3+2]? = some (.slice (some ⟨x.wb d,0,none⟩) 3 (x.wc d))
 | 0,h=>absurd h (Nat.not_lt_zero d)
 | n+1,h=>by
  unfold fI
  rw [List.getElem?_append,List.getElem?_append,thgs_len]
  by_cases e:d=n
  · subst e
    rw [if_neg (by omega),if_neg (by omega),show d*3-d*3=0 by omega,show d*3+2-d*3=2 by omega]
    exact ⟨rfl,rfl⟩
  · rw [if_pos (by omega),if_pos (by omega)]
    exact thgs_get x (by omega)
section
def ThgAt (x:GrX) (n d:Nat) (w:World):Prop:=∃ lg cap,x.lv=.slice (some ⟨lg,0,none⟩) n cap∧w.cell? ⟨lg,d*3,none⟩=some (.int .i64 0)∧w.cell? ⟨lg,d*3+2,none⟩=some (.slice (some ⟨x.wb d,0,none⟩) 3 (x.wc d))
theorem iQ (h:aA (GrB b c x g) S w w') (hd:d<g.len):ThgAt x g.len d w':=by
 have h1:aA (Seq 3 x.lv g.len (fI x g.len)) S w w':=h.r.r.l.l.conv fun S w h=>cX h (by omega)
 obtain ⟨S1,h2,_⟩:=h1.now
 obtain ⟨lg,o,cap,e,_⟩:=bN h2
 obtain ⟨⟨_,h3⟩,_⟩:=h.r.r.l.l.is
 rcases h3 with ⟨_,h0⟩|⟨lg',cap',cur,e',_⟩
 · omega
 · have:=e.symm.trans e'
   cases this
   rw [e] at h1
   obtain ⟨a,b⟩:=thgs_get x hd
   have c1:=h1.seq a
   have c2:=h1.seq b
   rw [Nat.zero_add] at c1 c2
   exact ⟨lg,cap,e,c1,c2⟩
theorem gr_conf9 (h:aA (GrB b c x g) S w w'):w'.cell? ⟨b,0,none⟩=some (.int .i64 c.frags)∧w'.cell? ⟨b,1,none⟩=some (.int .i64 c.spine)∧w'.cell? ⟨b,2,none⟩=some (.int .i64 c.globals)∧w'.cell? ⟨b,3,none⟩=some (.int .i64 c.threads)∧w'.cell? ⟨b,4,none⟩=some (.int .i64 c.locals)∧w'.cell? ⟨b,5,none⟩=some (.int .i64 0)∧w'.cell? ⟨b,6,none⟩=some (.int .i64 c.stack)∧w'.cell? ⟨b,7,none⟩=some (.int .i64 c.low)∧w'.cell? ⟨b,8,none⟩=some (.slice (some ⟨x.g,0,none⟩) c.shapes.length x.cap):=
 ⟨h.c 0 rfl,h.c 1 rfl,h.c 2 rfl,h.c 3 rfl,h.c 4 rfl,h.c 5 rfl,h.c 6 rfl,h.c 7 rfl,h.c 8 rfl⟩
theorem jG (h:aA (GrB b c x g) S w w') (hd:d<g.len) (e:x.lv=.slice (some ⟨lg,0,none⟩) g.len cap):w'.cell? ⟨lg,d*3,none⟩=some (.int .i64 0)∧w'.cell? ⟨lg,d*3+2,none⟩=some (.slice (some ⟨x.wb d,0,none⟩) 3 (x.wc d)):=by
 obtain ⟨lg2,cap2,e2,c1,c2⟩:=iQ h hd
 rw [e] at e2;cases e2
 exact ⟨c1,c2⟩
def cfrAt (c:Cf) (g cap:Nat) (v:Value) (l:List Bool) (S:Nat→Prop) (w:World):Prop:=(aZ c g cap).at_ S w∧(dS v l).at_ S w
def CfR (c:Cf) (g cap:Nat) (v:Value) (l:List Bool):aC where
 at_:=cfrAt c g cap v l
 lt:=fun h=>(aZ c g cap).lt h.1
 kept:=fun h hk hs=>⟨(aZ c g cap).kept h.1 hk hs,(dS v l).kept h.2 hk hs⟩
theorem sr_shapeR (hc:c.ok) (hs:c.shapes[0]? = some (false,l)) (w:World):
 aN prog 83 #[cfV c cg cap,.int .i64 0] w (aZ c cg cap) (fun (v:Option Addr×Nat) e=>e=.returned (.tuple #[.agg #[.bool false,.slice v.1 l.length v.2],.bool true])) (fun v=>CfR c cg cap (.slice v.1 l.length v.2) l):=fun S h=>
 (sr_shape hc h hs).mono fun e w2 ⟨y,k,he,hb,hr⟩=>⟨(y,k),he,⟨S,⟨(aZ c cg cap).kept h (fun k hk=>hb.block k ((aZ c cg cap).lt h k hk)) hb.size,hr,fun k hk=>Nat.lt_of_lt_of_le ((aZ c cg cap).lt h k hk) hb.size⟩,fun _ hk=>.inl hk⟩,(aA.later h hb).2⟩
def GrR (c:Cf) (x:GrX) (g:Sw.Gr):aC:=Sep (Sep (cQ 177 3 x.lv g.len (fI x g.len)) (All g.len fun d=>Vgs (x.wb d) 3 25 (jM (g.f d))))
 (Sep (Sep (bV x.tb 2 4 (thM g.th)) (bV x.lb 2 59 (lsM c x g.th))) (Sep (Vgs x.gb 2 25 (jM g.g)) (All 2 (LsT c x g))))
def GrS (b:Nat) (c:Cf) (x:GrX) (g:Sw.Gr) (v:Value) (l:List Bool):aC:=Sep (Var b (grC c x) 73) (Sep (CfR c x.g x.cap v l) (GrR c x g))
theorem grs_b (h:(GrS b c x g v l).at_ S w):(GrB b c x g).at_ S w:=aB.monoR (fun _ h=>aB.monoL (A:=CfR c x.g x.cap v l) (C:=aZ c x.g x.cap) (fun _ h=>And.left h) h) h
theorem aA.gb (h:aA (GrS b c x g v l) S w w'):aA (GrB b c x g) S w w':=h.conv fun _ _ h=>grs_b h
theorem aA.gref (h:aA (GrS b c x g (.slice y n k) l) S w w') (hj:l[j]? = some z):∃ r,y=some ⟨r,0,none⟩∧w'.cell? ⟨r,j,none⟩=some (.bool z):=
 (h.r.l.conv fun S w h=>(And.right h:(dS (.slice y n k) l).at_ S w)).refs rfl hj
theorem gr_shapeD (hc:c.ok) (hs:c.shapes[0]? = some (false,l)) (w:World):
 aN prog 83 #[cfV c x.g x.cap,.int .i64 0] w (GrB b c x g) (fun (v:Option Addr×Nat) e=>e=.returned (.tuple #[.agg #[.bool false,.slice v.1 l.length v.2],.bool true])) (fun v=>GrS b c x g (.slice v.1 l.length v.2) l):=(sr_shapeR hc hs w).l.r
theorem gr_shape (hc:c.ok) (hd:d<g.len) (hs:c.shapes[0]? = some (false,l)) (w:World):
 aN prog 92 #[.pointer (some ⟨b,0,none⟩),.int .i64 (d:Int)] w (GrB b c x g) (fun (v:Option Addr×Nat) e=>e=.returned (.agg #[.bool false,.slice v.1 l.length v.2])) (fun v=>GrS b c x g (.slice v.1 l.length v.2) l):=by
 intro S h
 have g0:=(aA.begin h).moreSt (St.fresh #[.bool false,.slice none 0 0] 55)
 obtain ⟨rb,hrb⟩:∃ k,w.heap.size=k:=⟨_,rfl⟩
 rw [hrb] at g0
 obtain ⟨lg,lc,hlv,_⟩:=iQ g0.l hd
 have HCC:=zz fun w1 (gg:aA (GrB b c x g) S w w1)=>And.intro (by rw [←hlv];exact gg.c 9 rfl:w1.cell? ⟨b,9,none⟩=some (.slice (some ⟨lg,0,none⟩) g.len lc)) (And.intro (jG gg hd hlv).1 (gr_conf9 gg))
 have HSH:=zz fun w1 Y (gg:aA (Sep (GrB b c x g) Y) S w w1)=>(gr_shapeD (l:=l) hc hs w1).l.on gg
 have g1:=g0.drew_
 have h0:(0:Int)≤(d:Int):=by omega
 have h1:(d:Int)<(g.len:Int):=by omega
 unfold cfV at HSH
 clear h g0 hc hs hd
 go_enter func92,ntmps92
 go_upto_region 1 with fail
 generalize w.alloc _=w1 at*
 refine wp_region_held_drew (S:=fun w'=>aA (GrB b c x g) S w w') (by kernel_rfl) g1.l (fun hHeld=>?_)
 clear hHeld
 generalize w1.drew=w2 at*
 have hHeld:=g1.l
 refine tkh 0 HCC.out ?_
 refine tkh 1 HCC.out ?_
 refine tkh 2 HCC.out ?_
 refine tkh 3 HCC.out ?_
 refine tkh 4 HCC.out ?_
 refine tkh 5 HCC.out ?_
 refine tkh 6 HCC.out ?_
 refine tkh 7 HCC.out ?_
 refine tkh 8 HCC.out ?_
 refine tkh 9 HCC.out ?_
 refine tkh 10 HCC.out ?_
 refine tkh 11 HCC.out ?_
 refine wpAnyH_ready (rs:=[12,16]) (by kernel_rfl) (by simp) ?_
 refine AllReadyH.cons (o:=_) rfl ?cA (AllReadyH.cons (o:=_) rfl ?cB AllReadyH.nil)
 case' cA=>
  intro K hK
  go_simp
  refine (HSH.out _ _ g1).mono ?_
  rintro e w3 ⟨y,rfl,gA⟩
  go_wp2_with fail
  refine hon hK gA.l.gb fun hHeld=>?_
  clear hK K
  refine tk 13 ?_
  refine tk 14 ?_
  refine tk 15 ?_
  refine rdy 16 fun K hK=>?_
  go_simp
  have gB:=gA.moreSt (St.fresh #[.bool false,.slice none 0 0] 55)
  go_wp2_with fail
  refine hon hK gB.l.l.gb fun hHeld=>?_
  clear hK K
  generalize w3.heap.size=ab at*
  generalize w3.alloc _=w4 at*
 case' cB=>
  intro K hK
  go_simp
  have gA:=g1.moreSt (St.fresh #[.bool false,.slice none 0 0] 55)
  go_wp2_with fail
  refine hon hK gA.l.l fun hHeld=>?_
  clear hK K
  generalize w2.heap.size=ab at*
  generalize w2.alloc _=w3 at*
  refine rdy 12 fun K hK=>?_
  go_simp
  refine (HSH.out _ _ gA.assoc).mono ?_
  rintro e w4 ⟨y,rfl,gA2⟩
  have gB:=gA2.assoc'
  go_wp2_with fail
  refine hon hK gB.l.l.gb fun hHeld=>?_
  clear hK K
  refine tk 13 ?_
  refine tk 14 ?_
  refine tk 15 ?_
 all_goals (
  clear HSH
  have a0:=gB.r.vb 0 false
  have a1:=gB.r.vC 1 (.slice none 0 0)
  have b0:=gB.r.vf 0
  have b1:=gB.r.vf 1
  have gC:=gB.then (aH (fun S h=>((aA.begin h).vput 0 (.bool false) (cs':=#[.bool false,.slice none 0 0]) rfl).vput 1 (.slice y.1 l.length y.2) (cs':=#[.bool false,.slice y.1 l.length y.2]) rfl))
  refine rdy 17 fun K hK=>?_
  go_simp
  go_wp2_with fail
  refine hon hK gC.l.l.gb fun hHeld=>?_
  clear hK K
  refine tk 18 ?_
  refine wpAnyH_done (by kernel_rfl) ?_ _
  have k0:=gC.r.vb 0 false
  have k1:=gC.r.vC 1 (.slice y.1 l.length y.2)
  have r0:=gC.l.r.vb 0 false
  have r1:=gC.l.r.vC 1 (.slice none 0 0)
  have q0:=gC.l.r.vf 0
  have q1:=gC.l.r.vf 1
  have gD:=gC.then (aG (aH (fun S h=>((aA.begin h).vput 0 (.bool false) (cs':=#[.bool false,.slice none 0 0]) rfl).vput 1 (.slice y.1 l.length y.2) (cs':=#[.bool false,.slice y.1 l.length y.2]) rfl)))
  have d0:=gD.l.r.vb 0 false
  have d1:=gD.l.r.vC 1 (.slice y.1 l.length y.2)
  have HF:=zz gD.l.l
  clear gA gB gC gD hHeld HCC a0 a1 b0 b1
  go_wp2_with fail
  (try rw [aI])
  exact bodyPost_ret (v:=.agg #[.bool false,.slice y.1 l.length y.2]) (by simp [results,results92,go_sem,d0,d1]) rfl ⟨y,rfl,HF.out⟩)
end
section
theorem gr_place (hc:c.ok) (hd:d<g.len) (hk:k<3) (hs:c.shapes[0]? = some (false,l)) (w:World):
 aJ prog 89 #[.pointer (some ⟨b,0,none⟩),.int .i64 (d:Int),.int .i64 (k:Int),.bool false] w (GrB b c x g) (.int .i64 0) (GrB b c x g):=by
 intro S h
 obtain ⟨lg,lc,hlv,_⟩:=iQ (aA.begin h) hd
 have HS:=zz (gr_shape (b:=b) (x:=x) (g:=g) hc hd hs w S h)
 have HLV:=zz hlv
 have HD:=zz hd
 have h0:(0:Int)≤(d:Int):=by omega
 have h1:(d:Int)<(g.len:Int):=by omega
 have h2:¬(k:Int)<0:=by omega
 have h3:¬(3:Int)≤(k:Int):=by omega
 clear h hc hs hd hlv hk
 go_enter func89,ntmps89
 go_wp2_with fail
 with_reducible refine HS.out.mono ?_
 rintro e w2 ⟨y,rfl,hg⟩
 clear HS
 have g2:=hg.gb.moreSt (St.fresh #[.bool false,.slice y.1 l.length y.2] 55)
 have k0:=g2.r.vb 0 false
 have k1:=g2.r.vC 1 (.slice y.1 l.length y.2)
 have c9:=g2.l.cC 9 x.lv
 have cw:=(jG g2.l HD.out HLV.out).2
 rw [HLV.out] at c9
 have HF:=zz g2.l
 clear hg g2
 go_wp2_with fail
 go_ret
 exact ⟨rfl,HF.out⟩
theorem gr_kind (hc:c.ok) (hd:d<g.len) (hz:l[k]? = some z) (hs:c.shapes[0]? = some (false,l)) (w:World):
 aJ prog 90 #[.pointer (some ⟨b,0,none⟩),.int .i64 (d:Int),.int .i64 (k:Int)] w (GrB b c x g) (.bool z) (GrB b c x g):=by
 intro S h
 have HS:=zz (gr_shape (b:=b) (x:=x) (g:=g) hc hd hs w S h)
 have HZ:=zz hz
 have hkl:k<l.length:=(List.getElem?_eq_some_iff.1 hz).1
 have h2:(0:Int)≤(k:Int):=by omega
 have h3:(k:Int)<(l.length:Int):=by omega
 clear h hc hs hd hz hkl
 go_enter func90,ntmps90
 go_wp2_with fail
 with_reducible refine HS.out.mono ?_
 rintro e w2 ⟨⟨y,yk⟩,rfl,hg⟩
 clear HS
 have g2:=hg.moreSt (St.fresh #[.bool false,.slice y l.length yk] 55)
 have k0:=g2.r.vb 0 false
 have k1:=g2.r.vC 1 (.slice y l.length yk)
 obtain ⟨r,rfl,cz⟩:=g2.l.gref HZ.out
 have HF:=zz g2.l.gb
 clear hg g2
 go_wp2_with fail
 go_ret
 exact ⟨rfl,HF.out⟩
end
theorem Tryz.info215:(prog.info? 215).map (fun i=>(i.zero,i.size,i.bytes))=some (some (.pointer none),1,8):=by kernel_rfl
theorem ptrs_push (f:Nat→Nat) (n b:Nat):ptrs (fun i=>if i=n then b else f i) (n+1)=ptrs f n++[.pointer (some ⟨b,0,none⟩)]:=by
 unfold ptrs
 rw [List.range_succ,List.map_append]
 congr 1
 · apply List.map_congr_left
   intro i hi
   have:=List.mem_range.1 hi
   show Value.pointer (some ⟨if i=n then b else f i,0,none⟩)=_
   rw [if_neg (by omega)]
 · simp
section
variable {B C D E F G H:aC}
theorem jN (h:(Sep A (Sep B C)).at_ S w):(Sep B (Sep A C)).at_ S w:=aB.assoc (aB.monoL (fun _ h=>aB.swap h) (aB.assoc' h))
theorem all_push {T:Nat→aC} (h:(Sep (All n fun i=>T (f i)) (T b)).at_ S w):(All (n+1) fun i=>T (if i=n then b else f i)).at_ S w:=by
 have e:All (n+1) (fun i=>T (if i=n then b else f i))=Sep (All n fun i=>T (f i)) (T b):=by
  simp only [All]
  rw [fH (T:=fun i=>T (if i=n then b else f i)) (T':=fun i=>T (f i)) fun k hk=>by rw [if_neg (by omega)]]
  simp
 rw [e];exact h
theorem eL (h:aA A S w w'):aA (Sep A (cQ e sz (.slice none 0 0) 0 [])) S w w':=h.more ⟨_,eW e sz w',fun k hk=>hk.elim⟩ (Below.refl _ _)
theorem space_order (h:(Sep (Sep (Sep (Sep (Sep (Sep (Sep (Sep O A) B) C) D) E) F) G) H).at_ S w):(Sep O (Sep A (Sep F (Sep D (Sep B (Sep C (Sep E (Sep G H)))))))).at_ S w:=by
 have h1:(Sep O (Sep A (Sep B (Sep C (Sep D (Sep E (Sep F (Sep G H)))))))).at_ S w:=aB.assoc (aB.assoc (aB.assoc (aB.assoc (aB.assoc (aB.assoc (aB.assoc h))))))
 refine aB.monoR (fun _ h=>aB.monoR (fun _ h=>?_) h) h1
 have h2:=aB.monoR (fun _ h=>aB.monoR (fun _ h=>aB.monoR (fun _ h=>jN h) h) h) h
 have h3:=aB.monoR (fun _ h=>aB.monoR (fun _ h=>jN h) h) h2
 have h4:=aB.monoR (fun _ h=>jN h) h3
 have h5:=jN h4
 exact aB.monoR (fun _ h=>jN (aB.monoR (fun _ h=>jN h) h)) h5
end
section
variable {g bt:Nat}
def SpN (O:aC) (c:Cf) (g cap cb bt p pg k g' cap' wl b:Nat) (sv:Value) (j:Nat) (f:Nat→Nat):aC:=
 Sep (Sep (Sep (Sep (Sep (Sep (Sep (Sep O (Var cb (aD c (.slice (some ⟨g,0,none⟩) c.shapes.length cap)) 34)) (dP p pg c.frags full)) (fZ k (c.spine:Int) cNew)) (aZ c g' cap')) (Lne wl none 0)) (Var b (dG c bt ⟨g',cap',p,pg,k,wl,sv,f,false,0⟩) 198)) (cQ 215 1 sv j (ptrs f j))) (All j fun i=>Stk (f i))
theorem lno_new (h:(Lne wl none 0).at_ S w):(LnQ wl none).at_ S w:=
 ⟨(none,0),S,fun _=>False,h,eW _ _ w,fun _ _ h=>h,fun _ h=>h,fun _ h=>h.elim,fun _ h=>.inl h⟩
def m0 (c:Cf) (k:Nat):Sw.Wd:=if c.gw 0≤k then Sw.wN else Sw.w0
def q0 (c:Cf):Sw.Q:=⟨m0 c,fM,[],false,full,none,0,false,gone⟩
theorem spn_done {p pg g' cap' cb:Nat} (hn:c.threads≠0) (h:aA (SpN O c g cap cb bt p pg k g' cap' wl b sv c.threads f) S w w'):aA (Sep O (SpQ b bt c (q0 c))) S w w':=by
 have h1:=(h.conv fun _ _ h=>space_order h).drop (aU.both (aU.refl O) (aU.right _ _))
 refine h1.conv fun S w h=>aB.monoR (fun S h=>⟨⟨g',cap',p,pg,k,wl,sv,f,false,0⟩,?_⟩) h
 exact aB.monoR (fun S h=>aB.monoR (fun S h=>aB.monoR (fun S h=>aB.monoR (fun S h=>aB.monoL (fun S h=>lno_new h) (aB.monoR (fun S h=>aB.monoL (fun S h=>cX h hn) h) h)) h) h) h) h
theorem space_new (hc:c.ok) (hcf:∀ S w,O.at_ S w→∃ S',(aZ c g cap).at_ S' w) (htl:∀ S w,O.at_ S w→Calls prog 116 #[.pointer (some ⟨bt,0,none⟩)] w fun e w'=>e=.returned (.int .i64 (c.frags:Int))∧w=w') (h:O.at_ S w):
 Calls prog 58 #[cfV c g cap,.pointer (some ⟨bt,0,none⟩)] w fun e w'=>∃ b,e=.returned (.tuple #[.pointer (some ⟨b,0,none⟩),.int .i64 0])∧aA (Sep O (SpQ b bt c (q0 c))) S w w':=by
 obtain ⟨i0,hi,hz0,hz1,hz2⟩:=info_parts Tryz.info215
 have g0:=(aA.begin h).moreSt (St.fresh (aD c (.slice (some ⟨g,0,none⟩) c.shapes.length cap)) 34)
 obtain ⟨cb,hcb⟩:∃ k,w.heap.size=k:=⟨_,rfl⟩
 rw [hcb] at g0
 have cf9:∀ (O':aC) (w1:World),aA (Sep O' (Var cb (aD c (.slice (some ⟨g,0,none⟩) c.shapes.length cap)) 34)) S w w1→w1.cell? ⟨cb,0,none⟩=some (.int .i64 c.frags)∧w1.cell? ⟨cb,1,none⟩=some (.int .i64 c.spine)∧w1.cell? ⟨cb,2,none⟩=some (.int .i64 c.globals)∧w1.cell? ⟨cb,3,none⟩=some (.int .i64 c.threads)∧
  w1.cell? ⟨cb,4,none⟩=some (.int .i64 c.locals)∧w1.cell? ⟨cb,5,none⟩=some (.int .i64 0)∧w1.cell? ⟨cb,6,none⟩=some (.int .i64 c.stack)∧w1.cell? ⟨cb,7,none⟩=some (.int .i64 c.low)∧w1.cell? ⟨cb,8,none⟩=some (.slice (some ⟨g,0,none⟩) c.shapes.length cap):=fun _ _ h=>⟨h.r.vc 0 rfl,h.r.vc 1 rfl,h.r.vc 2 rfl,h.r.vc 3 rfl,h.r.vc 4 rfl,h.r.vc 5 rfl,h.r.vc 6 rfl,h.r.vc 7 rfl,h.r.vc 8 rfl⟩
 have C9:=zz cf9
 have HCK:=zz fun w1 (gg:aA (Sep O (Var cb (aD c (.slice (some ⟨g,0,none⟩) c.shapes.length cap)) 34)) S w w1)=>gg.plain (bY hc (hcf _ _ gg.l.is).choose_spec)
 have HCP:=zz fun w1 X (gg:aA (Sep O X) S w w1)=>fG hc (hcf _ _ gg.l.is).choose_spec
 have HTL:=zz fun w1 X (gg:aA (Sep O X) S w w1)=>htl _ _ gg.l.is
 have HP:=zz fun w=>pool_new c.frags w hc.frags.2
 have HK:=zz fun w=>coil_new (c.spine:Int) w (by omega) (by have:=hc.spine;omega)
 have hth:=hc.threads
 unfold cfV at*
 simp only [aD] at*
 clear h hcf htl cf9 hc
 go_enter func58,ntmps58
 go_upto_region 1 with fail
 generalize w.alloc _=w1 at*
 obtain ⟨c0,c1,c2,c3,c4,c5,c6,c7,c8⟩:=C9.out _ _ g0
 have HCA:=zz (HCK.out _ g0)
 clear HCK g0
 go_wp2_with fail
 refine qz HCA.out fun w2 hg=>?_
 clear HCA c0 c1 c2 c3 c4 c5 c6 c7 c8
 go_wp2_with fail
 have g2:=hg.drew_
 clear hg
 refine wp_region_held_drew (S:=fun w'=>w'.cell? ⟨cb,0,none⟩=some (.int .i64 c.frags)) (by kernel_rfl) (g2.r.vi 0 c.frags) (fun hHeld=>?_)
 generalize w2.drew=wd at*
 refine tk 0 ?_
 refine tk 2 ?_
 refine tk 3 ?_
 refine rdy 1 fun K hK=>?_
 go_simp
 refine qq (HTL.out _ _ g2) ?_
 go_wp2_with fail
 refine hon hK (g2.r.vi 0 c.frags) fun hHeld=>?_
 clear hK K
 refine tk 4 ?_
 refine wpAnyH_done (by kernel_rfl) ?_ _
 clear hHeld HTL
 have c0:=g2.r.vi 0 c.frags
 go_wp2_with fail
 with_reducible refine (HP.out _).mono ?_
 rintro e w3 ⟨p,pg,rfl,hs⟩
 have g3:=g2.moreSt hs
 clear HP hs g2 c0
 have c1:=g3.l.r.vi 1 c.spine
 go_wp2_with fail
 with_reducible refine (HK.out _).mono ?_
 rintro e w4 ⟨k,rfl,hs⟩
 have g4:=g3.moreSt hs
 clear HK hs g3 c1
 obtain ⟨c0,c1,c2,c3,c4,c5,c6,c7,c8⟩:=C9.out _ _ g4.l.l
 have g4b:=g4.conv fun _ _ h=>aB.assoc (aB.assoc h)
 have HCA:=zz (HCP.out _ _ g4b)
 clear HCP g4b
 go_wp2_with fail
 with_reducible refine HCA.out.mono ?_
 rintro e w5 ⟨g',cap',rfl,hs⟩
 have g5:=g4.moreSt hs
 clear HCA hs g4 c0 c1 c2 c3 c4 c5 c6 c7 c8
 unfold cfV
 go_wp2_with fail
 with_reducible refine (line_new _).mono ?_
 rintro e w6 ⟨wl,rfl,hs⟩
 have g6:=(g5.moreSt hs).moreSt (St.fresh (dG c bt ⟨g',cap',p,pg,k,wl,.slice none 0 0,fun _=>0,false,0⟩) 198)
 clear hs g5
 have g7:aA (SpN O c g cap cb bt p pg k g' cap' wl w6.heap.size (.slice none 0 0) 0 (fun _=>0)) S w _:=(eL g6).conv fun _ _ h=>gK h
 have HG:=zz g7
 simp only [dG] at HG
 clear g6 g7
 go_upto_region 13 with fail
 generalize w6.heap.size=b at*
 generalize w6.alloc _=w7 at*
 have c3:=HG.out.l.l.l.l.l.l.l.r.vi 3 c.threads
 go_wp2_with fail
 clear c3
 go_loopw [11,12,52] (fun _ _ i wr=>∃ (j:Nat) (sv:Value) (f:Nat→Nat),j≤c.threads∧i=.int .i64 j∧aA (SpN O c g cap cb bt p pg k g' cap' wl b sv j f) S w wr) (fun _ _ i _=>c.threads-(intOf i).toNat)
 case atStart=>exact ⟨0,_,_,Nat.zero_le _,rfl,HG.out⟩
 case round=>
  clear HG
  obtain ⟨j,sv,f,hj,rfl,hg⟩:=hrel
  by_cases hlt:j<c.threads
  · have c5:=hg.l.l.l.l.l.l.l.r.vi 5 0
    have HG:=zz hg
    have HJ:=zz (show j≤16 by omega)
    clear hg hj
    go_wp2_with fail
    with_reducible refine (stock_new _).mono ?_
    rintro e w8 ⟨b',rfl,hs⟩
    have g1:=HG.out.moreSt hs
    have c1:=g1.l.l.l.r.vC 1 sv
    have hrow:=g1.l.l.r.is.1
    have H1:=zz g1
    have HR:=zz hrow
    clear HG hs g1 hrow c5
    obtain ⟨sa,scap,hsv,_,_⟩:=bK HR.out
    have HSV:=zz hsv
    rw [hsv] at c1
    go_wp2_with (at_builtin;refine bI rfl _ _ 192 rfl 215 i0 (.pointer none) 1 8 underlying192 hi hz0 hz1 hz2 rfl (by decide) _ _ _ rfl ((hsv▸HR.out).alloc _) ⟨w8.heap.size,0,none⟩ 1 1 [.pointer (some ⟨b',0,none⟩)] rfl rfl ?c1 ?c2 ?c3 (by decide) ?_)
    case c1=>
     intro j u hj
     rw [bU,(Blk.new w8 #[.pointer (some ⟨b',0,none⟩)] 215).cell,Nat.zero_add]
     simpa using hj
    case c2=>intro u hu;simp at hu;subst hu;rfl
    case c3=>have:=HJ.out;omega
    intro v' w9 ho hgr hbk
    obtain ⟨na,ncap,rfl,_,_⟩:=bK ho
    have g2:=H1.out.then (aG (aG (aH (fun S h=>bS h ((Below.refl w8.heap.size w8).alloc (Nat.le_refl _) (.cells #[.pointer (some ⟨b',0,none⟩)] 215)) ho (by rw [HSV.out];exact hgr) (by rw [HSV.out];simpa using hbk)))))
    have g3:=g2.then (aG (aG (aG (aH (fun S h=>(aA.begin h).vput 1 (.slice na (j+1) ncap) (cs':=dG c bt ⟨g',cap',p,pg,k,wl,.slice na (j+1) ncap,fun _=>0,false,0⟩) rfl)))))
    have c1:=g2.l.l.l.r.vC 1 sv
    rw [HSV.out] at c1
    have f1:=g2.l.l.l.r.vf 1
    have H3:=zz g3
    clear H1 HR ho hgr hbk g2 g3
    go_wp2_with fail
    go_round
    case rel=>
     refine ⟨j+1,.slice na (j+1) ncap,fun i=>if i=j then b' else f i,by omega,by go_num,?_⟩
     refine H3.out.conv fun S w h=>?_
     have h1:=aB.assoc h
     refine aB.monoR (fun _ h=>all_push h) (aB.monoL (fun _ h=>aB.monoR (fun _ h=>?_) h) h1)
     rw [ptrs_push];exact h
    case measure=>simp [intOf];omega
  · obtain rfl:j=c.threads:=by omega
    have HF:=zz (spn_done (by omega) hg)
    clear hg
    go_wp2_with fail
    go_ret2
    exact ⟨_,rfl,HF.out⟩
end
end Go.Proofs.YtgcmiahhkalfmaaGreat
