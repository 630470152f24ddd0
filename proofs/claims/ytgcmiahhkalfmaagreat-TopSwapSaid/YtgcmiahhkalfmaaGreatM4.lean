import Derived.Test.YtgcmiahhkalfmaaGreatM3
import Derived.Laws.Externs
set_option maxRecDepth 100000
set_option maxHeartbeats 8000000
set_option linter.unusedVariables false
set_option linter.unusedSimpArgs false
namespace Go.Proofs.YtgcmiahhkalfmaaGreat
open Go.Proofs.Tryz
open Go.RowKit
variable {a:Addr} {cs:Array Value} {s:Bool×List Bool} {c:Cf} {ct:Int} {b cap g i j n q:Nat} {p:Nat→Bool} {S:Nat→Prop} {m:Nat→Value} {P:Program} {X:aC} {t:TypeId} {v:Value} {w w':World}
section
def ShapeTold (s:Bool×List Bool) (w:World) (e:Ending) (w':World):Prop:=
 ∃ v',e=.returned (.tuple #[.agg #[.bool s.1,v'],.bool true])∧Below w.heap.size w w'∧∃ S',cL v' s.2 S' w'∧∀ k,S' k→w.heap.size≤k∧k<w'.heap.size
theorem dM (hc:c.ok) (h:(aZ c g cap).at_ S w) (hs:c.shapes[i]? = some s):
 Calls prog 100 #[cfV c g cap,.int .i64 (i:Int)] w (ShapeTold s w):=by
 have hi:i<c.shapes.length:=(List.getElem?_eq_some_iff.1 hs).1
 have hl:=hc.shapes.2
 have hb0:Below w.heap.size w ((w.alloc (.cells (aD c (.slice (some ⟨g,0,none⟩) c.shapes.length cap)) 34)).alloc (.cells #[.bool false,.slice none 0 0] 55)):=((Below.refl w.heap.size w).alloc (Nat.le_refl _) _).alloc (by simp) _
 have C0:Blk ((w.alloc (.cells (aD c (.slice (some ⟨g,0,none⟩) c.shapes.length cap)) 34)).alloc (.cells #[.bool false,.slice none 0 0] 55)) w.heap.size (aD c (.slice (some ⟨g,0,none⟩) c.shapes.length cap)) 34:=(Blk.new w _ _).alloc _
 have D0:Blk ((w.alloc (.cells (aD c (.slice (some ⟨g,0,none⟩) c.shapes.length cap)) 34)).alloc (.cells #[.bool false,.slice none 0 0] 55)) (w.heap.size+1) #[.bool false,.slice none 0 0] 55:=by have:=Blk.new (w.alloc (.cells (aD c (.slice (some ⟨g,0,none⟩) c.shapes.length cap)) 34)) #[.bool false,.slice none 0 0] 55;rw [World.size_alloc] at this;exact this
 have h1:=keep h hb0
 obtain ⟨u,c1,c2,hr⟩:=fL h1 hs
 obtain ⟨x,k,rfl⟩:=hr.slice
 have hS:=(aZ c g cap).lt h1
 have HC:=zz (conf_copied (a:=s.1) hr hS (by have:=(hc.shape s (List.mem_of_getElem? hs)).1;omega))
 have HB0:=zz hb0
 have HD0:=zz D0
 have HHS:=zz hs
 have c8:=C0.cell 8
 unfold cfV
 simp only [aD] at*
 clear h hc hb0 C0 D0 hs hr hS h1
 generalize c.shapes.length=nsh at*
 obtain ⟨sa,sl⟩:=s
 simp only at*
 generalize hsl:sl.length=m at*
 have HSL:=zz hsl
 clear hsl
 go_enter func100,ntmps100
 go_upto_region 1 with fail
 generalize (w.alloc _).alloc _=W1 at*
 go_wp2_with fail
 with_reducible refine HC.out.mono ?_
 rintro e w9 ⟨v9,rfl,hb9,S9,hr9,hs9⟩
 obtain ⟨x9,k9,rfl⟩:=hr9.slice
 have D9:=aK HD0.out hb9
 have d0:=D9.cell 0
 have d1:=D9.cell 1
 have f0:=D9.free 0
 have f1:=D9.free 1
 simp at d0 d1
 have F9:=Blk.fill D9 [.bool sa,.slice x9 sl.length k9] rfl
 have hlt9:=HD0.out.lt
 have hn9:∀ j,S9 j→j≠w.heap.size+1:=fun j hj=>by have:=(hs9 j hj).1;omega
 have B9:Below w.heap.size w (setCells w9 (w.heap.size+1) 0 [.bool sa,.slice x9 sl.length k9]):=bX (by omega) _ _ _ (HB0.out.trans (hb9.mono HB0.out.size))
 have R9:cL (.slice x9 sl.length k9) sl S9 (setCells w9 (w.heap.size+1) 0 [.bool sa,.slice x9 sl.length k9]):=hr9.kept fun j hj=>gZ (hn9 j hj) _ _ _
 have L9:∀ j,S9 j→w.heap.size≤j∧j<(setCells w9 (w.heap.size+1) 0 [.bool sa,.slice x9 sl.length k9]).heap.size:=fun j hj=>⟨by have:=(hs9 j hj).1;omega,by rw [setCells_size];exact (hs9 j hj).2⟩
 have HB:=zz B9
 have HR:=zz R9
 have HL:=zz L9
 have e0:=F9.cell 0
 have e1:=F9.cell 1
 simp only [setCells] at*
 simp at e0 e1
 clear D9 F9 B9 R9 L9 hr9 hs9 hb9 HC HB0 HD0 hlt9 hn9 c1 c2 c8
 go_wp2_with fail
 exact bodyPost_ret (v:=.tuple #[.agg #[.bool sa,.slice x9 sl.length k9],.bool true]) (by simp [results,results100,go_sem,e0,e1]) rfl ⟨_,rfl,HB.out,S9,HR.out,HL.out⟩
theorem gW (x:Option Addr) (n cap:Nat) (w:World) (hn:n≤6):Calls prog 174 #[.agg #[.bool false,.slice x n cap],.int .i64 0] w fun e w'=>e=.returned (.int .i64 1)∧Below w.heap.size w w':=by
 have hb0:Below w.heap.size w (w.alloc (.cells #[.bool false,.slice x n cap] 55)):=(Below.refl w.heap.size w).alloc (Nat.le_refl _) _
 have HB:=zz hb0
 have HM:=zz (fun w=>jE false x n cap w (by omega) (by simp))
 have C0:=zz (Blk.new w #[.bool false,.slice x n cap] 55)
 clear hb0
 go_enter func174,ntmps174
 go_wp2_with fail
 refine qz (HM.out _) fun w1 hb=>?_
 have C1:=aK C0.out hb
 have c0:=C1.cell 0
 simp at c0
 have HB1:=zz (HB.out.trans (hb.mono HB.out.size))
 clear C1 C0 HB hb HM
 go_wp2_with fail
 go_ret
 exact ⟨rfl,HB1.out⟩
theorem shape_spine (x:Option Addr) (n cap:Nat) (k:Int) (w:World) (hn:n≤6):Calls prog 270 #[.agg #[.bool false,.slice x n cap],.int .i64 k] w fun e w'=>e=.returned (.int .i64 0)∧Below w.heap.size w w':=by
 have hb0:Below w.heap.size w (w.alloc (.cells #[.bool false,.slice x n cap] 55)):=(Below.refl w.heap.size w).alloc (Nat.le_refl _) _
 have HB:=zz hb0
 have HM:=zz (fun w=>jE false x n cap w (by omega) (by simp))
 have C0:=zz (Blk.new w #[.bool false,.slice x n cap] 55)
 clear hb0
 go_enter func270,ntmps270
 go_wp2_with fail
 refine qz (HM.out _) fun w1 hb=>?_
 have C1:=aK C0.out hb
 have c0:=C1.cell 0
 simp at c0
 have HB1:=zz (HB.out.trans (hb.mono HB.out.size))
 clear C1 C0 HB hb HM
 go_wp2_with fail
 go_ret
 exact ⟨rfl,HB1.out⟩
theorem fR (x:Option Addr) (n cap k:Nat) (w:World) (hn:n≤6) (hk:k<n):Calls prog 175 #[.agg #[.bool false,.slice x n cap],.int .i64 (k:Int)] w fun e w'=>e=.returned (.tuple #[.int .i64 0,.int .i64 (2+(k:Int)),.bool true])∧Below w.heap.size w w':=by
 have hb0:Below w.heap.size w (w.alloc (.cells #[.bool false,.slice x n cap] 55)):=(Below.refl w.heap.size w).alloc (Nat.le_refl _) _
 have HB:=zz hb0
 have HM:=zz (fun w=>jE false x n cap w (by omega) (by simp))
 have C0:=zz (Blk.new w #[.bool false,.slice x n cap] 55)
 have hd:decide (n≤k)=false:=by simp;omega
 clear hb0
 go_enter func175,ntmps175
 go_wp2_with fail
 refine qz (HM.out _) fun w1 hb=>?_
 have C1:=aK C0.out hb
 have c0:=C1.cell 0
 have c1:=C1.cell 1
 simp at c0 c1
 have HB1:=zz (HB.out.trans (hb.mono HB.out.size))
 clear C1 C0 HB hb HM
 go_wp2_with fail
 go_ret3
 exact ⟨rfl,HB1.out⟩
end
section
theorem cf9 (h:Blk w b (aD c v) 34):
 w.cell? ⟨b,0,none⟩=some (.int .i64 c.frags)∧w.cell? ⟨b,1,none⟩=some (.int .i64 c.spine)∧w.cell? ⟨b,2,none⟩=some (.int .i64 c.globals)∧w.cell? ⟨b,3,none⟩=some (.int .i64 c.threads)∧
 w.cell? ⟨b,4,none⟩=some (.int .i64 c.locals)∧w.cell? ⟨b,5,none⟩=some (.int .i64 0)∧w.cell? ⟨b,6,none⟩=some (.int .i64 c.stack)∧w.cell? ⟨b,7,none⟩=some (.int .i64 c.low)∧w.cell? ⟨b,8,none⟩=some v:=
 ⟨h.cell 0,h.cell 1,h.cell 2,h.cell 3,h.cell 4,h.cell 5,h.cell 6,h.cell 7,h.cell 8⟩
def szV (c:Cf):Value:=.agg #[.int .i64 ((c.frags:Int)*8),.int .i64 c.spine,.int .i64 c.spine,.int .i64 c.globals]
theorem kH (hc:c.ok) (h:(aZ c g cap).at_ S w):Calls prog 108 #[cfV c g cap] w fun e w'=>e=.returned (szV c)∧Below w.heap.size w w':=by
 have hb0:Below w.heap.size w ((w.alloc (.cells (aD c (.slice (some ⟨g,0,none⟩) c.shapes.length cap)) 34)).alloc (.cells #[.int .i64 0,.int .i64 0,.int .i64 0,.int .i64 0] 199)):=((Below.refl w.heap.size w).alloc (Nat.le_refl _) _).alloc (by simp) _
 have C0:Blk ((w.alloc (.cells (aD c (.slice (some ⟨g,0,none⟩) c.shapes.length cap)) 34)).alloc (.cells #[.int .i64 0,.int .i64 0,.int .i64 0,.int .i64 0] 199)) w.heap.size (aD c (.slice (some ⟨g,0,none⟩) c.shapes.length cap)) 34:=(Blk.new w _ _).alloc _
 have D0:Blk ((w.alloc (.cells (aD c (.slice (some ⟨g,0,none⟩) c.shapes.length cap)) 34)).alloc (.cells #[.int .i64 0,.int .i64 0,.int .i64 0,.int .i64 0] 199)) (w.heap.size+1) #[.int .i64 0,.int .i64 0,.int .i64 0,.int .i64 0] 199:=by have:=Blk.new (w.alloc (.cells (aD c (.slice (some ⟨g,0,none⟩) c.shapes.length cap)) 34)) #[.int .i64 0,.int .i64 0,.int .i64 0,.int .i64 0] 199;rw [World.size_alloc] at this;exact this
 have HB0:=zz hb0
 have HC0:=zz C0
 have HD0:=zz D0
 have HK:=zz (bY hc (keep h hb0))
 have a1:=hc.frags
 unfold cfV at*
 unfold szV
 simp only [aD] at*
 clear h hc hb0 D0
 go_enter func108,ntmps108
 go_upto_region 1 with fail
 generalize (w.alloc _).alloc _=W1 at*
 obtain ⟨c0,c1,c2,c3,c4,c5,c6,c7,c8⟩:=cf9 C0
 clear C0
 go_wp2_with fail
 refine qz (HK.out) fun w9 hb=>?_
 have D9:=aK HD0.out hb
 have B9:=HB0.out.trans (hb.mono HB0.out.size)
 have hB1:w.heap.size≤w.heap.size+1:=by omega
 have f0:=D9.free 0
 have f1:=D9.free 1
 have f2:=D9.free 2
 have f3:=D9.free 3
 have d0:=D9.cell 0
 have d1:=D9.cell 1
 have d2:=D9.cell 2
 have d3:=D9.cell 3
 simp at d0 d1 d2 d3
 obtain ⟨e0,e1,e2,e3,e4,e5,e6,e7,e8⟩:=cf9 (aK HC0.out hb)
 have F9:=Blk.fill D9 [.int .i64 ((c.frags:Int)*8),.int .i64 c.spine,.int .i64 c.spine,.int .i64 c.globals] rfl
 have B10:=zz (bX (a:=w) hB1 [.int .i64 ((c.frags:Int)*8),.int .i64 c.spine,.int .i64 c.spine,.int .i64 c.globals] w9 0 B9)
 have g0:=F9.cell 0
 have g1:=F9.cell 1
 have g2:=F9.cell 2
 have g3:=F9.cell 3
 simp only [setCells] at*
 simp at g0 g1 g2 g3
 clear c0 c1 c2 c3 c4 c5 c6 c7 c8 hb HK D9 B9 HB0 HC0 HD0 F9 hB1
 go_wp2_with fail
 exact bodyPost_ret (v:=.agg #[.int .i64 ((c.frags:Int)*8),.int .i64 c.spine,.int .i64 c.spine,.int .i64 c.globals]) (by simp [results,results108,go_sem,g0,g1,g2,g3]) rfl ⟨rfl,B10.out⟩
theorem area_at1 (k:Nat) (hc:c.ok) (h:(aZ c g cap).at_ S w) (hk:(k:Int)<(c.frags:Int)*8):Calls prog 121 #[cfV c g cap,.int .i64 1,.int .i64 (k:Int)] w fun e w'=>e=.returned (.tuple #[.int .i64 k,.int .i64 0])∧Below w.heap.size w w':=by
 have hb0:Below w.heap.size w (w.alloc (.cells (aD c (.slice (some ⟨g,0,none⟩) c.shapes.length cap)) 34)):=(Below.refl w.heap.size w).alloc (Nat.le_refl _) _
 have C0:Blk (w.alloc (.cells (aD c (.slice (some ⟨g,0,none⟩) c.shapes.length cap)) 34)) w.heap.size (aD c (.slice (some ⟨g,0,none⟩) c.shapes.length cap)) 34:=Blk.new w _ _
 have HB0:=zz hb0
 have HC0:=zz C0
 have HK:=zz (fun w' hb=>kH hc (keep (w':=w') h hb))
 have a1:=hc.frags
 have a2:=hc.spine
 have a3:=hc.globals
 unfold cfV szV at*
 simp only [aD] at*
 clear h hc hb0
 go_enter func121,ntmps121
 go_upto_region 1 with fail
 generalize w.alloc _=W1 at*
 obtain ⟨c0,c1,c2,c3,c4,c5,c6,c7,c8⟩:=cf9 C0
 clear C0
 go_wp2_with fail
 refine qz (HK.out _ HB0.out) fun w9 hb=>?_
 have B9:=zz (HB0.out.trans (hb.mono HB0.out.size))
 clear c0 c1 c2 c3 c4 c5 c6 c7 c8 hb HK HB0 HC0
 have D:=Blk.new w9 #[.int .i64 ((c.frags:Int)*8),.int .i64 c.spine,.int .i64 c.spine,.int .i64 c.globals] 199
 have B10:=zz (B9.out.alloc B9.out.size (.cells #[.int .i64 ((c.frags:Int)*8),.int .i64 c.spine,.int .i64 c.spine,.int .i64 c.globals] 199))
 go_upto_region 2 with fail
 have d0:=D.cell 0
 generalize World.alloc _ _=w10 at*
 simp at d0
 clear D
 go_wp2_with fail
 go_loop [2,10,27] (fun u _ i=>u=.int .i64 k∧i=.int .i64 0) (fun _ _ i=>4-(intOf i).toNat)
 case atStart=>exact ⟨rfl,rfl⟩
 case round=>
  obtain ⟨rfl,rfl⟩:=hrel
  go_wp2_with fail
  go_ret2
  exact ⟨rfl,B10.out⟩
theorem area_at4 (k:Nat) (hc:c.ok) (h:(aZ c g cap).at_ S w) (hk:(k:Int)<(c.globals:Int)):Calls prog 121 #[cfV c g cap,.int .i64 4,.int .i64 (k:Int)] w fun e w'=>e=.returned (.tuple #[.int .i64 ((k:Int)+(c.frags:Int)*8+c.spine+c.spine),.int .i64 0])∧Below w.heap.size w w':=by
 have hb0:Below w.heap.size w (w.alloc (.cells (aD c (.slice (some ⟨g,0,none⟩) c.shapes.length cap)) 34)):=(Below.refl w.heap.size w).alloc (Nat.le_refl _) _
 have C0:Blk (w.alloc (.cells (aD c (.slice (some ⟨g,0,none⟩) c.shapes.length cap)) 34)) w.heap.size (aD c (.slice (some ⟨g,0,none⟩) c.shapes.length cap)) 34:=Blk.new w _ _
 have HB0:=zz hb0
 have HC0:=zz C0
 have HK:=zz (fun w' hb=>kH hc (keep (w':=w') h hb))
 have a1:=hc.frags
 have a2:=hc.spine
 have a3:=hc.globals
 unfold cfV szV at*
 simp only [aD] at*
 clear h hc hb0
 go_enter func121,ntmps121
 go_upto_region 1 with fail
 generalize w.alloc _=W1 at*
 obtain ⟨c0,c1,c2,c3,c4,c5,c6,c7,c8⟩:=cf9 C0
 clear C0
 go_wp2_with fail
 refine qz (HK.out _ HB0.out) fun w9 hb=>?_
 have B9:=zz (HB0.out.trans (hb.mono HB0.out.size))
 clear c0 c1 c2 c3 c4 c5 c6 c7 c8 hb HK HB0 HC0
 have D:=Blk.new w9 #[.int .i64 ((c.frags:Int)*8),.int .i64 c.spine,.int .i64 c.spine,.int .i64 c.globals] 199
 have B10:=zz (B9.out.alloc B9.out.size (.cells #[.int .i64 ((c.frags:Int)*8),.int .i64 c.spine,.int .i64 c.spine,.int .i64 c.globals] 199))
 go_upto_region 2 with fail
 have d0:=D.cell 0
 have d1:=D.cell 1
 have d2:=D.cell 2
 have d3:=D.cell 3
 generalize World.alloc _ _=w10 at*
 simp at d0 d1 d2 d3
 clear D
 go_wp2_with fail
 go_loop [2,10,27] (fun u _ i=>(u=.int .i64 k∧i=.int .i64 0)∨(u=.int .i64 ((k:Int)+(c.frags:Int)*8)∧i=.int .i64 1)∨(u=.int .i64 ((k:Int)+(c.frags:Int)*8+c.spine)∧i=.int .i64 2)∨(u=.int .i64 ((k:Int)+(c.frags:Int)*8+c.spine+c.spine)∧i=.int .i64 3)) (fun _ _ i=>4-(intOf i).toNat)
 case atStart=>exact .inl ⟨rfl,rfl⟩
 case round=>
  rcases hrel with ⟨rfl,rfl⟩|⟨rfl,rfl⟩|⟨rfl,rfl⟩|⟨rfl,rfl⟩
  · go_wp2_with fail
    go_round
    case rel=>exact .inr (.inl ⟨rfl,rfl⟩)
    case measure=>simp [intOf]
  · go_wp2_with fail
    go_round
    case rel=>exact .inr (.inr (.inl ⟨rfl,rfl⟩))
    case measure=>simp [intOf]
  · go_wp2_with fail
    go_round
    case rel=>exact .inr (.inr (.inr ⟨rfl,rfl⟩))
    case measure=>simp [intOf]
  · go_wp2_with fail
    go_ret2
    exact ⟨rfl,B10.out⟩
end
section
theorem eQ (i k:Nat) (hc:c.ok) (h:(aZ c g cap).at_ S w) (hi:i<c.frags) (hk:k<8):Calls prog 169 #[cfV c g cap,.int .i64 (i:Int),.int .i64 (k:Int)] w fun e w'=>e=.returned (.tuple #[.int .i64 ((i*8+k:Nat):Int),.int .i64 0])∧Below w.heap.size w w':=by
 have hb0:Below w.heap.size w (w.alloc (.cells (aD c (.slice (some ⟨g,0,none⟩) c.shapes.length cap)) 34)):=(Below.refl w.heap.size w).alloc (Nat.le_refl _) _
 have C0:Blk (w.alloc (.cells (aD c (.slice (some ⟨g,0,none⟩) c.shapes.length cap)) 34)) w.heap.size (aD c (.slice (some ⟨g,0,none⟩) c.shapes.length cap)) 34:=Blk.new w _ _
 have HB0:=zz hb0
 have HC0:=zz C0
 have HK:=zz (fun w' hb=>bY hc (keep (w':=w') h hb))
 have a1:=hc.frags
 have a2:=hc.spine
 have a3:=hc.globals
 have a4:((c.frags:Int)*8)≤8192:=by omega
 have HA:=zz (fun w' hb=>area_at1 (i*8+k) hc (keep (w':=w') h hb) (by omega))
 (try unfold cfV szV at *)
 (try unfold cfV at *)
 simp only [aD] at*
 clear h hc hb0
 rw [show (((i*8+k:Nat)):Int)=(i:Int)*8+k by omega] at*
 have d1:decide (c.frags≤i)=false:=by simp;omega
 have i2:(i:Int)<c.frags:=by omega
 have i3:(k:Int)<8:=by omega
 have i4:(i:Int)≤1024:=by omega
 clear hi hk
 go_enter func169,ntmps169
 go_upto_region 1 with fail
 generalize w.alloc _=W1 at*
 obtain ⟨c0,c1,c2,c3,c4,c5,c6,c7,c8⟩:=cf9 C0
 clear C0
 go_wp2_with fail
 refine qz (HK.out _ HB0.out) fun w9 hb=>?_
 have B9:=zz (HB0.out.trans (hb.mono HB0.out.size))
 have C9:=aK HC0.out hb
 clear c0 c1 c2 c3 c4 c5 c6 c7 c8 hb HK HB0 HC0
 obtain ⟨c0,c1,c2,c3,c4,c5,c6,c7,c8⟩:=cf9 C9
 clear C9
 go_wp2_with fail
 refine qz (HA.out _ B9.out) fun w10 hb=>?_
 have B10:=zz (B9.out.trans (hb.mono B9.out.size))
 clear c0 c1 c2 c3 c4 c5 c6 c7 c8 hb HA B9
 go_wp2_with fail
 go_ret2
 exact ⟨rfl,B10.out⟩
theorem fW (k:Nat) (hc:c.ok) (h:(aZ c g cap).at_ S w) (hk:k<c.globals):Calls prog 60 #[cfV c g cap,.int .i64 (k:Int)] w fun e w'=>e=.returned (.tuple #[.int .i64 ((k:Int)+(c.frags:Int)*8+c.spine+c.spine),.int .i64 0])∧Below w.heap.size w w':=by
 have hb0:Below w.heap.size w (w.alloc (.cells (aD c (.slice (some ⟨g,0,none⟩) c.shapes.length cap)) 34)):=(Below.refl w.heap.size w).alloc (Nat.le_refl _) _
 have C0:Blk (w.alloc (.cells (aD c (.slice (some ⟨g,0,none⟩) c.shapes.length cap)) 34)) w.heap.size (aD c (.slice (some ⟨g,0,none⟩) c.shapes.length cap)) 34:=Blk.new w _ _
 have HB0:=zz hb0
 have HC0:=zz C0
 have HK:=zz (fun w' hb=>area_at4 k hc (keep (w':=w') h hb) (by omega))
 have a1:=hc.frags
 have a2:=hc.spine
 have a3:=hc.globals
 have a4:((c.frags:Int)*8)≤8192:=by omega
 (try unfold cfV szV at *)
 (try unfold cfV at *)
 simp only [aD] at*
 clear h hc hb0
 go_enter func60,ntmps60
 go_upto_region 1 with fail
 generalize w.alloc _=W1 at*
 obtain ⟨c0,c1,c2,c3,c4,c5,c6,c7,c8⟩:=cf9 C0
 clear C0
 go_wp2_with fail
 refine qz (HK.out _ HB0.out) fun w10 hb=>?_
 have B10:=zz (HB0.out.trans (hb.mono HB0.out.size))
 clear c0 c1 c2 c3 c4 c5 c6 c7 c8 hb HK HB0 HC0
 go_wp2_with fail
 go_ret2
 exact ⟨rfl,B10.out⟩
theorem area_words (hc:c.ok) (h:(aZ c g cap).at_ S w):Calls prog 56 #[cfV c g cap] w fun e w'=>e=.returned (.int .i64 ((c.frags:Int)*8+c.spine+c.spine+c.globals))∧Below w.heap.size w w':=by
 have hb0:Below w.heap.size w (w.alloc (.cells (aD c (.slice (some ⟨g,0,none⟩) c.shapes.length cap)) 34)):=(Below.refl w.heap.size w).alloc (Nat.le_refl _) _
 have C0:Blk (w.alloc (.cells (aD c (.slice (some ⟨g,0,none⟩) c.shapes.length cap)) 34)) w.heap.size (aD c (.slice (some ⟨g,0,none⟩) c.shapes.length cap)) 34:=Blk.new w _ _
 have HB0:=zz hb0
 have HC0:=zz C0
 have HK:=zz (fun w' hb=>kH hc (keep (w':=w') h hb))
 have a1:=hc.frags
 have a2:=hc.spine
 have a3:=hc.globals
 have a4:((c.frags:Int)*8)≤8192:=by omega
 (try unfold cfV szV at *)
 (try unfold cfV at *)
 simp only [aD] at*
 clear h hc hb0
 have k0:∀ (x0 x1 x2 x3:Value) w,(Instr.index 199 (.agg #[x0,x1,x2,x3]) (.int .i64 0)).run prog w=.ok x0 w:=fun _ _ _ _ _=>by kernel_rfl
 have k1:∀ (x0 x1 x2 x3:Value) w,(Instr.index 199 (.agg #[x0,x1,x2,x3]) (.int .i64 1)).run prog w=.ok x1 w:=fun _ _ _ _ _=>by kernel_rfl
 have k2:∀ (x0 x1 x2 x3:Value) w,(Instr.index 199 (.agg #[x0,x1,x2,x3]) (.int .i64 2)).run prog w=.ok x2 w:=fun _ _ _ _ _=>by kernel_rfl
 have k3:∀ (x0 x1 x2 x3:Value) w,(Instr.index 199 (.agg #[x0,x1,x2,x3]) (.int .i64 3)).run prog w=.ok x3 w:=fun _ _ _ _ _=>by kernel_rfl
 go_enter func56,ntmps56
 go_upto_region 1 with fail
 generalize w.alloc _=W1 at*
 obtain ⟨c0,c1,c2,c3,c4,c5,c6,c7,c8⟩:=cf9 C0
 clear C0
 go_wp2_with fail
 refine qz (HK.out _ HB0.out) fun w9 hb=>?_
 have B9:=zz (HB0.out.trans (hb.mono HB0.out.size))
 clear c0 c1 c2 c3 c4 c5 c6 c7 c8 hb HK HB0 HC0
 go_wp2_with fail
 go_loop [3,5,8] (fun u _ i=>(u=.int .i64 0∧i=.int .i64 0)∨(u=.int .i64 ((c.frags:Int)*8)∧i=.int .i64 1)∨(u=.int .i64 ((c.frags:Int)*8+c.spine)∧i=.int .i64 2)∨(u=.int .i64 ((c.frags:Int)*8+c.spine+c.spine)∧i=.int .i64 3)∨(u=.int .i64 ((c.frags:Int)*8+c.spine+c.spine+c.globals)∧i=.int .i64 4)) (fun _ _ i=>4-(intOf i).toNat)
 case atStart=>exact .inl ⟨rfl,rfl⟩
 case round=>
  rcases hrel with ⟨rfl,rfl⟩|⟨rfl,rfl⟩|⟨rfl,rfl⟩|⟨rfl,rfl⟩|⟨rfl,rfl⟩
  · go_wp2_with fail
    go_round
    case rel=>exact .inr (.inl ⟨by go_num,rfl⟩)
    case measure=>simp [intOf]
  · go_wp2_with fail
    go_round
    case rel=>exact .inr (.inr (.inl ⟨rfl,rfl⟩))
    case measure=>simp [intOf]
  · go_wp2_with fail
    go_round
    case rel=>exact .inr (.inr (.inr (.inl ⟨rfl,rfl⟩)))
    case measure=>simp [intOf]
  · go_wp2_with fail
    go_round
    case rel=>exact .inr (.inr (.inr (.inr ⟨rfl,rfl⟩)))
    case measure=>simp [intOf]
  · go_wp2_with fail
    go_ret
    exact ⟨rfl,B9.out⟩
end
theorem aF {m:Mode} (x y:Nat):(store a (.complex .f64 x y) m).run P w=stored P w a (.complex .f64 x y) m:=run_store P w a _ m rfl
attribute [local go_sem] aF
def valsAt (q n:Nat) (t:TypeId) (m:Nat→Value) (S:Nat→Prop) (w:World):Prop:=∃ cs:Array Value,Blk w q cs t∧cs.size=n∧(∀ j,j<n→cs[j]? = some (m j))∧S q∧∀ k,S k→k=q
def bV (q n:Nat) (t:TypeId) (m:Nat→Value):aC where
 at_:=valsAt q n t m
 lt:=fun ⟨_,h1,_,_,_,h3⟩ k hk=>by rw [h3 k hk];exact h1.lt
 kept:=fun ⟨cs,h1,a,b,h2,h3⟩ hk _=>⟨cs,by unfold Blk at *;rw [hk q h2];exact h1,a,b,h2,h3⟩
def dH (m:Nat→Value) (j:Nat) (x:Value):Nat→Value:=fun k=>if k=j then x else m k
theorem dE (h:(bV q n t m).at_ S w) (j:Nat) (x:Value):aA (bV q n t (dH m j x)) S w (w.setCell ⟨q,j,none⟩ x):=by
 obtain ⟨cs,h1,h2,h3,h4,h5⟩:=h
 refine ⟨⟨S,⟨_,h1.set j x,by simpa using h2,fun k hk=>?_,h4,h5⟩,fun _ h=>.inl h⟩,(aY.refl S w).setCell (.inl h4) _⟩
 by_cases e:k=j
 · subst e;simp [dH,h2,hk]
 · rw [Array.getElem?_setIfInBounds_ne (by omega)];simp only [dH,e,if_false];exact h3 k hk
theorem aR (h:(bV q n t m).at_ S w) (hj:j<n):w.cell? ⟨q,j,none⟩=some (m j):=by
 obtain ⟨cs,h1,h2,h3,_⟩:=h
 rw [h1.cell];exact h3 j hj
theorem bD (h:(bV q n t m).at_ S w) (j:Nat):w.frozen? ⟨q,j,none⟩=false:=by
 obtain ⟨cs,h1,_⟩:=h
 exact h1.free j
def Mem (b g n:Nat) (m:Nat→Value):aC:=Ex fun ct:Int=>Sep (Var b #[.slice (some ⟨g,0,none⟩) n n,.int .i64 ct] 205) (bV g n 25 m)
section
theorem mem_has (k:Nat) (h:Blk w b #[.slice (some ⟨g,0,none⟩) n n,.int .i64 ct] 205) (hk:k<n) (hn:n≤20000):Calls prog 122 #[.pointer (some ⟨b,0,none⟩),.int .i64 (k:Int)] w fun e w'=>e=.returned (.bool true)∧w=w':=by
 have c0:=h.cell 0
 simp at c0
 clear h
 go_enter func122,ntmps122
 go_wp2_with fail
 go_ret
 exact ⟨rfl,rfl⟩
theorem hY (h:aA (Sep (Var b cs t) X) S w w'):Blk w' b cs t:=by
 obtain ⟨⟨_,⟨_,_,h,_⟩,_⟩,_⟩:=h;exact h.1
theorem goesVal (h:aA (bV g n t m) S w w') (hj:j<n):w'.cell? ⟨g,j,none⟩=some (m j):=aR h.now.choose_spec.1 hj
theorem goesValFree (h:aA (bV g n t m) S w w') (j:Nat):w'.frozen? ⟨g,j,none⟩=false:=bD h.now.choose_spec.1 j
theorem mem_read (k:Nat) (h:(Mem b g n m).at_ S w) (hk:k<n) (hn:n≤20000):
 Calls prog 129 #[.pointer (some ⟨b,0,none⟩),.int .i64 (k:Int)] w fun e w'=>e=.returned (.tuple #[m k,.int .i64 0])∧aA (Mem b g n m) S w w':=by
 obtain ⟨ct,h⟩:=h
 have g0:=aA.begin h
 have c1:=g0.c 1 rfl
 have f1:=g0.fr 1
 have g1:=g0.put 1 (.int .i64 (wrap64 (ct+1))) rfl
 have H1:=zz (mem_has k (hY g1) hk hn)
 have d0:=g1.c 0 rfl
 have d1:=goesVal g1.r hk
 have HG:=zz g1
 clear g0 g1 h
 generalize m k=v at*
 go_enter func129,ntmps129
 go_wp2_with fail
 refine qq H1.out ?_
 go_wp2_with fail
 go_ret2
 exact ⟨rfl,HG.out.ex (T:=fun ct:Int=>Sep (Var b #[.slice (some ⟨g,0,none⟩) n n,.int .i64 ct] 205) (bV g n 25 m))⟩
theorem mem_write (k x y:Nat) (h:(Mem b g n m).at_ S w) (hk:k<n) (hn:n≤20000):
 Calls prog 233 #[.pointer (some ⟨b,0,none⟩),.int .i64 (k:Int),.complex .f64 x y] w fun e w'=>e=.returned (.int .i64 0)∧aA (Mem b g n (dH m k (.complex .f64 x y))) S w w':=by
 obtain ⟨ct,h⟩:=h
 have g0:=aA.begin h
 have c1:=g0.c 1 rfl
 have f1:=g0.fr 1
 have g1:=g0.put 1 (.int .i64 (wrap64 (ct+1))) rfl
 have H1:=zz (mem_has k (hY g1) hk hn)
 have d0:=g1.c 0 rfl
 have d1:=goesVal g1.r hk
 have d2:=goesValFree g1.r k
 have HG:=zz (g1.then (aH (fun S h=>dE h k (.complex .f64 x y))))
 clear g0 g1 h
 generalize m k=v at*
 go_enter func233,ntmps233
 go_wp2_with fail
 refine qq H1.out ?_
 go_wp2_with fail
 go_ret
 exact ⟨rfl,HG.out.ex (T:=fun ct:Int=>Sep (Var b #[.slice (some ⟨g,0,none⟩) n n,.int .i64 ct] 205) (bV g n 25 (dH m k (.complex .f64 x y))))⟩
theorem mem_lay (k x y:Nat) (h:(Mem b g n m).at_ S w) (hk:k<n) (hn:n≤20000):
 Calls prog 61 #[.pointer (some ⟨b,0,none⟩),.int .i64 (k:Int),.complex .f64 x y] w fun e w'=>e=.returned (.tuple #[])∧aA (Mem b g n (dH m k (.complex .f64 x y))) S w w':=by
 obtain ⟨ct,h⟩:=h
 have g1:=aA.begin h
 have H1:=zz (mem_has k (hY g1) hk hn)
 have d0:=g1.c 0 rfl
 have d1:=goesVal g1.r hk
 have d2:=goesValFree g1.r k
 have HG:=zz (g1.then (aH (fun S h=>dE h k (.complex .f64 x y))))
 clear g1 h
 generalize m k=v at*
 go_enter func61,ntmps61
 go_wp2_with fail
 refine qq H1.out ?_
 go_wp2_with fail
 go_end0
 exact ⟨rfl,HG.out.ex (T:=fun ct:Int=>Sep (Var b #[.slice (some ⟨g,0,none⟩) n n,.int .i64 ct] 205) (bV g n 25 (dH m k (.complex .f64 x y))))⟩
theorem Tryz.info25:(prog.info? 25).map (fun i=>(i.zero,i.size,i.bytes))=some (some (.complex .f64 0 0),1,16):=by kernel_rfl
theorem make_cpx (n:Nat) (hn:n≤20000) (w:World):(Instr.makeSlice 71 (.int .i64 n) (.int .i64 n)).run prog w=.ok (.slice (some ⟨w.heap.size,0,none⟩) n n) (w.alloc (.cells (madeCells #[.complex .f64 0 0] n) 25)):=by
 obtain ⟨i0,hi,hz0,hz1,hz2⟩:=info_parts Tryz.info25
 have:=run_make (P:=prog) w 71 25 i0 _ underlying71 hi hz0 .i64 .i64 n n (by omega) (by omega) (by rw [hz2];omega) (by omega)
 rw [this,hz1];simp [Value.cells]
theorem mem_new (n:Nat) (w:World) (hn:n≤20000):
 Calls prog 55 #[.int .i64 (n:Int)] w fun e w'=>∃ b g,e=.returned (.tuple #[.pointer (some ⟨b,0,none⟩),.int .i64 0])∧St w (Mem b g n fun _=>.complex .f64 0 0) w':=by
 have hmk:=make_cpx n hn
 have h1:St w (bV w.heap.size n 25 fun _=>.complex .f64 0 0) (w.alloc (.cells (madeCells #[.complex .f64 0 0] n) 25)):=
  ⟨⟨fun k=>k=w.heap.size,⟨_,Blk.new w _ _,by simp [madeCells],fun j hj=>by simp [madeCells,hj,Nat.mod_one],rfl,fun _ h=>h⟩,fun k hk=>by omega⟩,(Below.refl _ _).alloc (Nat.le_refl _) _⟩
 have h2:=(h1.var #[.slice (some ⟨w.heap.size,0,none⟩) n n,.int .i64 0] 205).swap
 rw [World.size_alloc] at h2
 have h2:=zz h2
 clear h1
 go_enter func55,ntmps55
 go_wp2_with fail
 go_ret2
 exact ⟨_,w.heap.size,rfl,h2.out.conv fun S w h=>⟨0,h⟩⟩
end
def fl (k:Nat):Nat:=floatOfInt .f64 (k:Int)
theorem fl0:fl 0=0:=by kernel_rfl
theorem fl1:fl 1=4607182418800017408:=by kernel_rfl
def okf (x:Nat):Prop:=(FloatKind.f64.format.order x x != some Ordering.eq)=false
theorem all17 (h:(List.range 64).all p=true) (k:Nat) (hk:k≤63):p k=true:=List.all_eq_true.1 h k (List.mem_range.2 (by omega))
theorem kA (k:Nat) (hk:k≤63):okf (fl k):=by
 have:=all17 (p:=fun k=>!(FloatKind.f64.format.order (fl k) (fl k) != some Ordering.eq)) (by kernel_rfl) k hk
 simpa [okf] using this
theorem ge_fl (k:Nat) (hk:k≤63):(FloatKind.f64.format.order (fl k) 14069245235905429504==some Ordering.gt||FloatKind.f64.format.order (fl k) 14069245235905429504==some Ordering.eq)=true:=
 all17 (p:=fun k=>(FloatKind.f64.format.order (fl k) 14069245235905429504==some Ordering.gt||FloatKind.f64.format.order (fl k) 14069245235905429504==some Ordering.eq)) (by kernel_rfl) k hk
theorem le_fl (k:Nat) (hk:k≤63):(FloatKind.f64.format.order (fl k) 4845873199050653696==some Ordering.lt||FloatKind.f64.format.order (fl k) 4845873199050653696==some Ordering.eq)=true:=
 all17 (p:=fun k=>(FloatKind.f64.format.order (fl k) 4845873199050653696==some Ordering.lt||FloatKind.f64.format.order (fl k) 4845873199050653696==some Ordering.eq)) (by kernel_rfl) k hk
theorem int_fl (k:Nat) (hk:k≤63):floatToIntVal .f64 (fl k) .i64=some (k:Int):=by
 have:=all17 (p:=fun k=>decide (floatToIntVal .f64 (fl k) .i64=some (k:Int))) (by kernel_rfl) k hk
 simpa using this
theorem fl_inj (k j:Nat) (hk:k≤63) (hj:j≤63):(((fl k:Nat):Int)==((fl j:Nat):Int))=(k==j):=by
 by_cases e:k=j
 · subst e;simp
 · have h:fl k≠fl j:=fun h=>by
    have a:=int_fl k hk
    rw [h,int_fl j hj] at a
    simp at a;omega
   have h2:((fl k:Nat):Int)≠((fl j:Nat):Int):=fun h'=>h (Int.ofNat_inj.1 h')
   rw [show (k==j)=false by simpa using e]
   simpa using h2
theorem okf0:okf 0:=by have:=kA 0 (by omega);rwa [fl0] at this
def cx (k i:Nat):Value:=.complex .f64 (fl k) (fl i)
def cJ:Value:=.complex .f64 0 4607182418800017408
theorem cx01:cx 0 1=cJ:=by unfold cx;rw [fl0,fl1];rfl
theorem bits_run (b:Nat) (w:World):(callFunc 43 #[.float .f64 b]).run prog w=.ok (.value (.int .u64 b)) w:=by
 rw [run_callFunc_extern (e:=Extern.MathFloatBits.float64bits) func43 (by kernel_rfl) (by kernel_rfl) (by kernel_rfl) (by kernel_rfl)]
 rfl
theorem num_part (x:Nat) (w:World) (ho:okf x):Calls prog 297 #[.float .f64 x] w fun e w'=>e=.returned (.int .u64 x)∧w=w':=by
 have hb:=bits_run x w
 unfold okf at ho
 go_enter func297,ntmps297
 go_wp2_with fail
 go_ret
 exact ⟨rfl,rfl⟩
theorem num_bits (x y:Nat) (w:World) (hx:okf x) (hy:okf y):Calls prog 243 #[.complex .f64 x y] w fun e w'=>e=.returned (.tuple #[.int .u64 x,.int .u64 y])∧w=w':=by
 go_enter func243,ntmps243
 go_wp2_with fail
 refine qq (num_part x _ hx) ?_
 go_wp2_with fail
 refine qq (num_part y _ hy) ?_
 go_wp2_with fail
 go_ret2
 exact ⟨rfl,rfl⟩
def sameB (p q r s:Nat):Bool:=((p:Int)==(r:Int))&&((q:Int)==(s:Int))
theorem num_same (p q r s:Nat) (w:World) (hp:okf p) (hq:okf q) (hr:okf r) (hs:okf s):Calls prog 165 #[.complex .f64 p q,.complex .f64 r s] w fun e w'=>e=.returned (.bool (sameB p q r s))∧w=w':=by
 unfold sameB
 cases hpr:((p:Int)==(r:Int))
 all_goals
  have HP:=zz hp
  have HQ:=zz hq
  have HR:=zz hr
  have HS:=zz hs
  clear hp hq hr hs
  go_enter func165,ntmps165
  go_wp2_with fail
  refine qq (num_bits p q _ HP.out HQ.out) ?_
  go_wp2_with fail
  refine qq (num_bits r s _ HR.out HS.out) ?_
  go_wp2_with fail
  go_ret
  exact ⟨by simp,rfl⟩
theorem sameB_fl (k i j m:Nat) (h1:k≤63) (h2:i≤63) (h3:j≤63) (h4:m≤63):sameB (fl k) (fl i) (fl j) (fl m)=(k==j&&i==m):=by
 unfold sameB;rw [fl_inj k j h1 h3,fl_inj i m h2 h4]
theorem iP (k i j m:Nat) (w:World) (h1:k≤63) (h2:i≤63) (h3:j≤63) (h4:m≤63):Calls prog 165 #[cx k i,cx j m] w fun e w'=>e=.returned (.bool (k==j&&i==m))∧w=w':=by
 rw [←sameB_fl k i j m h1 h2 h3 h4]
 exact num_same _ _ _ _ w (kA k h1) (kA i h2) (kA j h3) (kA m h4)
theorem num_whole (k:Nat) (w:World) (hk:k≤2000):Calls prog 236 #[.int .i64 (k:Int)] w fun e w'=>e=.returned (.complex .f64 (fl k) 0)∧w=w':=by
 go_enter func236,ntmps236
 go_wp2_with fail
 go_ret
 exact ⟨rfl,rfl⟩
theorem num_int (k:Nat) (w:World) (hk:k≤63):Calls prog 164 #[.complex .f64 (fl k) 0] w fun e w'=>e=.returned (.tuple #[.int .i64 k,.bool true])∧w=w':=by
 have h1:=ge_fl k hk
 have h2:=le_fl k hk
 have h3:∀ w,(convert 28 3 (.float .f64 (fl k))).run prog w=.ok (.int .i64 (k:Int)) w:=fun w=>run_convert_float_int w 29 3 .f64 .i64 _ _ (by kernel_rfl) underlying3 (int_fl k hk)
 have HS:=zz (fun w=>num_same (fl k) 0 (fl k) 0 w (kA k hk) okf0 (kA k hk) okf0)
 simp only [show sameB (fl k) 0 (fl k) 0=true by simp [sameB]] at HS
 generalize hf:fl k=x at*
 have HF:=zz hf
 clear hf
 go_enter func164,ntmps164
 go_wp2_with fail
 refine qq (num_whole k _ (by omega)) ?_
 rw [HF.out]
 clear HF
 go_wp2_with fail
 refine qq (HS.out _) ?_
 go_wp2_with fail
 go_ret2
 exact ⟨rfl,rfl⟩
theorem fE (w:World):Calls prog 62 #[] w fun e w'=>e=.returned cJ∧w=w':=by
 go_enter func62,ntmps62
 go_wp2_with fail
 go_ret
 exact ⟨rfl,rfl⟩
theorem word_ref (i:Nat) (w:World) (hi:i≤2000):Calls prog 166 #[.int .i64 (i:Int)] w fun e w'=>e=.returned (cx (i+1) 1)∧w=w':=by
 have e1:cx (i+1) 1=.complex .f64 (floatOfInt .f64 ((i:Int)+1)) 4607182418800017408:=by unfold cx;rw [fl1];rfl
 rw [e1]
 clear e1
 go_enter func166,ntmps166
 go_wp2_with fail
 go_ret
 exact ⟨rfl,rfl⟩
theorem word_head (k m:Nat) (w:World) (hk:k≤2000) (hm:m≤2000):Calls prog 290 #[.int .i64 (k:Int),.int .i64 (m:Int)] w fun e w'=>e=.returned (cx k m)∧w=w':=by
 go_enter func290,ntmps290
 go_wp2_with fail
 go_ret
 exact ⟨rfl,rfl⟩
def ixB (k i:Nat):Bool:=decide (1≤k)&&i==1
def ixI (k i:Nat):Nat:=if ixB k i then k-1 else 0
theorem word_index0 (i:Nat) (w:World) (hi:i≤63):Calls prog 95 #[cx 0 i] w fun e w'=>e=.returned (.tuple #[.int .i64 0,.bool false])∧w=w':=by
 unfold cx
 go_enter func95,ntmps95
 go_wp2_with fail
 refine qq (num_int 0 _ (by omega)) ?_
 go_wp2_with fail
 go_ret2
 exact ⟨rfl,rfl⟩
theorem word_index1 (k i:Nat) (w:World) (h1:1≤k) (hk:k≤63) (hi:i≤63):Calls prog 95 #[cx k i] w fun e w'=>e=.returned (.tuple #[.int .i64 (ixI k i),.bool (ixB k i)])∧w=w':=by
 have HS:=zz (fun w=>iP k i k 1 w hk hi hk (by omega))
 have HN:=zz (fun w=>num_int k w hk)
 have HR:=zz (fun w=>word_ref (k-1) w (by omega))
 have hb:ixB k i=(i==1):=by simp [ixB,h1]
 have hI:((ixI k i:Nat):Int)=if (i==1)=true then (k:Int)-1 else 0:=by simp only [ixI,hb];split<;>omega
 rw [hb,hI]
 simp only [beq_self_eq_true,Bool.true_and] at HS
 rw [show k-1+1=k by omega,show ((k-1:Nat):Int)=(k:Int)-1 by omega] at HR
 have hk1:(1:Int)≤k:=by omega
 have hk2:(k:Int)≤63:=by omega
 unfold cx at*
 generalize fl k=x at*
 generalize fl i=y at*
 generalize (k:Int)=n at*
 clear hb hI h1 hk
 generalize (i==1)=bb at*
 cases bb
 all_goals
  go_enter func95,ntmps95
  go_wp2_with fail
  refine qq (HN.out _) ?_
  go_wp2_with fail
  refine qq (HR.out _) ?_
  go_wp2_with fail
  refine qq (HS.out _) ?_
  go_wp2_with fail
  go_ret2
  exact ⟨by simp,rfl⟩
theorem cW (k i:Nat) (w:World) (hk:k≤63) (hi:i≤63):Calls prog 95 #[cx k i] w fun e w'=>e=.returned (.tuple #[.int .i64 (ixI k i),.bool (ixB k i)])∧w=w':=by
 cases k with
 | zero=>exact word_index0 i w hi
 | succ j=>exact word_index1 (j+1) i w (by omega) hk hi
theorem word_is (k i:Nat) (w:World) (hk:k≤63) (hi:i≤63):Calls prog 232 #[cx k i] w fun e w'=>e=.returned (.bool (i==1))∧w=w':=by
 have H1:=zz (fun w=>cW k i w hk hi)
 have H2:=zz (fun w=>iP k i 0 1 w hk hi (by omega) (by omega))
 rw [cx01] at H2
 have HB:ixB k i=true→(i==1)=true:=by unfold ixB;simp
 have HC:ixB k i=false→(k==0&&i==1)=(i==1):=by unfold ixB;simp;intro h;by_cases e:k=0<;>simp [e];intro h2;exact absurd (h (by omega)) (by simpa using h2)
 generalize ixB k i=b at*
 generalize ixI k i=x at*
 unfold cx at*
 cases b with
 | true=>
  rw [HB rfl]
  clear HB HC
  go_enter func232,ntmps232
  go_wp2_with fail
  refine qq (H1.out _) ?_
  go_wp2_with fail
  go_ret
  exact ⟨rfl,rfl⟩
 | false=>
  rw [HC rfl] at H2
  clear HB HC
  go_enter func232,ntmps232
  go_wp2_with fail
  refine qq (H1.out _) ?_
  go_wp2_with fail
  refine qq (fE _) ?_
  go_wp2_with fail
  refine qq (H2.out _) ?_
  go_wp2_with fail
  go_ret
  exact ⟨by simp,rfl⟩
theorem jA (k m:Nat) (w:World) (hk:k≤63) (hm:m≤63):Calls prog 98 #[cx k m] w fun e w'=>e=.returned (.tuple #[.int .i64 k,.int .i64 m,.bool true])∧w=w':=by
 have H1:=zz (fun w=>num_int k w hk)
 have H2:=zz (fun w=>num_int m w hm)
 unfold cx at*
 generalize fl k=x at*
 generalize fl m=y at*
 go_enter func98,ntmps98
 go_wp2_with fail
 refine qq (H1.out _) ?_
 go_wp2_with fail
 refine qq (H2.out _) ?_
 go_wp2_with fail
 go_ret3
 exact ⟨rfl,rfl⟩
end Go.Proofs.YtgcmiahhkalfmaaGreat
