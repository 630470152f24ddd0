import Derived.Test.YtgcmiahhkalfmaaGreatM31
set_option maxRecDepth 100000
set_option maxHeartbeats 8000000
set_option linter.unusedVariables false
set_option linter.unusedSimpArgs false
namespace Go.Proofs.YtgcmiahhkalfmaaGreat
attribute [local go_sem] aF aI aO aV
open Go.Proofs.Tryz
open Go.RowKit
variable {c:Cf} {l:List Bool} {A B C N cap g z1 z2:Nat} {S:Nat→Prop} {w w':World}
def dR (b:Nat) (w:World):Nat:=match w.heap[b]? with|some (.stringIter s p)=>s.size-p|_=>0
theorem aL (w:World) (s:ByteArray) (p:Nat):dR w.heap.size (w.iter s p)=s.size-p:=by unfold dR;rw [World.iter_heap]
section
theorem op_check3 (hc:c.ok) (hA:A<c.locals) (hB:B<c.locals) (h:(aZ c g cap).at_ S w):
 Calls prog 218 #[cfV c g cap,.agg #[.int .i64 3,.int .i64 A,.int .i64 B,.int .i64 C,.int .i64 N,.complex .f64 z1 z2]] w fun e w'=>e=.returned (.int .i64 0)∧Below w.heap.size w w':=by
 have hb0:Below w.heap.size w ((w.alloc (.cells (aD c (.slice (some ⟨g,0,none⟩) c.shapes.length cap)) 34)).alloc (.cells #[.int .i64 3,.int .i64 A,.int .i64 B,.int .i64 C,.int .i64 N,.complex .f64 z1 z2] 27)):=((Below.refl w.heap.size w).alloc (Nat.le_refl _) _).alloc (by simp) _
 have C0:Blk ((w.alloc (.cells (aD c (.slice (some ⟨g,0,none⟩) c.shapes.length cap)) 34)).alloc (.cells #[.int .i64 3,.int .i64 A,.int .i64 B,.int .i64 C,.int .i64 N,.complex .f64 z1 z2] 27)) w.heap.size (aD c (.slice (some ⟨g,0,none⟩) c.shapes.length cap)) 34:=(Blk.new w _ _).alloc _
 have D0:Blk ((w.alloc (.cells (aD c (.slice (some ⟨g,0,none⟩) c.shapes.length cap)) 34)).alloc (.cells #[.int .i64 3,.int .i64 A,.int .i64 B,.int .i64 C,.int .i64 N,.complex .f64 z1 z2] 27)) (w.heap.size+1) #[.int .i64 3,.int .i64 A,.int .i64 B,.int .i64 C,.int .i64 N,.complex .f64 z1 z2] 27:=by have:=Blk.new (w.alloc (.cells (aD c (.slice (some ⟨g,0,none⟩) c.shapes.length cap)) 34)) #[.int .i64 3,.int .i64 A,.int .i64 B,.int .i64 C,.int .i64 N,.complex .f64 z1 z2] 27;rw [World.size_alloc] at this;exact this
 have HB0:=zz hb0
 have HC0:=zz C0
 have HD0:=zz D0
 have g0:=zz ((aA.begin h).below_ hb0)
 have HK:=zz hc
 unfold cfV at*
 simp only [aD] at*
 clear h hc hb0
 go_enter func218,ntmps218
 go_upto_region 1 with fail
 generalize (w.alloc _).alloc _=W1 at*
 generalize hob:w.heap.size+1=ob at*
 have d0:=D0.cell 0
 simp at d0
 go_wp2_with fail
 refine qz (op_words3 _) fun w2 hb=>?_
 have C2:=zz (aK HC0.out hb)
 have D2:=zz (aK HD0.out hb)
 have HB2:=zz (HB0.out.trans (hb.mono HB0.out.size))
 have HCK:=zz (bY HK.out (g0.out.below_ hb).is)
 have G2:=zz (g0.out.below_ hb)
 unfold cfV at HCK
 clear d0 C0 D0 HC0 HD0 HB0 hb g0
 obtain ⟨c0,c1,c2,c3,c4,c5,c6,c7,c8⟩:=cf9 C2.out
 go_wp2_with fail
 refine qz (HCK.out) fun w3 hb=>?_
 have C3:=aK C2.out hb
 have D3:=aK D2.out hb
 have HB3:=zz (HB2.out.trans (hb.mono HB2.out.size))
 have G3:=zz (G2.out.below_ hb)
 clear c0 c1 c2 c3 c4 c5 c6 c7 c8 C2 D2 HB2 hb HCK G2
 have cI:∀ s pos,(w3.iter s pos).cell? ⟨w.heap.size,4,none⟩=some (.int .i64 c.locals):=fun s pos=>(C3.alloc (.stringIter s pos)).cell 4
 have cI2:∀ s pos,(w3.iter s pos).cell? ⟨w.heap.size,2,none⟩=some (.int .i64 c.globals):=fun s pos=>(C3.alloc (.stringIter s pos)).cell 2
 have dI0:∀ s pos,(w3.iter s pos).cell? ⟨ob,0,none⟩=some (.int .i64 3):=fun s pos=>(D3.alloc (.stringIter s pos)).cell 0
 have dI1:∀ s pos,(w3.iter s pos).cell? ⟨ob,1,none⟩=some (.int .i64 A):=fun s pos=>(D3.alloc (.stringIter s pos)).cell 1
 have dI2:∀ s pos,(w3.iter s pos).cell? ⟨ob,2,none⟩=some (.int .i64 B):=fun s pos=>(D3.alloc (.stringIter s pos)).cell 2
 have dI4:∀ s pos,(w3.iter s pos).cell? ⟨ob,4,none⟩=some (.int .i64 N):=fun s pos=>(D3.alloc (.stringIter s pos)).cell 4
 have HBI:=zz fun (s:ByteArray) (pos:Nat)=>(show Below w.heap.size w (w3.iter s pos) from HB3.out.alloc HB3.out.size (.stringIter s pos))
 have hnx0:∀ ty,(Instr.next (.pointer (some ⟨w3.heap.size,0,none⟩)) true ty).run prog (w3.iter ⟨#[97,98,110]⟩ 0)=.ok (.tuple #[.bool true,.int .i64 0,.int .i32 97]) (w3.iter ⟨#[97,98,110]⟩ 1):=fun ty=>run_next_ascii w3 _ 0 ty (by decide) (by decide)
 have hnx1:∀ ty,(Instr.next (.pointer (some ⟨w3.heap.size,0,none⟩)) true ty).run prog (w3.iter ⟨#[97,98,110]⟩ 1)=.ok (.tuple #[.bool true,.int .i64 1,.int .i32 98]) (w3.iter ⟨#[97,98,110]⟩ 2):=fun ty=>run_next_ascii w3 _ 1 ty (by decide) (by decide)
 have hnx2:∀ ty,(Instr.next (.pointer (some ⟨w3.heap.size,0,none⟩)) true ty).run prog (w3.iter ⟨#[97,98,110]⟩ 2)=.ok (.tuple #[.bool true,.int .i64 2,.int .i32 110]) (w3.iter ⟨#[97,98,110]⟩ 3):=fun ty=>run_next_ascii w3 _ 2 ty (by decide) (by decide)
 have hnx3:=fun ty=>run_next_end (P:=prog) w3 ⟨#[97,98,110]⟩ 3 ty (by decide)
 have CC3:=zz C3
 have DD3:=zz D3
 clear C3 D3 HB3
 go_wp2_with fail
 go_loopw [8,9,10] (fun _ _ _ wr=>∃ pos:Nat,pos≤3∧wr=w3.iter ⟨#[97,98,110]⟩ pos) (fun _ _ _ wr=>dR w3.heap.size wr)
 case atStart=>exact ⟨0,by omega,rfl⟩
 case round=>
  obtain ⟨pos,hpos,rfl⟩:=hrel
  have hcase:pos=0∨pos=1∨pos=2∨pos=3:=by omega
  rcases hcase with rfl|rfl|rfl|rfl
  · clear hnx1 hnx2 hnx3
    go_wp2_with fail
    refine qq (dT _ _) ?_
    go_wp2_with fail
    go_round
    case rel=>exact ⟨1,by omega,rfl⟩
    case measure=>rw [aL,aL];decide
  · clear hnx0 hnx2 hnx3
    go_wp2_with fail
    refine qq (hM _ _) ?_
    go_wp2_with fail
    go_round
    case rel=>exact ⟨2,by omega,rfl⟩
    case measure=>rw [aL,aL];decide
  · clear hnx0 hnx1 hnx3
    go_wp2_with fail
    go_round
    case rel=>exact ⟨3,by omega,rfl⟩
    case measure=>rw [aL,aL];decide
  · clear hnx0 hnx1 hnx2
    go_wp2_with fail
    go_ret
    exact ⟨rfl,HBI.out _ _⟩
theorem op_check4 (hc:c.ok) (hA:A<c.locals) (hB:B<c.locals) (h:(aZ c g cap).at_ S w):
 Calls prog 218 #[cfV c g cap,.agg #[.int .i64 4,.int .i64 A,.int .i64 B,.int .i64 C,.int .i64 N,.complex .f64 z1 z2]] w fun e w'=>e=.returned (.int .i64 0)∧Below w.heap.size w w':=by
 have hb0:Below w.heap.size w ((w.alloc (.cells (aD c (.slice (some ⟨g,0,none⟩) c.shapes.length cap)) 34)).alloc (.cells #[.int .i64 4,.int .i64 A,.int .i64 B,.int .i64 C,.int .i64 N,.complex .f64 z1 z2] 27)):=((Below.refl w.heap.size w).alloc (Nat.le_refl _) _).alloc (by simp) _
 have C0:Blk ((w.alloc (.cells (aD c (.slice (some ⟨g,0,none⟩) c.shapes.length cap)) 34)).alloc (.cells #[.int .i64 4,.int .i64 A,.int .i64 B,.int .i64 C,.int .i64 N,.complex .f64 z1 z2] 27)) w.heap.size (aD c (.slice (some ⟨g,0,none⟩) c.shapes.length cap)) 34:=(Blk.new w _ _).alloc _
 have D0:Blk ((w.alloc (.cells (aD c (.slice (some ⟨g,0,none⟩) c.shapes.length cap)) 34)).alloc (.cells #[.int .i64 4,.int .i64 A,.int .i64 B,.int .i64 C,.int .i64 N,.complex .f64 z1 z2] 27)) (w.heap.size+1) #[.int .i64 4,.int .i64 A,.int .i64 B,.int .i64 C,.int .i64 N,.complex .f64 z1 z2] 27:=by have:=Blk.new (w.alloc (.cells (aD c (.slice (some ⟨g,0,none⟩) c.shapes.length cap)) 34)) #[.int .i64 4,.int .i64 A,.int .i64 B,.int .i64 C,.int .i64 N,.complex .f64 z1 z2] 27;rw [World.size_alloc] at this;exact this
 have HB0:=zz hb0
 have HC0:=zz C0
 have HD0:=zz D0
 have g0:=zz ((aA.begin h).below_ hb0)
 have HK:=zz hc
 unfold cfV at*
 simp only [aD] at*
 clear h hc hb0
 go_enter func218,ntmps218
 go_upto_region 1 with fail
 generalize (w.alloc _).alloc _=W1 at*
 generalize hob:w.heap.size+1=ob at*
 have d0:=D0.cell 0
 simp at d0
 go_wp2_with fail
 refine qz (op_words4 _) fun w2 hb=>?_
 have C2:=zz (aK HC0.out hb)
 have D2:=zz (aK HD0.out hb)
 have HB2:=zz (HB0.out.trans (hb.mono HB0.out.size))
 have HCK:=zz (bY HK.out (g0.out.below_ hb).is)
 have G2:=zz (g0.out.below_ hb)
 unfold cfV at HCK
 clear d0 C0 D0 HC0 HD0 HB0 hb g0
 obtain ⟨c0,c1,c2,c3,c4,c5,c6,c7,c8⟩:=cf9 C2.out
 go_wp2_with fail
 refine qz (HCK.out) fun w3 hb=>?_
 have C3:=aK C2.out hb
 have D3:=aK D2.out hb
 have HB3:=zz (HB2.out.trans (hb.mono HB2.out.size))
 have G3:=zz (G2.out.below_ hb)
 clear c0 c1 c2 c3 c4 c5 c6 c7 c8 C2 D2 HB2 hb HCK G2
 have cI:∀ s pos,(w3.iter s pos).cell? ⟨w.heap.size,4,none⟩=some (.int .i64 c.locals):=fun s pos=>(C3.alloc (.stringIter s pos)).cell 4
 have cI2:∀ s pos,(w3.iter s pos).cell? ⟨w.heap.size,2,none⟩=some (.int .i64 c.globals):=fun s pos=>(C3.alloc (.stringIter s pos)).cell 2
 have dI0:∀ s pos,(w3.iter s pos).cell? ⟨ob,0,none⟩=some (.int .i64 4):=fun s pos=>(D3.alloc (.stringIter s pos)).cell 0
 have dI1:∀ s pos,(w3.iter s pos).cell? ⟨ob,1,none⟩=some (.int .i64 A):=fun s pos=>(D3.alloc (.stringIter s pos)).cell 1
 have dI2:∀ s pos,(w3.iter s pos).cell? ⟨ob,2,none⟩=some (.int .i64 B):=fun s pos=>(D3.alloc (.stringIter s pos)).cell 2
 have dI4:∀ s pos,(w3.iter s pos).cell? ⟨ob,4,none⟩=some (.int .i64 N):=fun s pos=>(D3.alloc (.stringIter s pos)).cell 4
 have HBI:=zz fun (s:ByteArray) (pos:Nat)=>(show Below w.heap.size w (w3.iter s pos) from HB3.out.alloc HB3.out.size (.stringIter s pos))
 have hnx0:∀ ty,(Instr.next (.pointer (some ⟨w3.heap.size,0,none⟩)) true ty).run prog (w3.iter ⟨#[97,110,98]⟩ 0)=.ok (.tuple #[.bool true,.int .i64 0,.int .i32 97]) (w3.iter ⟨#[97,110,98]⟩ 1):=fun ty=>run_next_ascii w3 _ 0 ty (by decide) (by decide)
 have hnx1:∀ ty,(Instr.next (.pointer (some ⟨w3.heap.size,0,none⟩)) true ty).run prog (w3.iter ⟨#[97,110,98]⟩ 1)=.ok (.tuple #[.bool true,.int .i64 1,.int .i32 110]) (w3.iter ⟨#[97,110,98]⟩ 2):=fun ty=>run_next_ascii w3 _ 1 ty (by decide) (by decide)
 have hnx2:∀ ty,(Instr.next (.pointer (some ⟨w3.heap.size,0,none⟩)) true ty).run prog (w3.iter ⟨#[97,110,98]⟩ 2)=.ok (.tuple #[.bool true,.int .i64 2,.int .i32 98]) (w3.iter ⟨#[97,110,98]⟩ 3):=fun ty=>run_next_ascii w3 _ 2 ty (by decide) (by decide)
 have hnx3:=fun ty=>run_next_end (P:=prog) w3 ⟨#[97,110,98]⟩ 3 ty (by decide)
 have CC3:=zz C3
 have DD3:=zz D3
 clear C3 D3 HB3
 go_wp2_with fail
 go_loopw [8,9,10] (fun _ _ _ wr=>∃ pos:Nat,pos≤3∧wr=w3.iter ⟨#[97,110,98]⟩ pos) (fun _ _ _ wr=>dR w3.heap.size wr)
 case atStart=>exact ⟨0,by omega,rfl⟩
 case round=>
  obtain ⟨pos,hpos,rfl⟩:=hrel
  have hcase:pos=0∨pos=1∨pos=2∨pos=3:=by omega
  rcases hcase with rfl|rfl|rfl|rfl
  · clear hnx1 hnx2 hnx3
    go_wp2_with fail
    refine qq (dT _ _) ?_
    go_wp2_with fail
    go_round
    case rel=>exact ⟨1,by omega,rfl⟩
    case measure=>rw [aL,aL];decide
  · clear hnx0 hnx2 hnx3
    go_wp2_with fail
    go_round
    case rel=>exact ⟨2,by omega,rfl⟩
    case measure=>rw [aL,aL];decide
  · clear hnx0 hnx1 hnx3
    go_wp2_with fail
    refine qq (hM _ _) ?_
    go_wp2_with fail
    go_round
    case rel=>exact ⟨3,by omega,rfl⟩
    case measure=>rw [aL,aL];decide
  · clear hnx0 hnx1 hnx2
    go_wp2_with fail
    go_ret
    exact ⟨rfl,HBI.out _ _⟩
theorem op_check7 (hc:c.ok) (hA:A<c.locals) (hN:N<c.globals) (h:(aZ c g cap).at_ S w):
 Calls prog 218 #[cfV c g cap,.agg #[.int .i64 7,.int .i64 A,.int .i64 B,.int .i64 C,.int .i64 N,.complex .f64 z1 z2]] w fun e w'=>e=.returned (.int .i64 0)∧Below w.heap.size w w':=by
 have hb0:Below w.heap.size w ((w.alloc (.cells (aD c (.slice (some ⟨g,0,none⟩) c.shapes.length cap)) 34)).alloc (.cells #[.int .i64 7,.int .i64 A,.int .i64 B,.int .i64 C,.int .i64 N,.complex .f64 z1 z2] 27)):=((Below.refl w.heap.size w).alloc (Nat.le_refl _) _).alloc (by simp) _
 have C0:Blk ((w.alloc (.cells (aD c (.slice (some ⟨g,0,none⟩) c.shapes.length cap)) 34)).alloc (.cells #[.int .i64 7,.int .i64 A,.int .i64 B,.int .i64 C,.int .i64 N,.complex .f64 z1 z2] 27)) w.heap.size (aD c (.slice (some ⟨g,0,none⟩) c.shapes.length cap)) 34:=(Blk.new w _ _).alloc _
 have D0:Blk ((w.alloc (.cells (aD c (.slice (some ⟨g,0,none⟩) c.shapes.length cap)) 34)).alloc (.cells #[.int .i64 7,.int .i64 A,.int .i64 B,.int .i64 C,.int .i64 N,.complex .f64 z1 z2] 27)) (w.heap.size+1) #[.int .i64 7,.int .i64 A,.int .i64 B,.int .i64 C,.int .i64 N,.complex .f64 z1 z2] 27:=by have:=Blk.new (w.alloc (.cells (aD c (.slice (some ⟨g,0,none⟩) c.shapes.length cap)) 34)) #[.int .i64 7,.int .i64 A,.int .i64 B,.int .i64 C,.int .i64 N,.complex .f64 z1 z2] 27;rw [World.size_alloc] at this;exact this
 have HB0:=zz hb0
 have HC0:=zz C0
 have HD0:=zz D0
 have g0:=zz ((aA.begin h).below_ hb0)
 have HK:=zz hc
 unfold cfV at*
 simp only [aD] at*
 clear h hc hb0
 go_enter func218,ntmps218
 go_upto_region 1 with fail
 generalize (w.alloc _).alloc _=W1 at*
 generalize hob:w.heap.size+1=ob at*
 have d0:=D0.cell 0
 simp at d0
 go_wp2_with fail
 refine qz (op_words7 _) fun w2 hb=>?_
 have C2:=zz (aK HC0.out hb)
 have D2:=zz (aK HD0.out hb)
 have HB2:=zz (HB0.out.trans (hb.mono HB0.out.size))
 have HCK:=zz (bY HK.out (g0.out.below_ hb).is)
 have G2:=zz (g0.out.below_ hb)
 unfold cfV at HCK
 clear d0 C0 D0 HC0 HD0 HB0 hb g0
 obtain ⟨c0,c1,c2,c3,c4,c5,c6,c7,c8⟩:=cf9 C2.out
 go_wp2_with fail
 refine qz (HCK.out) fun w3 hb=>?_
 have C3:=aK C2.out hb
 have D3:=aK D2.out hb
 have HB3:=zz (HB2.out.trans (hb.mono HB2.out.size))
 have G3:=zz (G2.out.below_ hb)
 clear c0 c1 c2 c3 c4 c5 c6 c7 c8 C2 D2 HB2 hb HCK G2
 have cI:∀ s pos,(w3.iter s pos).cell? ⟨w.heap.size,4,none⟩=some (.int .i64 c.locals):=fun s pos=>(C3.alloc (.stringIter s pos)).cell 4
 have cI2:∀ s pos,(w3.iter s pos).cell? ⟨w.heap.size,2,none⟩=some (.int .i64 c.globals):=fun s pos=>(C3.alloc (.stringIter s pos)).cell 2
 have dI0:∀ s pos,(w3.iter s pos).cell? ⟨ob,0,none⟩=some (.int .i64 7):=fun s pos=>(D3.alloc (.stringIter s pos)).cell 0
 have dI1:∀ s pos,(w3.iter s pos).cell? ⟨ob,1,none⟩=some (.int .i64 A):=fun s pos=>(D3.alloc (.stringIter s pos)).cell 1
 have dI2:∀ s pos,(w3.iter s pos).cell? ⟨ob,2,none⟩=some (.int .i64 B):=fun s pos=>(D3.alloc (.stringIter s pos)).cell 2
 have dI4:∀ s pos,(w3.iter s pos).cell? ⟨ob,4,none⟩=some (.int .i64 N):=fun s pos=>(D3.alloc (.stringIter s pos)).cell 4
 have HBI:=zz fun (s:ByteArray) (pos:Nat)=>(show Below w.heap.size w (w3.iter s pos) from HB3.out.alloc HB3.out.size (.stringIter s pos))
 have hnx0:∀ ty,(Instr.next (.pointer (some ⟨w3.heap.size,0,none⟩)) true ty).run prog (w3.iter ⟨#[97,103]⟩ 0)=.ok (.tuple #[.bool true,.int .i64 0,.int .i32 97]) (w3.iter ⟨#[97,103]⟩ 1):=fun ty=>run_next_ascii w3 _ 0 ty (by decide) (by decide)
 have hnx1:∀ ty,(Instr.next (.pointer (some ⟨w3.heap.size,0,none⟩)) true ty).run prog (w3.iter ⟨#[97,103]⟩ 1)=.ok (.tuple #[.bool true,.int .i64 1,.int .i32 103]) (w3.iter ⟨#[97,103]⟩ 2):=fun ty=>run_next_ascii w3 _ 1 ty (by decide) (by decide)
 have hnx2:=fun ty=>run_next_end (P:=prog) w3 ⟨#[97,103]⟩ 2 ty (by decide)
 have CC3:=zz C3
 have DD3:=zz D3
 clear C3 D3 HB3
 go_wp2_with fail
 go_loopw [8,9,10] (fun _ _ _ wr=>∃ pos:Nat,pos≤2∧wr=w3.iter ⟨#[97,103]⟩ pos) (fun _ _ _ wr=>dR w3.heap.size wr)
 case atStart=>exact ⟨0,by omega,rfl⟩
 case round=>
  obtain ⟨pos,hpos,rfl⟩:=hrel
  have hcase:pos=0∨pos=1∨pos=2:=by omega
  rcases hcase with rfl|rfl|rfl
  · clear hnx1 hnx2
    go_wp2_with fail
    refine qq (dT _ _) ?_
    go_wp2_with fail
    go_round
    case rel=>exact ⟨1,by omega,rfl⟩
    case measure=>rw [aL,aL];decide
  · clear hnx0 hnx2
    go_wp2_with fail
    refine qq (op_field_g _ _) ?_
    go_wp2_with fail
    go_round
    case rel=>exact ⟨2,by omega,rfl⟩
    case measure=>rw [aL,aL];decide
  · clear hnx0 hnx1
    go_wp2_with fail
    go_ret
    exact ⟨rfl,HBI.out _ _⟩
theorem op_check8 (hc:c.ok) (hB:B<c.locals) (hN:N<c.globals) (h:(aZ c g cap).at_ S w):
 Calls prog 218 #[cfV c g cap,.agg #[.int .i64 8,.int .i64 A,.int .i64 B,.int .i64 C,.int .i64 N,.complex .f64 z1 z2]] w fun e w'=>e=.returned (.int .i64 0)∧Below w.heap.size w w':=by
 have hb0:Below w.heap.size w ((w.alloc (.cells (aD c (.slice (some ⟨g,0,none⟩) c.shapes.length cap)) 34)).alloc (.cells #[.int .i64 8,.int .i64 A,.int .i64 B,.int .i64 C,.int .i64 N,.complex .f64 z1 z2] 27)):=((Below.refl w.heap.size w).alloc (Nat.le_refl _) _).alloc (by simp) _
 have C0:Blk ((w.alloc (.cells (aD c (.slice (some ⟨g,0,none⟩) c.shapes.length cap)) 34)).alloc (.cells #[.int .i64 8,.int .i64 A,.int .i64 B,.int .i64 C,.int .i64 N,.complex .f64 z1 z2] 27)) w.heap.size (aD c (.slice (some ⟨g,0,none⟩) c.shapes.length cap)) 34:=(Blk.new w _ _).alloc _
 have D0:Blk ((w.alloc (.cells (aD c (.slice (some ⟨g,0,none⟩) c.shapes.length cap)) 34)).alloc (.cells #[.int .i64 8,.int .i64 A,.int .i64 B,.int .i64 C,.int .i64 N,.complex .f64 z1 z2] 27)) (w.heap.size+1) #[.int .i64 8,.int .i64 A,.int .i64 B,.int .i64 C,.int .i64 N,.complex .f64 z1 z2] 27:=by have:=Blk.new (w.alloc (.cells (aD c (.slice (some ⟨g,0,none⟩) c.shapes.length cap)) 34)) #[.int .i64 8,.int .i64 A,.int .i64 B,.int .i64 C,.int .i64 N,.complex .f64 z1 z2] 27;rw [World.size_alloc] at this;exact this
 have HB0:=zz hb0
 have HC0:=zz C0
 have HD0:=zz D0
 have g0:=zz ((aA.begin h).below_ hb0)
 have HK:=zz hc
 unfold cfV at*
 simp only [aD] at*
 clear h hc hb0
 go_enter func218,ntmps218
 go_upto_region 1 with fail
 generalize (w.alloc _).alloc _=W1 at*
 generalize hob:w.heap.size+1=ob at*
 have d0:=D0.cell 0
 simp at d0
 go_wp2_with fail
 refine qz (op_words8 _) fun w2 hb=>?_
 have C2:=zz (aK HC0.out hb)
 have D2:=zz (aK HD0.out hb)
 have HB2:=zz (HB0.out.trans (hb.mono HB0.out.size))
 have HCK:=zz (bY HK.out (g0.out.below_ hb).is)
 have G2:=zz (g0.out.below_ hb)
 unfold cfV at HCK
 clear d0 C0 D0 HC0 HD0 HB0 hb g0
 obtain ⟨c0,c1,c2,c3,c4,c5,c6,c7,c8⟩:=cf9 C2.out
 go_wp2_with fail
 refine qz (HCK.out) fun w3 hb=>?_
 have C3:=aK C2.out hb
 have D3:=aK D2.out hb
 have HB3:=zz (HB2.out.trans (hb.mono HB2.out.size))
 have G3:=zz (G2.out.below_ hb)
 clear c0 c1 c2 c3 c4 c5 c6 c7 c8 C2 D2 HB2 hb HCK G2
 have cI:∀ s pos,(w3.iter s pos).cell? ⟨w.heap.size,4,none⟩=some (.int .i64 c.locals):=fun s pos=>(C3.alloc (.stringIter s pos)).cell 4
 have cI2:∀ s pos,(w3.iter s pos).cell? ⟨w.heap.size,2,none⟩=some (.int .i64 c.globals):=fun s pos=>(C3.alloc (.stringIter s pos)).cell 2
 have dI0:∀ s pos,(w3.iter s pos).cell? ⟨ob,0,none⟩=some (.int .i64 8):=fun s pos=>(D3.alloc (.stringIter s pos)).cell 0
 have dI1:∀ s pos,(w3.iter s pos).cell? ⟨ob,1,none⟩=some (.int .i64 A):=fun s pos=>(D3.alloc (.stringIter s pos)).cell 1
 have dI2:∀ s pos,(w3.iter s pos).cell? ⟨ob,2,none⟩=some (.int .i64 B):=fun s pos=>(D3.alloc (.stringIter s pos)).cell 2
 have dI4:∀ s pos,(w3.iter s pos).cell? ⟨ob,4,none⟩=some (.int .i64 N):=fun s pos=>(D3.alloc (.stringIter s pos)).cell 4
 have HBI:=zz fun (s:ByteArray) (pos:Nat)=>(show Below w.heap.size w (w3.iter s pos) from HB3.out.alloc HB3.out.size (.stringIter s pos))
 have hnx0:∀ ty,(Instr.next (.pointer (some ⟨w3.heap.size,0,none⟩)) true ty).run prog (w3.iter ⟨#[103,98]⟩ 0)=.ok (.tuple #[.bool true,.int .i64 0,.int .i32 103]) (w3.iter ⟨#[103,98]⟩ 1):=fun ty=>run_next_ascii w3 _ 0 ty (by decide) (by decide)
 have hnx1:∀ ty,(Instr.next (.pointer (some ⟨w3.heap.size,0,none⟩)) true ty).run prog (w3.iter ⟨#[103,98]⟩ 1)=.ok (.tuple #[.bool true,.int .i64 1,.int .i32 98]) (w3.iter ⟨#[103,98]⟩ 2):=fun ty=>run_next_ascii w3 _ 1 ty (by decide) (by decide)
 have hnx2:=fun ty=>run_next_end (P:=prog) w3 ⟨#[103,98]⟩ 2 ty (by decide)
 have CC3:=zz C3
 have DD3:=zz D3
 clear C3 D3 HB3
 go_wp2_with fail
 go_loopw [8,9,10] (fun _ _ _ wr=>∃ pos:Nat,pos≤2∧wr=w3.iter ⟨#[103,98]⟩ pos) (fun _ _ _ wr=>dR w3.heap.size wr)
 case atStart=>exact ⟨0,by omega,rfl⟩
 case round=>
  obtain ⟨pos,hpos,rfl⟩:=hrel
  have hcase:pos=0∨pos=1∨pos=2:=by omega
  rcases hcase with rfl|rfl|rfl
  · clear hnx1 hnx2
    go_wp2_with fail
    refine qq (op_field_g _ _) ?_
    go_wp2_with fail
    go_round
    case rel=>exact ⟨1,by omega,rfl⟩
    case measure=>rw [aL,aL];decide
  · clear hnx0 hnx2
    go_wp2_with fail
    refine qq (hM _ _) ?_
    go_wp2_with fail
    go_round
    case rel=>exact ⟨2,by omega,rfl⟩
    case measure=>rw [aL,aL];decide
  · clear hnx0 hnx1
    go_wp2_with fail
    go_ret
    exact ⟨rfl,HBI.out _ _⟩
end
theorem emp_goes (w:World):aA Emp (fun _=>False) w w:=aA.same fun _ h=>h
theorem bH (h:aA Emp (fun _=>False) w w'):Below w.heap.size w w':=h.turned.below (Nat.le_refl _) fun _ h=>h.elim
section
theorem op_size1 {A B C N:Int} {n:Nat} (x:Option Addr) (k:Nat) (w:World) (hn:n≤6):Calls prog 269 #[.agg #[.bool false,.slice x n k],.agg #[.int .i64 1,.int .i64 A,.int .i64 B,.int .i64 C,.int .i64 N,.complex .f64 z1 z2]] w fun e w'=>e=.returned (.int .i64 1)∧Below w.heap.size w w':=by
 have D0:=(Blk.new w #[.bool false,.slice x n k] 55).alloc (.cells #[.int .i64 1,.int .i64 A,.int .i64 B,.int .i64 C,.int .i64 N,.complex .f64 z1 z2] 27)
 have E0:Blk ((w.alloc (.cells #[.bool false,.slice x n k] 55)).alloc (.cells #[.int .i64 1,.int .i64 A,.int .i64 B,.int .i64 C,.int .i64 N,.complex .f64 z1 z2] 27)) (w.heap.size+1) #[.int .i64 1,.int .i64 A,.int .i64 B,.int .i64 C,.int .i64 N,.complex .f64 z1 z2] 27:=by
  have:=Blk.new (w.alloc (.cells #[.bool false,.slice x n k] 55)) #[.int .i64 1,.int .i64 A,.int .i64 B,.int .i64 C,.int .i64 N,.complex .f64 z1 z2] 27
  rw [World.size_alloc] at this;exact this
 have hb:=zz (((Below.refl w.heap.size w).alloc (Nat.le_refl _) (.cells #[.bool false,.slice x n k] 55)).alloc (by simp) (.cells #[.int .i64 1,.int .i64 A,.int .i64 B,.int .i64 C,.int .i64 N,.complex .f64 z1 z2] 27))
 have HS:=zz fun w=>gW x n k w hn
 go_enter func269,ntmps269
 go_upto_region 1 with fail
 generalize (w.alloc _).alloc _=W1 at*
 have d0:=D0.cell 0
 have d1:=D0.cell 1
 have e0:=E0.cell 0
 simp at d0 d1 e0
 clear D0 E0
 go_wp2_with fail
 refine qz (HS.out _) fun w2 hb2=>?_
 have HF:=zz (hb.out.trans (hb2.mono hb.out.size))
 clear HS hb hb2 d0 d1 e0
 go_wp2_with fail
 go_ret
 exact ⟨rfl,HF.out⟩
theorem op_check1 (hc:c.ok) (hA:A<c.locals) (hs:c.shapes[0]? = some (false,l)) (h:(aZ c g cap).at_ S w):
 Calls prog 218 #[cfV c g cap,.agg #[.int .i64 1,.int .i64 A,(.int .i64 0),.int .i64 C,.int .i64 N,.complex .f64 z1 z2]] w fun e w'=>e=.returned (.int .i64 0)∧Below w.heap.size w w':=by
 have hb0:Below w.heap.size w ((w.alloc (.cells (aD c (.slice (some ⟨g,0,none⟩) c.shapes.length cap)) 34)).alloc (.cells #[.int .i64 1,.int .i64 A,(.int .i64 0),.int .i64 C,.int .i64 N,.complex .f64 z1 z2] 27)):=((Below.refl w.heap.size w).alloc (Nat.le_refl _) _).alloc (by simp) _
 have C0:Blk ((w.alloc (.cells (aD c (.slice (some ⟨g,0,none⟩) c.shapes.length cap)) 34)).alloc (.cells #[.int .i64 1,.int .i64 A,(.int .i64 0),.int .i64 C,.int .i64 N,.complex .f64 z1 z2] 27)) w.heap.size (aD c (.slice (some ⟨g,0,none⟩) c.shapes.length cap)) 34:=(Blk.new w _ _).alloc _
 have D0:Blk ((w.alloc (.cells (aD c (.slice (some ⟨g,0,none⟩) c.shapes.length cap)) 34)).alloc (.cells #[.int .i64 1,.int .i64 A,(.int .i64 0),.int .i64 C,.int .i64 N,.complex .f64 z1 z2] 27)) (w.heap.size+1) #[.int .i64 1,.int .i64 A,(.int .i64 0),.int .i64 C,.int .i64 N,.complex .f64 z1 z2] 27:=by have:=Blk.new (w.alloc (.cells (aD c (.slice (some ⟨g,0,none⟩) c.shapes.length cap)) 34)) #[.int .i64 1,.int .i64 A,(.int .i64 0),.int .i64 C,.int .i64 N,.complex .f64 z1 z2] 27;rw [World.size_alloc] at this;exact this
 have HB0:=zz hb0
 have HC0:=zz C0
 have HD0:=zz D0
 have g0:=zz ((aA.begin h).below_ hb0)
 have HK:=zz hc
 have HSH:=zz hs
 have hl6:l.length≤6:=(hc.shape _ (List.mem_of_getElem? hs)).1
 unfold cfV at*
 simp only [aD] at*
 clear h hc hb0 hs
 go_enter func218,ntmps218
 go_upto_region 1 with fail
 generalize (w.alloc _).alloc _=W1 at*
 generalize hob:w.heap.size+1=ob at*
 have d0:=D0.cell 0
 simp at d0
 go_wp2_with fail
 refine qz (op_words1 _) fun w2 hb=>?_
 have C2:=zz (aK HC0.out hb)
 have D2:=zz (aK HD0.out hb)
 have HB2:=zz (HB0.out.trans (hb.mono HB0.out.size))
 have HCK:=zz (bY HK.out (g0.out.below_ hb).is)
 have G2:=zz (g0.out.below_ hb)
 unfold cfV at HCK
 clear d0 C0 D0 HC0 HD0 HB0 hb g0
 obtain ⟨c0,c1,c2,c3,c4,c5,c6,c7,c8⟩:=cf9 C2.out
 go_wp2_with fail
 refine qz (HCK.out) fun w3 hb=>?_
 have C3:=aK C2.out hb
 have D3:=aK D2.out hb
 have HB3:=zz (HB2.out.trans (hb.mono HB2.out.size))
 have G3:=zz (G2.out.below_ hb)
 clear c0 c1 c2 c3 c4 c5 c6 c7 c8 C2 D2 HB2 hb HCK G2
 have cI:∀ s pos,(w3.iter s pos).cell? ⟨w.heap.size,4,none⟩=some (.int .i64 c.locals):=fun s pos=>(C3.alloc (.stringIter s pos)).cell 4
 have cI2:∀ s pos,(w3.iter s pos).cell? ⟨w.heap.size,2,none⟩=some (.int .i64 c.globals):=fun s pos=>(C3.alloc (.stringIter s pos)).cell 2
 have dI0:∀ s pos,(w3.iter s pos).cell? ⟨ob,0,none⟩=some (.int .i64 1):=fun s pos=>(D3.alloc (.stringIter s pos)).cell 0
 have dI1:∀ s pos,(w3.iter s pos).cell? ⟨ob,1,none⟩=some (.int .i64 A):=fun s pos=>(D3.alloc (.stringIter s pos)).cell 1
 have dI2:∀ s pos,(w3.iter s pos).cell? ⟨ob,2,none⟩=some (.int .i64 0):=fun s pos=>(D3.alloc (.stringIter s pos)).cell 2
 have dI4:∀ s pos,(w3.iter s pos).cell? ⟨ob,4,none⟩=some (.int .i64 N):=fun s pos=>(D3.alloc (.stringIter s pos)).cell 4
 have HBI:=zz fun (s:ByteArray) (pos:Nat)=>(show Below w.heap.size w (w3.iter s pos) from HB3.out.alloc HB3.out.size (.stringIter s pos))
 have hnx0:∀ ty,(Instr.next (.pointer (some ⟨w3.heap.size,0,none⟩)) true ty).run prog (w3.iter ⟨#[97,107]⟩ 0)=.ok (.tuple #[.bool true,.int .i64 0,.int .i32 97]) (w3.iter ⟨#[97,107]⟩ 1):=fun ty=>run_next_ascii w3 _ 0 ty (by decide) (by decide)
 have hnx1:∀ ty,(Instr.next (.pointer (some ⟨w3.heap.size,0,none⟩)) true ty).run prog (w3.iter ⟨#[97,107]⟩ 1)=.ok (.tuple #[.bool true,.int .i64 1,.int .i32 107]) (w3.iter ⟨#[97,107]⟩ 2):=fun ty=>run_next_ascii w3 _ 1 ty (by decide) (by decide)
 have hnx2:=fun ty=>run_next_end (P:=prog) w3 ⟨#[97,107]⟩ 2 ty (by decide)
 have CC3:=zz C3
 have DD3:=zz D3
 clear C3 D3 HB3
 go_wp2_with fail
 go_loopw [8,9,10] (fun _ _ _ wr=>∃ pos:Nat,pos≤2∧wr=w3.iter ⟨#[97,107]⟩ pos) (fun _ _ _ wr=>dR w3.heap.size wr)
 case atStart=>exact ⟨0,by omega,rfl⟩
 case round=>
  obtain ⟨pos,hpos,rfl⟩:=hrel
  have hcase:pos=0∨pos=1∨pos=2:=by omega
  rcases hcase with rfl|rfl|rfl
  · clear hnx1 hnx2
    go_wp2_with fail
    refine qq (dT _ _) ?_
    go_wp2_with fail
    go_round
    case rel=>exact ⟨1,by omega,rfl⟩
    case measure=>rw [aL,aL];decide
  · clear hnx0 hnx2
    go_wp2_with fail
    go_round
    case rel=>exact ⟨2,by omega,rfl⟩
    case measure=>rw [aL,aL];decide
  · have C4:Blk (w3.iter ⟨#[97,107]⟩ 2) _ _ _:=CC3.out.alloc (.stringIter ⟨#[97,107]⟩ 2)
    have D4:Blk (w3.iter ⟨#[97,107]⟩ 2) _ _ _:=DD3.out.alloc (.stringIter ⟨#[97,107]⟩ 2)
    have G4:=G3.out.below_ (show Below w3.heap.size w3 (w3.iter ⟨#[97,107]⟩ 2) from (Below.refl _ _).alloc (Nat.le_refl _) _)
    have HA:=zz (dM (i:=0) HK.out G4.is HSH.out)
    rw [show ((0:Nat):Int)=0 from rfl] at HA
    unfold cfV at HA
    have HB4:=zz (HBI.out ⟨#[97,107]⟩ 2)
    have hnx:=hnx2
    clear hnx0 hnx1 hnx2 cI cI2 dI0 dI1 dI2 dI4 CC3 DD3 HBI G3 G4
    generalize w3.iter ⟨#[97,107]⟩ 2=w4 at*
    generalize w3.heap.size=itb at*
    obtain ⟨c0,c1,c2,c3,c4,c5,c6,c7,c8⟩:=cf9 C4
    have e0:=D4.cell 0
    have e1:=D4.cell 1
    have e2:=D4.cell 2
    have e3:=D4.cell 3
    have e4:=D4.cell 4
    have e5:=D4.cell 5
    simp at e0 e1 e2 e3 e4 e5
    have CC4:=zz C4
    have DD4:=zz D4
    clear C4 D4
    go_wp2_with fail
    with_reducible refine HA.out.mono ?_
    rintro e w5 ht
    obtain ⟨u,rfl,hst⟩:=told_st ht
    obtain ⟨x1,k1,rfl⟩:=hst.1.choose_spec.1.1.slice
    have hb:=hst.below
    have C5:=aK CC4.out hb
    have D5:=aK DD4.out hb
    have HB5:=HB4.out.trans (hb.mono HB4.out.size)
    have C6:=zz (C5.alloc (.cells #[.bool false,.slice x1 l.length k1] 55))
    have D6:=zz (D5.alloc (.cells #[.bool false,.slice x1 l.length k1] 55))
    have E6:=zz (Blk.new w5 #[.bool false,.slice x1 l.length k1] 55)
    have HB6:=zz (HB5.alloc HB5.size (.cells #[.bool false,.slice x1 l.length k1] 55))
    clear ht hst hb C5 D5 HB5 HA CC4 DD4 HB4 c0 c1 c2 c3 c4 c5 c6 c7 c8 e0 e1 e2 e3 e4 e5 hnx
    go_upto_region 21 with fail
    generalize w5.alloc _=w6 at*
    generalize w5.heap.size=sb at*
    have e0:=D6.out.cell 0
    have e1:=D6.out.cell 1
    have e2:=D6.out.cell 2
    have e3:=D6.out.cell 3
    have e4:=D6.out.cell 4
    have e5:=D6.out.cell 5
    have s0:=E6.out.cell 0
    have s1:=E6.out.cell 1
    simp at e0 e1 e2 e3 e4 e5 s0 s1
    go_wp2_with fail
    refine qz (op_size1 _ _ _ hl6) fun w7 hb=>?_
    have C7:=aK C6.out hb
    have D7:=aK D6.out hb
    have E7:=aK E6.out hb
    have HB7:=zz (HB6.out.trans (hb.mono HB6.out.size))
    clear e0 e1 e2 e3 e4 e5 s0 s1 C6 D6 E6 HB6 hb
    have g7:=zz (emp_goes w7).drew_
    have hne:Nonempty (In Emp (fun _=>False) w7):=⟨⟨_,g7.out⟩⟩
    have e0:∀ i:In Emp (fun _=>False) w7,i.w.cell? ⟨ob,0,none⟩=some (.int .i64 1):=fun i=>(aK D7 (bH i.h)).cell 0
    have e1:∀ i:In Emp (fun _=>False) w7,i.w.cell? ⟨ob,1,none⟩=some (.int .i64 A):=fun i=>(aK D7 (bH i.h)).cell 1
    have e2:∀ i:In Emp (fun _=>False) w7,i.w.cell? ⟨ob,2,none⟩=some (.int .i64 0):=fun i=>(aK D7 (bH i.h)).cell 2
    have e3:∀ i:In Emp (fun _=>False) w7,i.w.cell? ⟨ob,3,none⟩=some (.int .i64 C):=fun i=>(aK D7 (bH i.h)).cell 3
    have e4:∀ i:In Emp (fun _=>False) w7,i.w.cell? ⟨ob,4,none⟩=some (.int .i64 N):=fun i=>(aK D7 (bH i.h)).cell 4
    have e5:∀ i:In Emp (fun _=>False) w7,i.w.cell? ⟨ob,5,none⟩=some (.complex .f64 z1 z2):=fun i=>(aK D7 (bH i.h)).cell 5
    have s0:∀ i:In Emp (fun _=>False) w7,i.w.cell? ⟨sb,0,none⟩=some (.bool false):=fun i=>(aK E7 (bH i.h)).cell 0
    have s1:∀ i:In Emp (fun _=>False) w7,i.w.cell? ⟨sb,1,none⟩=some (.slice x1 l.length k1):=fun i=>(aK E7 (bH i.h)).cell 1
    have k0:∀ i:In Emp (fun _=>False) w7,i.w.cell? ⟨w.heap.size,0,none⟩=some (.int .i64 c.frags):=fun i=>(aK C7 (bH i.h)).cell 0
    have k1c:∀ i:In Emp (fun _=>False) w7,i.w.cell? ⟨w.heap.size,1,none⟩=some (.int .i64 c.spine):=fun i=>(aK C7 (bH i.h)).cell 1
    have HZ:=zz fun w1 (hg:aA Emp (fun _=>False) w7 w1)=>hg.plain (op_size1 (A:=(A:Int)) (B:=0) (C:=(C:Int)) (N:=(N:Int)) (z1:=z1) (z2:=z2) x1 k1 w1 hl6)
    have HP:=zz fun w1 (hg:aA Emp (fun _=>False) w7 w1)=>hg.plain (shape_spine x1 l.length k1 N w1 hl6)
    have hf1:decide ((c.frags:Int)<1)=false:=by have:=HK.out.frags;simp;omega
    have hf2:decide ((c.spine:Int)<0)=false:=by simp
    have hf3:¬((c.frags:Int)<1):=by have:=HK.out.frags;omega
    have hf4:¬c.frags<1:=by have:=HK.out.frags;omega
    have hf5:c.frags≠0:=by have:=HK.out.frags;omega
    clear C7 D7 E7
    go_wp2_with fail
    refine bL (by kernel_rfl) (by kernel_rfl) g7.out ?_
    repeat (go_big_quiet_step (first|exact In.call HZ.out|exact In.call HP.out))
    refine wpQuiet_nil ?_
    intro w8 g8
    have HF:=zz (HB7.out.trans ((bH g8).mono HB7.out.size))
    clear e0 e1 e2 e3 e4 e5 s0 s1 k0 k1c HZ HP g7 hne g8 HB7
    go_wp2_with fail
    go_ret
    exact ⟨rfl,HF.out⟩
end
end Go.Proofs.YtgcmiahhkalfmaaGreat
