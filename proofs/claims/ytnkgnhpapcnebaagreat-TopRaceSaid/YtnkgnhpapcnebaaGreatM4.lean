/- A shape of a configuration; sizes and places of shapes. -/
import Derived.Test.YtnkgnhpapcnebaaGreatM3
set_option linter.unusedVariables false
set_option linter.unusedSimpArgs false
set_option maxHeartbeats 8000000
namespace Go.Proofs.YtnkgnhpapcnebaaGreat
open Go.RowKit
section
variable {c : Cf} {g cap : Nat} {S : Nat → Prop} {w : World}
/-- A shape and true have been handed back. -/
def ShapeTold (s : Bool × List Bool) (w : World) (e : Ending) (w' : World) : Prop :=
  ∃ v', e = .returned (.tuple #[.agg #[.bool s.1, v'], .bool true]) ∧ Below w.heap.size w w' ∧ ∃ S', refsAt v' s.2 S' w' ∧ ∀ k, S' k → w.heap.size ≤ k ∧ k < w'.heap.size
set_option maxRecDepth 100000 in
theorem conf_shapeK {i : Nat} {s : Bool × List Bool} (hc : c.ok) (h : (Conf c g cap).at_ S w) (hs : c.shapes[i]? = some s) :
    Calls Tryz.prog 125 #[cfV c g cap, .int .i64 (i : Int)] w (ShapeTold s w) := by
  have hi : i < c.shapes.length := (List.getElem?_eq_some_iff.1 hs).1
  have hl := hc.shapes.2
  have hb0 : Below w.heap.size w ((w.alloc (.cells (cfCells c (.slice (some ⟨g, 0, none⟩) c.shapes.length cap)) 36)).alloc (.cells #[.bool false, .slice none 0 0] 57)) := ((Below.refl w.heap.size w).alloc (Nat.le_refl _) _).alloc (by simp) _
  have C0 : Blk ((w.alloc (.cells (cfCells c (.slice (some ⟨g, 0, none⟩) c.shapes.length cap)) 36)).alloc (.cells #[.bool false, .slice none 0 0] 57)) w.heap.size (cfCells c (.slice (some ⟨g, 0, none⟩) c.shapes.length cap)) 36 := (Blk.new w _ _).alloc _
  have D0 : Blk ((w.alloc (.cells (cfCells c (.slice (some ⟨g, 0, none⟩) c.shapes.length cap)) 36)).alloc (.cells #[.bool false, .slice none 0 0] 57)) (w.heap.size + 1) #[.bool false, .slice none 0 0] 57 := by have := Blk.new (w.alloc (.cells (cfCells c (.slice (some ⟨g, 0, none⟩) c.shapes.length cap)) 36)) #[.bool false, .slice none 0 0] 57; rw [World.size_alloc] at this; exact this
  have h1 := keep h hb0
  obtain ⟨u, c1, c2, hr⟩ := conf_shape h1 hs
  obtain ⟨x, k, rfl⟩ := hr.slice
  have hS := (Conf c g cap).lt h1
  have HC := Lib.hid (conf_copied (a := s.1) hr hS (by have := (hc.shape s (List.mem_of_getElem? hs)).1; omega))
  have HB0 := Lib.hid hb0
  have HD0 := Lib.hid D0
  have HHS := Lib.hid hs
  have c8 := C0.cell 8
  unfold cfV
  simp only [cfCells] at *
  clear h hc hb0 C0 D0 hs hr hS h1
  generalize c.shapes.length = nsh at *
  obtain ⟨sa, sl⟩ := s
  simp only at *
  generalize hsl : sl.length = m at *
  have HSL := Lib.hid hsl
  clear hsl
  go_enter Tryz.func125, Tryz.ntmps125
  go_upto_region 1 with fail
  generalize (w.alloc _).alloc _ = W1 at *
  go_wp2_with fail
  with_reducible refine HC.out.mono ?_
  rintro e w9 ⟨v9, rfl, hb9, S9, hr9, hs9⟩
  obtain ⟨x9, k9, rfl⟩ := hr9.slice
  have D9 := keepBlk HD0.out hb9
  have d0 := D9.cell 0
  have d1 := D9.cell 1
  have f0 := D9.free 0
  have f1 := D9.free 1
  simp at d0 d1
  have F9 := Blk.fill D9 [.bool sa, .slice x9 sl.length k9] rfl
  have hlt9 := HD0.out.lt
  have hn9 : ∀ j, S9 j → j ≠ w.heap.size + 1 := fun j hj => by have := (hs9 j hj).1; omega
  have B9 : Below w.heap.size w (setCells w9 (w.heap.size + 1) 0 [.bool sa, .slice x9 sl.length k9]) := setCells_below (by omega) _ _ _ (HB0.out.trans (hb9.mono HB0.out.size))
  have R9 : refsAt (.slice x9 sl.length k9) sl S9 (setCells w9 (w.heap.size + 1) 0 [.bool sa, .slice x9 sl.length k9]) := hr9.kept fun j hj => setCells_far (hn9 j hj) _ _ _
  have L9 : ∀ j, S9 j → w.heap.size ≤ j ∧ j < (setCells w9 (w.heap.size + 1) 0 [.bool sa, .slice x9 sl.length k9]).heap.size := fun j hj => ⟨by have := (hs9 j hj).1; omega, by rw [setCells_size]; exact (hs9 j hj).2⟩
  have HB := Lib.hid B9
  have HR := Lib.hid R9
  have HL := Lib.hid L9
  have e0 := F9.cell 0
  have e1 := F9.cell 1
  simp only [setCells] at *
  simp at e0 e1
  clear D9 F9 B9 R9 L9 hr9 hs9 hb9 HC HB0 HD0 hlt9 hn9 c1 c2 c8
  go_wp2_with fail
  exact bodyPost_ret (v := .tuple #[.agg #[.bool sa, .slice x9 sl.length k9], .bool true]) (by simp [results, Tryz.results125, go_sem, e0, e1]) rfl ⟨_, rfl, HB.out, S9, HR.out, HL.out⟩
set_option maxRecDepth 100000 in
theorem shape_size (x : Option Addr) (n cap : Nat) (w : World) (hn : n ≤ 6) : Calls Tryz.prog 198 #[.agg #[.bool false, .slice x n cap], .int .i64 0] w fun e w' => e = .returned (.int .i64 1) ∧ Below w.heap.size w w' := by
  have hb0 : Below w.heap.size w (w.alloc (.cells #[.bool false, .slice x n cap] 57)) := (Below.refl w.heap.size w).alloc (Nat.le_refl _) _
  have HB := Lib.hid hb0
  have HM := Lib.hid (fun w => shape_may false x n cap w (by omega) (by simp))
  have C0 := Lib.hid (Blk.new w #[.bool false, .slice x n cap] 57)
  clear hb0
  go_enter Tryz.func198, Tryz.ntmps198
  go_wp2_with fail
  with_reducible refine (HM.out _).mono ?_
  rintro e w1 ⟨rfl, hb⟩
  have C1 := keepBlk C0.out hb
  have c0 := C1.cell 0
  simp at c0
  have HB1 := Lib.hid (HB.out.trans (hb.mono HB.out.size))
  clear C1 C0 HB hb HM
  go_wp2_with fail
  go_ret
  exact ⟨rfl, HB1.out⟩
set_option maxRecDepth 100000 in
theorem shape_spine (x : Option Addr) (n cap : Nat) (k : Int) (w : World) (hn : n ≤ 6) : Calls Tryz.prog 230 #[.agg #[.bool false, .slice x n cap], .int .i64 k] w fun e w' => e = .returned (.int .i64 0) ∧ Below w.heap.size w w' := by
  have hb0 : Below w.heap.size w (w.alloc (.cells #[.bool false, .slice x n cap] 57)) := (Below.refl w.heap.size w).alloc (Nat.le_refl _) _
  have HB := Lib.hid hb0
  have HM := Lib.hid (fun w => shape_may false x n cap w (by omega) (by simp))
  have C0 := Lib.hid (Blk.new w #[.bool false, .slice x n cap] 57)
  clear hb0
  go_enter Tryz.func230, Tryz.ntmps230
  go_wp2_with fail
  with_reducible refine (HM.out _).mono ?_
  rintro e w1 ⟨rfl, hb⟩
  have C1 := keepBlk C0.out hb
  have c0 := C1.cell 0
  simp at c0
  have HB1 := Lib.hid (HB.out.trans (hb.mono HB.out.size))
  clear C1 C0 HB hb HM
  go_wp2_with fail
  go_ret
  exact ⟨rfl, HB1.out⟩
set_option maxRecDepth 100000 in
theorem shape_place (x : Option Addr) (n cap k : Nat) (w : World) (hn : n ≤ 6) (hk : k < n) : Calls Tryz.prog 199 #[.agg #[.bool false, .slice x n cap], .int .i64 (k : Int)] w fun e w' => e = .returned (.tuple #[.int .i64 0, .int .i64 (2 + (k : Int)), .bool true]) ∧ Below w.heap.size w w' := by
  have hb0 : Below w.heap.size w (w.alloc (.cells #[.bool false, .slice x n cap] 57)) := (Below.refl w.heap.size w).alloc (Nat.le_refl _) _
  have HB := Lib.hid hb0
  have HM := Lib.hid (fun w => shape_may false x n cap w (by omega) (by simp))
  have C0 := Lib.hid (Blk.new w #[.bool false, .slice x n cap] 57)
  have hd : decide (n ≤ k) = false := by simp; omega
  clear hb0
  go_enter Tryz.func199, Tryz.ntmps199
  go_wp2_with fail
  with_reducible refine (HM.out _).mono ?_
  rintro e w1 ⟨rfl, hb⟩
  have C1 := keepBlk C0.out hb
  have c0 := C1.cell 0
  have c1 := C1.cell 1
  simp at c0 c1
  have HB1 := Lib.hid (HB.out.trans (hb.mono HB.out.size))
  clear C1 C0 HB hb HM
  go_wp2_with fail
  go_ret3
  exact ⟨rfl, HB1.out⟩
end
end Go.Proofs.YtnkgnhpapcnebaaGreat
/- The contracts of package area. -/
namespace Go.Proofs.YtnkgnhpapcnebaaGreat
open Go.RowKit
section
variable {c : Cf} {g cap : Nat} {S : Nat → Prop} {w : World}
set_option maxRecDepth 100000 in
theorem cf9 {c : Cf} {v : Value} {b : Nat} {w : World} (h : Blk w b (cfCells c v) 36) :
    w.cell? ⟨b, 0, none⟩ = some (.int .i64 c.frags) ∧ w.cell? ⟨b, 1, none⟩ = some (.int .i64 c.spine) ∧ w.cell? ⟨b, 2, none⟩ = some (.int .i64 c.globals) ∧ w.cell? ⟨b, 3, none⟩ = some (.int .i64 c.threads) ∧
    w.cell? ⟨b, 4, none⟩ = some (.int .i64 c.locals) ∧ w.cell? ⟨b, 5, none⟩ = some (.int .i64 0) ∧ w.cell? ⟨b, 6, none⟩ = some (.int .i64 c.stack) ∧ w.cell? ⟨b, 7, none⟩ = some (.int .i64 c.low) ∧ w.cell? ⟨b, 8, none⟩ = some v :=
  ⟨h.cell 0, h.cell 1, h.cell 2, h.cell 3, h.cell 4, h.cell 5, h.cell 6, h.cell 7, h.cell 8⟩
def szV (c : Cf) : Value := .agg #[.int .i64 ((c.frags : Int) * 8), .int .i64 c.spine, .int .i64 c.spine, .int .i64 c.globals]
set_option maxRecDepth 100000 in
theorem area_sizes (hc : c.ok) (h : (Conf c g cap).at_ S w) : Calls Tryz.prog 69 #[cfV c g cap] w fun e w' => e = .returned (szV c) ∧ Below w.heap.size w w' := by
  have hb0 : Below w.heap.size w ((w.alloc (.cells (cfCells c (.slice (some ⟨g, 0, none⟩) c.shapes.length cap)) 36)).alloc (.cells #[.int .i64 0, .int .i64 0, .int .i64 0, .int .i64 0] 145)) := ((Below.refl w.heap.size w).alloc (Nat.le_refl _) _).alloc (by simp) _
  have C0 : Blk ((w.alloc (.cells (cfCells c (.slice (some ⟨g, 0, none⟩) c.shapes.length cap)) 36)).alloc (.cells #[.int .i64 0, .int .i64 0, .int .i64 0, .int .i64 0] 145)) w.heap.size (cfCells c (.slice (some ⟨g, 0, none⟩) c.shapes.length cap)) 36 := (Blk.new w _ _).alloc _
  have D0 : Blk ((w.alloc (.cells (cfCells c (.slice (some ⟨g, 0, none⟩) c.shapes.length cap)) 36)).alloc (.cells #[.int .i64 0, .int .i64 0, .int .i64 0, .int .i64 0] 145)) (w.heap.size + 1) #[.int .i64 0, .int .i64 0, .int .i64 0, .int .i64 0] 145 := by have := Blk.new (w.alloc (.cells (cfCells c (.slice (some ⟨g, 0, none⟩) c.shapes.length cap)) 36)) #[.int .i64 0, .int .i64 0, .int .i64 0, .int .i64 0] 145; rw [World.size_alloc] at this; exact this
  have HB0 := Lib.hid hb0
  have HC0 := Lib.hid C0
  have HD0 := Lib.hid D0
  have HK := Lib.hid (conf_check hc (keep h hb0))
  have a1 := hc.frags
  unfold cfV at *
  unfold szV
  simp only [cfCells] at *
  clear h hc hb0 D0
  go_enter Tryz.func69, Tryz.ntmps69
  go_upto_region 1 with fail
  generalize (w.alloc _).alloc _ = W1 at *
  obtain ⟨c0, c1, c2, c3, c4, c5, c6, c7, c8⟩ := cf9 C0
  clear C0
  go_wp2_with fail
  with_reducible refine (HK.out).mono ?_
  rintro e w9 ⟨rfl, hb⟩
  have D9 := keepBlk HD0.out hb
  have B9 := HB0.out.trans (hb.mono HB0.out.size)
  have hB1 : w.heap.size ≤ w.heap.size + 1 := by omega
  have f0 := D9.free 0
  have f1 := D9.free 1
  have f2 := D9.free 2
  have f3 := D9.free 3
  have d0 := D9.cell 0
  have d1 := D9.cell 1
  have d2 := D9.cell 2
  have d3 := D9.cell 3
  simp at d0 d1 d2 d3
  obtain ⟨e0, e1, e2, e3, e4, e5, e6, e7, e8⟩ := cf9 (keepBlk HC0.out hb)
  have F9 := Blk.fill D9 [.int .i64 ((c.frags : Int) * 8), .int .i64 c.spine, .int .i64 c.spine, .int .i64 c.globals] rfl
  have B10 := Lib.hid (setCells_below (a := w) hB1 [.int .i64 ((c.frags : Int) * 8), .int .i64 c.spine, .int .i64 c.spine, .int .i64 c.globals] w9 0 B9)
  have g0 := F9.cell 0
  have g1 := F9.cell 1
  have g2 := F9.cell 2
  have g3 := F9.cell 3
  simp only [setCells] at *
  simp at g0 g1 g2 g3
  clear c0 c1 c2 c3 c4 c5 c6 c7 c8 hb HK D9 B9 HB0 HC0 HD0 F9 hB1
  go_wp2_with fail
  exact bodyPost_ret (v := .agg #[.int .i64 ((c.frags : Int) * 8), .int .i64 c.spine, .int .i64 c.spine, .int .i64 c.globals]) (by simp [results, Tryz.results69, go_sem, g0, g1, g2, g3]) rfl ⟨rfl, B10.out⟩
set_option maxRecDepth 100000 in
theorem area_at1 (k : Nat) (hc : c.ok) (h : (Conf c g cap).at_ S w) (hk : (k : Int) < (c.frags : Int) * 8) : Calls Tryz.prog 77 #[cfV c g cap, .int .i64 1, .int .i64 (k : Int)] w fun e w' => e = .returned (.tuple #[.int .i64 k, .int .i64 0]) ∧ Below w.heap.size w w' := by
  have hb0 : Below w.heap.size w (w.alloc (.cells (cfCells c (.slice (some ⟨g, 0, none⟩) c.shapes.length cap)) 36)) := (Below.refl w.heap.size w).alloc (Nat.le_refl _) _
  have C0 : Blk (w.alloc (.cells (cfCells c (.slice (some ⟨g, 0, none⟩) c.shapes.length cap)) 36)) w.heap.size (cfCells c (.slice (some ⟨g, 0, none⟩) c.shapes.length cap)) 36 := Blk.new w _ _
  have HB0 := Lib.hid hb0
  have HC0 := Lib.hid C0
  have HK := Lib.hid (fun w' hb => area_sizes hc (keep (w' := w') h hb))
  have a1 := hc.frags
  have a2 := hc.spine
  have a3 := hc.globals
  unfold cfV szV at *
  simp only [cfCells] at *
  clear h hc hb0
  go_enter Tryz.func77, Tryz.ntmps77
  go_upto_region 1 with fail
  generalize w.alloc _ = W1 at *
  obtain ⟨c0, c1, c2, c3, c4, c5, c6, c7, c8⟩ := cf9 C0
  clear C0
  go_wp2_with fail
  with_reducible refine (HK.out _ HB0.out).mono ?_
  rintro e w9 ⟨rfl, hb⟩
  have B9 := Lib.hid (HB0.out.trans (hb.mono HB0.out.size))
  clear c0 c1 c2 c3 c4 c5 c6 c7 c8 hb HK HB0 HC0
  have D := Blk.new w9 #[.int .i64 ((c.frags : Int) * 8), .int .i64 c.spine, .int .i64 c.spine, .int .i64 c.globals] 145
  have B10 := Lib.hid (B9.out.alloc B9.out.size (.cells #[.int .i64 ((c.frags : Int) * 8), .int .i64 c.spine, .int .i64 c.spine, .int .i64 c.globals] 145))
  go_upto_region 2 with fail
  have d0 := D.cell 0
  generalize World.alloc _ _ = w10 at *
  simp at d0
  clear D
  go_wp2_with fail
  go_loop [2, 10, 27] (fun u _ i => u = .int .i64 k ∧ i = .int .i64 0) (fun _ _ i => 4 - (intOf i).toNat)
  case atStart => exact ⟨rfl, rfl⟩
  case round =>
    obtain ⟨rfl, rfl⟩ := hrel
    go_wp2_with fail
    go_ret2
    exact ⟨rfl, B10.out⟩
set_option maxRecDepth 100000 in
theorem area_at4 (k : Nat) (hc : c.ok) (h : (Conf c g cap).at_ S w) (hk : (k : Int) < (c.globals : Int)) : Calls Tryz.prog 77 #[cfV c g cap, .int .i64 4, .int .i64 (k : Int)] w fun e w' => e = .returned (.tuple #[.int .i64 ((k : Int) + (c.frags : Int) * 8 + c.spine + c.spine), .int .i64 0]) ∧ Below w.heap.size w w' := by
  have hb0 : Below w.heap.size w (w.alloc (.cells (cfCells c (.slice (some ⟨g, 0, none⟩) c.shapes.length cap)) 36)) := (Below.refl w.heap.size w).alloc (Nat.le_refl _) _
  have C0 : Blk (w.alloc (.cells (cfCells c (.slice (some ⟨g, 0, none⟩) c.shapes.length cap)) 36)) w.heap.size (cfCells c (.slice (some ⟨g, 0, none⟩) c.shapes.length cap)) 36 := Blk.new w _ _
  have HB0 := Lib.hid hb0
  have HC0 := Lib.hid C0
  have HK := Lib.hid (fun w' hb => area_sizes hc (keep (w' := w') h hb))
  have a1 := hc.frags
  have a2 := hc.spine
  have a3 := hc.globals
  unfold cfV szV at *
  simp only [cfCells] at *
  clear h hc hb0
  go_enter Tryz.func77, Tryz.ntmps77
  go_upto_region 1 with fail
  generalize w.alloc _ = W1 at *
  obtain ⟨c0, c1, c2, c3, c4, c5, c6, c7, c8⟩ := cf9 C0
  clear C0
  go_wp2_with fail
  with_reducible refine (HK.out _ HB0.out).mono ?_
  rintro e w9 ⟨rfl, hb⟩
  have B9 := Lib.hid (HB0.out.trans (hb.mono HB0.out.size))
  clear c0 c1 c2 c3 c4 c5 c6 c7 c8 hb HK HB0 HC0
  have D := Blk.new w9 #[.int .i64 ((c.frags : Int) * 8), .int .i64 c.spine, .int .i64 c.spine, .int .i64 c.globals] 145
  have B10 := Lib.hid (B9.out.alloc B9.out.size (.cells #[.int .i64 ((c.frags : Int) * 8), .int .i64 c.spine, .int .i64 c.spine, .int .i64 c.globals] 145))
  go_upto_region 2 with fail
  have d0 := D.cell 0
  have d1 := D.cell 1
  have d2 := D.cell 2
  have d3 := D.cell 3
  generalize World.alloc _ _ = w10 at *
  simp at d0 d1 d2 d3
  clear D
  go_wp2_with fail
  go_loop [2, 10, 27] (fun u _ i => (u = .int .i64 k ∧ i = .int .i64 0) ∨ (u = .int .i64 ((k : Int) + (c.frags : Int) * 8) ∧ i = .int .i64 1) ∨ (u = .int .i64 ((k : Int) + (c.frags : Int) * 8 + c.spine) ∧ i = .int .i64 2) ∨ (u = .int .i64 ((k : Int) + (c.frags : Int) * 8 + c.spine + c.spine) ∧ i = .int .i64 3)) (fun _ _ i => 4 - (intOf i).toNat)
  case atStart => exact .inl ⟨rfl, rfl⟩
  case round =>
    rcases hrel with ⟨rfl, rfl⟩ | ⟨rfl, rfl⟩ | ⟨rfl, rfl⟩ | ⟨rfl, rfl⟩
    · go_wp2_with fail
      go_round
      case rel => exact .inr (.inl ⟨rfl, rfl⟩)
      case measure => simp [intOf]
    · go_wp2_with fail
      go_round
      case rel => exact .inr (.inr (.inl ⟨rfl, rfl⟩))
      case measure => simp [intOf]
    · go_wp2_with fail
      go_round
      case rel => exact .inr (.inr (.inr ⟨rfl, rfl⟩))
      case measure => simp [intOf]
    · go_wp2_with fail
      go_ret2
      exact ⟨rfl, B10.out⟩
end
end Go.Proofs.YtnkgnhpapcnebaaGreat
/- More of package area. -/
namespace Go.Proofs.YtnkgnhpapcnebaaGreat
open Go.RowKit
section
variable {c : Cf} {g cap : Nat} {S : Nat → Prop} {w : World}
set_option maxRecDepth 100000 in
theorem area_frag (i k : Nat) (hc : c.ok) (h : (Conf c g cap).at_ S w) (hi : i < c.frags) (hk : k < 8) : Calls Tryz.prog 193 #[cfV c g cap, .int .i64 (i : Int), .int .i64 (k : Int)] w fun e w' => e = .returned (.tuple #[.int .i64 ((i * 8 + k : Nat) : Int), .int .i64 0]) ∧ Below w.heap.size w w' := by
  have hb0 : Below w.heap.size w (w.alloc (.cells (cfCells c (.slice (some ⟨g, 0, none⟩) c.shapes.length cap)) 36)) := (Below.refl w.heap.size w).alloc (Nat.le_refl _) _
  have C0 : Blk (w.alloc (.cells (cfCells c (.slice (some ⟨g, 0, none⟩) c.shapes.length cap)) 36)) w.heap.size (cfCells c (.slice (some ⟨g, 0, none⟩) c.shapes.length cap)) 36 := Blk.new w _ _
  have HB0 := Lib.hid hb0
  have HC0 := Lib.hid C0
  have HK := Lib.hid (fun w' hb => conf_check hc (keep (w' := w') h hb))
  have a1 := hc.frags
  have a2 := hc.spine
  have a3 := hc.globals
  have a4 : ((c.frags : Int) * 8) ≤ 8192 := by omega
  have HA := Lib.hid (fun w' hb => area_at1 (i * 8 + k) hc (keep (w' := w') h hb) (by omega))
  (try unfold cfV szV at *)
  (try unfold cfV at *)
  simp only [cfCells] at *
  clear h hc hb0
  rw [show (((i * 8 + k : Nat)) : Int) = (i : Int) * 8 + k by omega] at *
  have d1 : decide (c.frags ≤ i) = false := by simp; omega
  have i2 : (i : Int) < c.frags := by omega
  have i3 : (k : Int) < 8 := by omega
  have i4 : (i : Int) ≤ 1024 := by omega
  clear hi hk
  go_enter Tryz.func193, Tryz.ntmps193
  go_upto_region 1 with fail
  generalize w.alloc _ = W1 at *
  obtain ⟨c0, c1, c2, c3, c4, c5, c6, c7, c8⟩ := cf9 C0
  clear C0
  go_wp2_with fail
  with_reducible refine (HK.out _ HB0.out).mono ?_
  rintro e w9 ⟨rfl, hb⟩
  have B9 := Lib.hid (HB0.out.trans (hb.mono HB0.out.size))
  have C9 := keepBlk HC0.out hb
  clear c0 c1 c2 c3 c4 c5 c6 c7 c8 hb HK HB0 HC0
  obtain ⟨c0, c1, c2, c3, c4, c5, c6, c7, c8⟩ := cf9 C9
  clear C9
  go_wp2_with fail
  with_reducible refine (HA.out _ B9.out).mono ?_
  rintro e w10 ⟨rfl, hb⟩
  have B10 := Lib.hid (B9.out.trans (hb.mono B9.out.size))
  clear c0 c1 c2 c3 c4 c5 c6 c7 c8 hb HA B9
  go_wp2_with fail
  go_ret2
  exact ⟨rfl, B10.out⟩
set_option maxRecDepth 100000 in
theorem area_global (k : Nat) (hc : c.ok) (h : (Conf c g cap).at_ S w) (hk : k < c.globals) : Calls Tryz.prog 36 #[cfV c g cap, .int .i64 (k : Int)] w fun e w' => e = .returned (.tuple #[.int .i64 ((k : Int) + (c.frags : Int) * 8 + c.spine + c.spine), .int .i64 0]) ∧ Below w.heap.size w w' := by
  have hb0 : Below w.heap.size w (w.alloc (.cells (cfCells c (.slice (some ⟨g, 0, none⟩) c.shapes.length cap)) 36)) := (Below.refl w.heap.size w).alloc (Nat.le_refl _) _
  have C0 : Blk (w.alloc (.cells (cfCells c (.slice (some ⟨g, 0, none⟩) c.shapes.length cap)) 36)) w.heap.size (cfCells c (.slice (some ⟨g, 0, none⟩) c.shapes.length cap)) 36 := Blk.new w _ _
  have HB0 := Lib.hid hb0
  have HC0 := Lib.hid C0
  have HK := Lib.hid (fun w' hb => area_at4 k hc (keep (w' := w') h hb) (by omega))
  have a1 := hc.frags
  have a2 := hc.spine
  have a3 := hc.globals
  have a4 : ((c.frags : Int) * 8) ≤ 8192 := by omega
  (try unfold cfV szV at *)
  (try unfold cfV at *)
  simp only [cfCells] at *
  clear h hc hb0
  go_enter Tryz.func36, Tryz.ntmps36
  go_upto_region 1 with fail
  generalize w.alloc _ = W1 at *
  obtain ⟨c0, c1, c2, c3, c4, c5, c6, c7, c8⟩ := cf9 C0
  clear C0
  go_wp2_with fail
  with_reducible refine (HK.out _ HB0.out).mono ?_
  rintro e w10 ⟨rfl, hb⟩
  have B10 := Lib.hid (HB0.out.trans (hb.mono HB0.out.size))
  clear c0 c1 c2 c3 c4 c5 c6 c7 c8 hb HK HB0 HC0
  go_wp2_with fail
  go_ret2
  exact ⟨rfl, B10.out⟩
set_option maxRecDepth 100000 in
theorem area_words (hc : c.ok) (h : (Conf c g cap).at_ S w) : Calls Tryz.prog 31 #[cfV c g cap] w fun e w' => e = .returned (.int .i64 ((c.frags : Int) * 8 + c.spine + c.spine + c.globals)) ∧ Below w.heap.size w w' := by
  have hb0 : Below w.heap.size w (w.alloc (.cells (cfCells c (.slice (some ⟨g, 0, none⟩) c.shapes.length cap)) 36)) := (Below.refl w.heap.size w).alloc (Nat.le_refl _) _
  have C0 : Blk (w.alloc (.cells (cfCells c (.slice (some ⟨g, 0, none⟩) c.shapes.length cap)) 36)) w.heap.size (cfCells c (.slice (some ⟨g, 0, none⟩) c.shapes.length cap)) 36 := Blk.new w _ _
  have HB0 := Lib.hid hb0
  have HC0 := Lib.hid C0
  have HK := Lib.hid (fun w' hb => area_sizes hc (keep (w' := w') h hb))
  have a1 := hc.frags
  have a2 := hc.spine
  have a3 := hc.globals
  have a4 : ((c.frags : Int) * 8) ≤ 8192 := by omega
  (try unfold cfV szV at *)
  (try unfold cfV at *)
  simp only [cfCells] at *
  clear h hc hb0
  have k0 : ∀ (x0 x1 x2 x3 : Value) w, (Instr.index 145 (.agg #[x0, x1, x2, x3]) (.int .i64 0)).run Tryz.prog w = .ok x0 w := fun _ _ _ _ _ => by kernel_rfl
  have k1 : ∀ (x0 x1 x2 x3 : Value) w, (Instr.index 145 (.agg #[x0, x1, x2, x3]) (.int .i64 1)).run Tryz.prog w = .ok x1 w := fun _ _ _ _ _ => by kernel_rfl
  have k2 : ∀ (x0 x1 x2 x3 : Value) w, (Instr.index 145 (.agg #[x0, x1, x2, x3]) (.int .i64 2)).run Tryz.prog w = .ok x2 w := fun _ _ _ _ _ => by kernel_rfl
  have k3 : ∀ (x0 x1 x2 x3 : Value) w, (Instr.index 145 (.agg #[x0, x1, x2, x3]) (.int .i64 3)).run Tryz.prog w = .ok x3 w := fun _ _ _ _ _ => by kernel_rfl
  go_enter Tryz.func31, Tryz.ntmps31
  go_upto_region 1 with fail
  generalize w.alloc _ = W1 at *
  obtain ⟨c0, c1, c2, c3, c4, c5, c6, c7, c8⟩ := cf9 C0
  clear C0
  go_wp2_with fail
  with_reducible refine (HK.out _ HB0.out).mono ?_
  rintro e w9 ⟨rfl, hb⟩
  have B9 := Lib.hid (HB0.out.trans (hb.mono HB0.out.size))
  clear c0 c1 c2 c3 c4 c5 c6 c7 c8 hb HK HB0 HC0
  go_wp2_with fail
  go_loop [3, 5, 8] (fun u _ i => (u = .int .i64 0 ∧ i = .int .i64 0) ∨ (u = .int .i64 ((c.frags : Int) * 8) ∧ i = .int .i64 1) ∨ (u = .int .i64 ((c.frags : Int) * 8 + c.spine) ∧ i = .int .i64 2) ∨ (u = .int .i64 ((c.frags : Int) * 8 + c.spine + c.spine) ∧ i = .int .i64 3) ∨ (u = .int .i64 ((c.frags : Int) * 8 + c.spine + c.spine + c.globals) ∧ i = .int .i64 4)) (fun _ _ i => 4 - (intOf i).toNat)
  case atStart => exact .inl ⟨rfl, rfl⟩
  case round =>
    rcases hrel with ⟨rfl, rfl⟩ | ⟨rfl, rfl⟩ | ⟨rfl, rfl⟩ | ⟨rfl, rfl⟩ | ⟨rfl, rfl⟩
    · go_wp2_with fail
      go_round
      case rel => exact .inr (.inl ⟨by go_num, rfl⟩)
      case measure => simp [intOf]
    · go_wp2_with fail
      go_round
      case rel => exact .inr (.inr (.inl ⟨rfl, rfl⟩))
      case measure => simp [intOf]
    · go_wp2_with fail
      go_round
      case rel => exact .inr (.inr (.inr (.inl ⟨rfl, rfl⟩)))
      case measure => simp [intOf]
    · go_wp2_with fail
      go_round
      case rel => exact .inr (.inr (.inr (.inr ⟨rfl, rfl⟩)))
      case measure => simp [intOf]
    · go_wp2_with fail
      go_ret
      exact ⟨rfl, B9.out⟩
end
end Go.Proofs.YtnkgnhpapcnebaaGreat
/- The contracts of package mem. -/
namespace Go.Proofs.YtnkgnhpapcnebaaGreat
open Go.RowKit
set_option maxRecDepth 100000 in
theorem run_store_complex {P : Program} {w : World} {a : Addr} {m : Mode} (x y : Nat) : (store a (.complex .f64 x y) m).run P w = stored P w a (.complex .f64 x y) m := run_store P w a _ m rfl
attribute [local go_sem] run_store_complex
/-- A block that holds a row of values. -/
def valsAt (q n : Nat) (t : TypeId) (m : Nat → Value) (S : Nat → Prop) (w : World) : Prop := ∃ cs : Array Value, Blk w q cs t ∧ cs.size = n ∧ (∀ j, j < n → cs[j]? = some (m j)) ∧ S q ∧ ∀ k, S k → k = q
def Vals (q n : Nat) (t : TypeId) (m : Nat → Value) : Thing where
  at_ := valsAt q n t m
  lt := fun ⟨_, h1, _, _, _, h3⟩ k hk => by rw [h3 k hk]; exact h1.lt
  kept := fun ⟨cs, h1, a, b, h2, h3⟩ hk _ => ⟨cs, by unfold Blk at *; rw [hk q h2]; exact h1, a, b, h2, h3⟩
def setV (m : Nat → Value) (j : Nat) (x : Value) : Nat → Value := fun k => if k = j then x else m k
set_option maxRecDepth 100000 in
theorem vals_set {q n : Nat} {t : TypeId} {m : Nat → Value} {S : Nat → Prop} {w : World} (h : (Vals q n t m).at_ S w) (j : Nat) (x : Value) : Goes (Vals q n t (setV m j x)) S w (w.setCell ⟨q, j, none⟩ x) := by
  obtain ⟨cs, h1, h2, h3, h4, h5⟩ := h
  refine ⟨⟨S, ⟨_, h1.set j x, by simpa using h2, fun k hk => ?_, h4, h5⟩, fun _ h => .inl h⟩, (Turned.refl S w).setCell (.inl h4) _⟩
  by_cases e : k = j
  · subst e; simp [setV, h2, hk]
  · rw [Array.getElem?_setIfInBounds_ne (by omega)]; simp only [setV, e, if_false]; exact h3 k hk
set_option maxRecDepth 100000 in
theorem vals_cell {q n : Nat} {t : TypeId} {m : Nat → Value} {S : Nat → Prop} {w : World} (h : (Vals q n t m).at_ S w) {j : Nat} (hj : j < n) : w.cell? ⟨q, j, none⟩ = some (m j) := by
  obtain ⟨cs, h1, h2, h3, _⟩ := h
  rw [h1.cell]; exact h3 j hj
set_option maxRecDepth 100000 in
theorem vals_free {q n : Nat} {t : TypeId} {m : Nat → Value} {S : Nat → Prop} {w : World} (h : (Vals q n t m).at_ S w) (j : Nat) : w.frozen? ⟨q, j, none⟩ = false := by
  obtain ⟨cs, h1, _⟩ := h
  exact h1.free j
/-- The memory: its words. -/
def Mem (b g n : Nat) (m : Nat → Value) : Thing := Ex fun ct : Int => Sep (Var b #[.slice (some ⟨g, 0, none⟩) n n, .int .i64 ct] 144) (Vals g n 24 m)
section
variable {b g n : Nat} {m : Nat → Value} {S : Nat → Prop} {w : World} {ct : Int}
set_option maxRecDepth 100000 in
theorem mem_has {ct : Int} (k : Nat) (h : Blk w b #[.slice (some ⟨g, 0, none⟩) n n, .int .i64 ct] 144) (hk : k < n) (hn : n ≤ 20000) : Calls Tryz.prog 78 #[.pointer (some ⟨b, 0, none⟩), .int .i64 (k : Int)] w fun e w' => e = .returned (.bool true) ∧ w = w' := by
  have c0 := h.cell 0
  simp at c0
  clear h
  go_enter Tryz.func78, Tryz.ntmps78
  go_wp2_with fail
  go_ret
  exact ⟨rfl, rfl⟩
set_option maxRecDepth 100000 in
theorem goesBlk {cs : Array Value} {t : TypeId} {X : Thing} {w' : World} (h : Goes (Sep (Var b cs t) X) S w w') : Blk w' b cs t := by
  obtain ⟨⟨_, ⟨_, _, h, _⟩, _⟩, _⟩ := h; exact h.1
set_option maxRecDepth 100000 in
theorem goesVal {t : TypeId} {w' : World} (h : Goes (Vals g n t m) S w w') {j : Nat} (hj : j < n) : w'.cell? ⟨g, j, none⟩ = some (m j) := vals_cell h.now.choose_spec.1 hj
set_option maxRecDepth 100000 in
theorem goesValFree {t : TypeId} {w' : World} (h : Goes (Vals g n t m) S w w') (j : Nat) : w'.frozen? ⟨g, j, none⟩ = false := vals_free h.now.choose_spec.1 j
set_option maxRecDepth 100000 in
theorem mem_read (k : Nat) (h : (Mem b g n m).at_ S w) (hk : k < n) (hn : n ≤ 20000) :
    Calls Tryz.prog 86 #[.pointer (some ⟨b, 0, none⟩), .int .i64 (k : Int)] w fun e w' => e = .returned (.tuple #[m k, .int .i64 0]) ∧ Goes (Mem b g n m) S w w' := by
  obtain ⟨ct, h⟩ := h
  have g0 := Goes.begin h
  have c1 := g0.c 1 rfl
  have f1 := g0.fr 1
  have g1 := g0.put 1 (.int .i64 (wrap64 (ct + 1))) rfl
  have H1 := Lib.hid (mem_has k (goesBlk g1) hk hn)
  have d0 := g1.c 0 rfl
  have d1 := goesVal g1.r hk
  have HG := Lib.hid g1
  clear g0 g1 h
  generalize m k = v at *
  go_enter Tryz.func86, Tryz.ntmps86
  go_wp2_with fail
  with_reducible refine H1.out.mono ?_
  rintro e w' ⟨rfl, rfl⟩
  go_wp2_with fail
  go_ret2
  exact ⟨rfl, HG.out.ex (T := fun ct : Int => Sep (Var b #[.slice (some ⟨g, 0, none⟩) n n, .int .i64 ct] 144) (Vals g n 24 m))⟩
set_option maxRecDepth 100000 in
theorem mem_write (k x y : Nat) (h : (Mem b g n m).at_ S w) (hk : k < n) (hn : n ≤ 20000) :
    Calls Tryz.prog 182 #[.pointer (some ⟨b, 0, none⟩), .int .i64 (k : Int), .complex .f64 x y] w fun e w' => e = .returned (.int .i64 0) ∧ Goes (Mem b g n (setV m k (.complex .f64 x y))) S w w' := by
  obtain ⟨ct, h⟩ := h
  have g0 := Goes.begin h
  have c1 := g0.c 1 rfl
  have f1 := g0.fr 1
  have g1 := g0.put 1 (.int .i64 (wrap64 (ct + 1))) rfl
  have H1 := Lib.hid (mem_has k (goesBlk g1) hk hn)
  have d0 := g1.c 0 rfl
  have d1 := goesVal g1.r hk
  have d2 := goesValFree g1.r k
  have HG := Lib.hid (g1.then fun S h => goesR (fun S h => vals_set h k (.complex .f64 x y)) S h)
  clear g0 g1 h
  generalize m k = v at *
  go_enter Tryz.func182, Tryz.ntmps182
  go_wp2_with fail
  with_reducible refine H1.out.mono ?_
  rintro e w' ⟨rfl, rfl⟩
  go_wp2_with fail
  go_ret
  exact ⟨rfl, HG.out.ex (T := fun ct : Int => Sep (Var b #[.slice (some ⟨g, 0, none⟩) n n, .int .i64 ct] 144) (Vals g n 24 (setV m k (.complex .f64 x y))))⟩
set_option maxRecDepth 100000 in
theorem mem_lay (k x y : Nat) (h : (Mem b g n m).at_ S w) (hk : k < n) (hn : n ≤ 20000) :
    Calls Tryz.prog 37 #[.pointer (some ⟨b, 0, none⟩), .int .i64 (k : Int), .complex .f64 x y] w fun e w' => e = .returned (.tuple #[]) ∧ Goes (Mem b g n (setV m k (.complex .f64 x y))) S w w' := by
  obtain ⟨ct, h⟩ := h
  have g1 := Goes.begin h
  have H1 := Lib.hid (mem_has k (goesBlk g1) hk hn)
  have d0 := g1.c 0 rfl
  have d1 := goesVal g1.r hk
  have d2 := goesValFree g1.r k
  have HG := Lib.hid (g1.then fun S h => goesR (fun S h => vals_set h k (.complex .f64 x y)) S h)
  clear g1 h
  generalize m k = v at *
  go_enter Tryz.func37, Tryz.ntmps37
  go_wp2_with fail
  with_reducible refine H1.out.mono ?_
  rintro e w' ⟨rfl, rfl⟩
  go_wp2_with fail
  go_end0
  exact ⟨rfl, HG.out.ex (T := fun ct : Int => Sep (Var b #[.slice (some ⟨g, 0, none⟩) n n, .int .i64 ct] 144) (Vals g n 24 (setV m k (.complex .f64 x y))))⟩
set_option maxRecDepth 100000 in
theorem Tryz.info24 : (Tryz.prog.info? 24).map (fun i => (i.zero, i.size, i.bytes)) = some (some (.complex .f64 0 0), 1, 16) := by kernel_rfl
set_option maxRecDepth 100000 in
theorem make_cpx (n : Nat) (hn : n ≤ 20000) (w : World) : (Instr.makeSlice 142 (.int .i64 n) (.int .i64 n)).run Tryz.prog w = .ok (.slice (some ⟨w.heap.size, 0, none⟩) n n) (w.alloc (.cells (madeCells #[.complex .f64 0 0] n) 24)) := by
  obtain ⟨i0, hi, hz0, hz1, hz2⟩ := info_parts Tryz.info24
  have := run_make (P := Tryz.prog) w 142 24 i0 _ Tryz.underlying142 hi hz0 .i64 .i64 n n (by omega) (by omega) (by rw [hz2]; omega) (by omega)
  rw [this, hz1]; simp [Value.cells]
set_option maxRecDepth 100000 in
theorem mem_new (n : Nat) (w : World) (hn : n ≤ 20000) :
    Calls Tryz.prog 30 #[.int .i64 (n : Int)] w fun e w' => ∃ b g, e = .returned (.tuple #[.pointer (some ⟨b, 0, none⟩), .int .i64 0]) ∧ St w (Mem b g n fun _ => .complex .f64 0 0) w' := by
  have hmk := make_cpx n hn
  have h1 : St w (Vals w.heap.size n 24 fun _ => .complex .f64 0 0) (w.alloc (.cells (madeCells #[.complex .f64 0 0] n) 24)) :=
    ⟨⟨fun k => k = w.heap.size, ⟨_, Blk.new w _ _, by simp [madeCells], fun j hj => by simp [madeCells, hj, Nat.mod_one], rfl, fun _ h => h⟩, fun k hk => by omega⟩, (Below.refl _ _).alloc (Nat.le_refl _) _⟩
  have h2 := (h1.var #[.slice (some ⟨w.heap.size, 0, none⟩) n n, .int .i64 0] 144).swap
  rw [World.size_alloc] at h2
  have h2 := Lib.hid h2
  clear h1
  go_enter Tryz.func30, Tryz.ntmps30
  go_wp2_with fail
  go_ret2
  exact ⟨_, w.heap.size, rfl, h2.out.conv fun S w h => ⟨0, h⟩⟩
end
end Go.Proofs.YtnkgnhpapcnebaaGreat
