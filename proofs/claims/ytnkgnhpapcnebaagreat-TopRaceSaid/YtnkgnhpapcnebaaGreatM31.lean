/- Check of the kinds that make nothing. -/
import Derived.Test.YtnkgnhpapcnebaaGreatM21
set_option linter.unusedVariables false
set_option linter.unusedSimpArgs false
set_option maxHeartbeats 8000000
namespace Go.Proofs.YtnkgnhpapcnebaaGreat
open Go.RowKit
attribute [local go_sem] run_store_complex via_ret via_normal via_exit via_panic
section
variable {c : Cf} {g cap : Nat} {S : Nat → Prop} {w w' : World}
set_option maxRecDepth 100000 in
theorem op_check11 {A B C N z1 z2 : Nat} (hc : c.ok) (hA : A < c.locals) (hB : B < c.locals) (h : (Conf c g cap).at_ S w) :
    Calls Tryz.prog 167 #[cfV c g cap, .agg #[.int .i64 11, .int .i64 A, .int .i64 B, .int .i64 C, .int .i64 N, .complex .f64 z1 z2]] w fun e w' => e = .returned (.int .i64 0) ∧ Below w.heap.size w w' := by
  have hb0 : Below w.heap.size w ((w.alloc (.cells (cfCells c (.slice (some ⟨g, 0, none⟩) c.shapes.length cap)) 36)).alloc (.cells #[.int .i64 11, .int .i64 A, .int .i64 B, .int .i64 C, .int .i64 N, .complex .f64 z1 z2] 26)) := ((Below.refl w.heap.size w).alloc (Nat.le_refl _) _).alloc (by simp) _
  have C0 : Blk ((w.alloc (.cells (cfCells c (.slice (some ⟨g, 0, none⟩) c.shapes.length cap)) 36)).alloc (.cells #[.int .i64 11, .int .i64 A, .int .i64 B, .int .i64 C, .int .i64 N, .complex .f64 z1 z2] 26)) w.heap.size (cfCells c (.slice (some ⟨g, 0, none⟩) c.shapes.length cap)) 36 := (Blk.new w _ _).alloc _
  have D0 : Blk ((w.alloc (.cells (cfCells c (.slice (some ⟨g, 0, none⟩) c.shapes.length cap)) 36)).alloc (.cells #[.int .i64 11, .int .i64 A, .int .i64 B, .int .i64 C, .int .i64 N, .complex .f64 z1 z2] 26)) (w.heap.size + 1) #[.int .i64 11, .int .i64 A, .int .i64 B, .int .i64 C, .int .i64 N, .complex .f64 z1 z2] 26 := by have := Blk.new (w.alloc (.cells (cfCells c (.slice (some ⟨g, 0, none⟩) c.shapes.length cap)) 36)) #[.int .i64 11, .int .i64 A, .int .i64 B, .int .i64 C, .int .i64 N, .complex .f64 z1 z2] 26; rw [World.size_alloc] at this; exact this
  have HB0 := Lib.hid hb0
  have HC0 := Lib.hid C0
  have HD0 := Lib.hid D0
  have g0 := Lib.hid ((Goes.begin h).below_ hb0)
  have HK := Lib.hid hc
  unfold cfV at *
  simp only [cfCells] at *
  clear h hc hb0
  go_enter Tryz.func167, Tryz.ntmps167
  go_upto_region 1 with fail
  generalize (w.alloc _).alloc _ = W1 at *
  generalize hob : w.heap.size + 1 = ob at *
  have d0 := D0.cell 0
  simp at d0
  go_wp2_with fail
  with_reducible refine (op_words11 _).mono ?_
  rintro e w2 ⟨rfl, hb⟩
  have C2 := Lib.hid (keepBlk HC0.out hb)
  have D2 := Lib.hid (keepBlk HD0.out hb)
  have HB2 := Lib.hid (HB0.out.trans (hb.mono HB0.out.size))
  have HCK := Lib.hid (conf_check HK.out (g0.out.below_ hb).is)
  have G2 := Lib.hid (g0.out.below_ hb)
  unfold cfV at HCK
  clear d0 C0 D0 HC0 HD0 HB0 hb g0
  obtain ⟨c0, c1, c2, c3, c4, c5, c6, c7, c8⟩ := cf9 C2.out
  go_wp2_with fail
  with_reducible refine (HCK.out).mono ?_
  rintro e w3 ⟨rfl, hb⟩
  have C3 := keepBlk C2.out hb
  have D3 := keepBlk D2.out hb
  have HB3 := Lib.hid (HB2.out.trans (hb.mono HB2.out.size))
  have G3 := Lib.hid (G2.out.below_ hb)
  clear c0 c1 c2 c3 c4 c5 c6 c7 c8 C2 D2 HB2 hb HCK G2
  have cI : ∀ s pos, (w3.iter s pos).cell? ⟨w.heap.size, 4, none⟩ = some (.int .i64 c.locals) := fun s pos => (C3.alloc (.stringIter s pos)).cell 4
  have cI2 : ∀ s pos, (w3.iter s pos).cell? ⟨w.heap.size, 2, none⟩ = some (.int .i64 c.globals) := fun s pos => (C3.alloc (.stringIter s pos)).cell 2
  have dI0 : ∀ s pos, (w3.iter s pos).cell? ⟨ob, 0, none⟩ = some (.int .i64 11) := fun s pos => (D3.alloc (.stringIter s pos)).cell 0
  have dI1 : ∀ s pos, (w3.iter s pos).cell? ⟨ob, 1, none⟩ = some (.int .i64 A) := fun s pos => (D3.alloc (.stringIter s pos)).cell 1
  have dI2 : ∀ s pos, (w3.iter s pos).cell? ⟨ob, 2, none⟩ = some (.int .i64 B) := fun s pos => (D3.alloc (.stringIter s pos)).cell 2
  have dI4 : ∀ s pos, (w3.iter s pos).cell? ⟨ob, 4, none⟩ = some (.int .i64 N) := fun s pos => (D3.alloc (.stringIter s pos)).cell 4
  have HBI := Lib.hid fun (s : ByteArray) (pos : Nat) => (show Below w.heap.size w (w3.iter s pos) from HB3.out.alloc HB3.out.size (.stringIter s pos))
  have hnx0 : ∀ ty, (Instr.next (.pointer (some ⟨w3.heap.size, 0, none⟩)) true ty).run Tryz.prog (w3.iter ⟨#[97, 98]⟩ 0) = .ok (.tuple #[.bool true, .int .i64 0, .int .i32 97]) (w3.iter ⟨#[97, 98]⟩ 1) := fun ty => run_next_ascii w3 _ 0 ty (by decide) (by decide)
  have hnx1 : ∀ ty, (Instr.next (.pointer (some ⟨w3.heap.size, 0, none⟩)) true ty).run Tryz.prog (w3.iter ⟨#[97, 98]⟩ 1) = .ok (.tuple #[.bool true, .int .i64 1, .int .i32 98]) (w3.iter ⟨#[97, 98]⟩ 2) := fun ty => run_next_ascii w3 _ 1 ty (by decide) (by decide)
  have hnx2 := fun ty => run_next_end (P := Tryz.prog) w3 ⟨#[97, 98]⟩ 2 ty (by decide)
  have CC3 := Lib.hid C3
  have DD3 := Lib.hid D3
  clear C3 D3 HB3
  go_wp2_with fail
  go_loopw [8, 9, 10] (fun _ _ _ wr => ∃ pos : Nat, pos ≤ 2 ∧ wr = w3.iter ⟨#[97, 98]⟩ pos) (fun _ _ _ wr => iterLeft w3.heap.size wr)
  case atStart => exact ⟨0, by omega, rfl⟩
  case round =>
    obtain ⟨pos, hpos, rfl⟩ := hrel
    have hcase : pos = 0 ∨ pos = 1 ∨ pos = 2 := by omega
    rcases hcase with rfl | rfl | rfl
    · clear hnx1 hnx2
      go_wp2_with fail
      with_reducible refine (op_field_a _ _).mono ?_
      rintro e w6 ⟨rfl, rfl⟩
      go_wp2_with fail
      go_round
      case rel => exact ⟨1, by omega, rfl⟩
      case measure => rw [iterLeft_iter, iterLeft_iter]; decide
    · clear hnx0 hnx2
      go_wp2_with fail
      with_reducible refine (op_field_b _ _).mono ?_
      rintro e w6 ⟨rfl, rfl⟩
      go_wp2_with fail
      go_round
      case rel => exact ⟨2, by omega, rfl⟩
      case measure => rw [iterLeft_iter, iterLeft_iter]; decide
    · clear hnx0 hnx1
      go_wp2_with fail
      go_ret
      exact ⟨rfl, HBI.out _ _⟩
set_option maxRecDepth 100000 in
theorem op_check12 {A B C N z1 z2 : Nat} (hc : c.ok) (hA : A < c.locals) (h : (Conf c g cap).at_ S w) :
    Calls Tryz.prog 167 #[cfV c g cap, .agg #[.int .i64 12, .int .i64 A, .int .i64 B, .int .i64 C, .int .i64 N, .complex .f64 z1 z2]] w fun e w' => e = .returned (.int .i64 0) ∧ Below w.heap.size w w' := by
  have hb0 : Below w.heap.size w ((w.alloc (.cells (cfCells c (.slice (some ⟨g, 0, none⟩) c.shapes.length cap)) 36)).alloc (.cells #[.int .i64 12, .int .i64 A, .int .i64 B, .int .i64 C, .int .i64 N, .complex .f64 z1 z2] 26)) := ((Below.refl w.heap.size w).alloc (Nat.le_refl _) _).alloc (by simp) _
  have C0 : Blk ((w.alloc (.cells (cfCells c (.slice (some ⟨g, 0, none⟩) c.shapes.length cap)) 36)).alloc (.cells #[.int .i64 12, .int .i64 A, .int .i64 B, .int .i64 C, .int .i64 N, .complex .f64 z1 z2] 26)) w.heap.size (cfCells c (.slice (some ⟨g, 0, none⟩) c.shapes.length cap)) 36 := (Blk.new w _ _).alloc _
  have D0 : Blk ((w.alloc (.cells (cfCells c (.slice (some ⟨g, 0, none⟩) c.shapes.length cap)) 36)).alloc (.cells #[.int .i64 12, .int .i64 A, .int .i64 B, .int .i64 C, .int .i64 N, .complex .f64 z1 z2] 26)) (w.heap.size + 1) #[.int .i64 12, .int .i64 A, .int .i64 B, .int .i64 C, .int .i64 N, .complex .f64 z1 z2] 26 := by have := Blk.new (w.alloc (.cells (cfCells c (.slice (some ⟨g, 0, none⟩) c.shapes.length cap)) 36)) #[.int .i64 12, .int .i64 A, .int .i64 B, .int .i64 C, .int .i64 N, .complex .f64 z1 z2] 26; rw [World.size_alloc] at this; exact this
  have HB0 := Lib.hid hb0
  have HC0 := Lib.hid C0
  have HD0 := Lib.hid D0
  have g0 := Lib.hid ((Goes.begin h).below_ hb0)
  have HK := Lib.hid hc
  unfold cfV at *
  simp only [cfCells] at *
  clear h hc hb0
  go_enter Tryz.func167, Tryz.ntmps167
  go_upto_region 1 with fail
  generalize (w.alloc _).alloc _ = W1 at *
  generalize hob : w.heap.size + 1 = ob at *
  have d0 := D0.cell 0
  simp at d0
  go_wp2_with fail
  with_reducible refine (op_words12 _).mono ?_
  rintro e w2 ⟨rfl, hb⟩
  have C2 := Lib.hid (keepBlk HC0.out hb)
  have D2 := Lib.hid (keepBlk HD0.out hb)
  have HB2 := Lib.hid (HB0.out.trans (hb.mono HB0.out.size))
  have HCK := Lib.hid (conf_check HK.out (g0.out.below_ hb).is)
  have G2 := Lib.hid (g0.out.below_ hb)
  unfold cfV at HCK
  clear d0 C0 D0 HC0 HD0 HB0 hb g0
  obtain ⟨c0, c1, c2, c3, c4, c5, c6, c7, c8⟩ := cf9 C2.out
  go_wp2_with fail
  with_reducible refine (HCK.out).mono ?_
  rintro e w3 ⟨rfl, hb⟩
  have C3 := keepBlk C2.out hb
  have D3 := keepBlk D2.out hb
  have HB3 := Lib.hid (HB2.out.trans (hb.mono HB2.out.size))
  have G3 := Lib.hid (G2.out.below_ hb)
  clear c0 c1 c2 c3 c4 c5 c6 c7 c8 C2 D2 HB2 hb HCK G2
  have cI : ∀ s pos, (w3.iter s pos).cell? ⟨w.heap.size, 4, none⟩ = some (.int .i64 c.locals) := fun s pos => (C3.alloc (.stringIter s pos)).cell 4
  have cI2 : ∀ s pos, (w3.iter s pos).cell? ⟨w.heap.size, 2, none⟩ = some (.int .i64 c.globals) := fun s pos => (C3.alloc (.stringIter s pos)).cell 2
  have dI0 : ∀ s pos, (w3.iter s pos).cell? ⟨ob, 0, none⟩ = some (.int .i64 12) := fun s pos => (D3.alloc (.stringIter s pos)).cell 0
  have dI1 : ∀ s pos, (w3.iter s pos).cell? ⟨ob, 1, none⟩ = some (.int .i64 A) := fun s pos => (D3.alloc (.stringIter s pos)).cell 1
  have dI2 : ∀ s pos, (w3.iter s pos).cell? ⟨ob, 2, none⟩ = some (.int .i64 B) := fun s pos => (D3.alloc (.stringIter s pos)).cell 2
  have dI4 : ∀ s pos, (w3.iter s pos).cell? ⟨ob, 4, none⟩ = some (.int .i64 N) := fun s pos => (D3.alloc (.stringIter s pos)).cell 4
  have HBI := Lib.hid fun (s : ByteArray) (pos : Nat) => (show Below w.heap.size w (w3.iter s pos) from HB3.out.alloc HB3.out.size (.stringIter s pos))
  have hnx0 : ∀ ty, (Instr.next (.pointer (some ⟨w3.heap.size, 0, none⟩)) true ty).run Tryz.prog (w3.iter ⟨#[97, 122]⟩ 0) = .ok (.tuple #[.bool true, .int .i64 0, .int .i32 97]) (w3.iter ⟨#[97, 122]⟩ 1) := fun ty => run_next_ascii w3 _ 0 ty (by decide) (by decide)
  have hnx1 : ∀ ty, (Instr.next (.pointer (some ⟨w3.heap.size, 0, none⟩)) true ty).run Tryz.prog (w3.iter ⟨#[97, 122]⟩ 1) = .ok (.tuple #[.bool true, .int .i64 1, .int .i32 122]) (w3.iter ⟨#[97, 122]⟩ 2) := fun ty => run_next_ascii w3 _ 1 ty (by decide) (by decide)
  have hnx2 := fun ty => run_next_end (P := Tryz.prog) w3 ⟨#[97, 122]⟩ 2 ty (by decide)
  have CC3 := Lib.hid C3
  have DD3 := Lib.hid D3
  clear C3 D3 HB3
  go_wp2_with fail
  go_loopw [8, 9, 10] (fun _ _ _ wr => ∃ pos : Nat, pos ≤ 2 ∧ wr = w3.iter ⟨#[97, 122]⟩ pos) (fun _ _ _ wr => iterLeft w3.heap.size wr)
  case atStart => exact ⟨0, by omega, rfl⟩
  case round =>
    obtain ⟨pos, hpos, rfl⟩ := hrel
    have hcase : pos = 0 ∨ pos = 1 ∨ pos = 2 := by omega
    rcases hcase with rfl | rfl | rfl
    · clear hnx1 hnx2
      go_wp2_with fail
      with_reducible refine (op_field_a _ _).mono ?_
      rintro e w6 ⟨rfl, rfl⟩
      go_wp2_with fail
      go_round
      case rel => exact ⟨1, by omega, rfl⟩
      case measure => rw [iterLeft_iter, iterLeft_iter]; decide
    · clear hnx0 hnx2
      go_wp2_with fail
      go_round
      case rel => exact ⟨2, by omega, rfl⟩
      case measure => rw [iterLeft_iter, iterLeft_iter]; decide
    · clear hnx0 hnx1
      go_wp2_with fail
      go_ret
      exact ⟨rfl, HBI.out _ _⟩
set_option maxRecDepth 100000 in
theorem op_check13 {A B C N z1 z2 : Nat} (hc : c.ok) (hA : A < c.locals) (h : (Conf c g cap).at_ S w) :
    Calls Tryz.prog 167 #[cfV c g cap, .agg #[.int .i64 13, .int .i64 A, .int .i64 B, .int .i64 C, .int .i64 N, .complex .f64 z1 z2]] w fun e w' => e = .returned (.int .i64 0) ∧ Below w.heap.size w w' := by
  have hb0 : Below w.heap.size w ((w.alloc (.cells (cfCells c (.slice (some ⟨g, 0, none⟩) c.shapes.length cap)) 36)).alloc (.cells #[.int .i64 13, .int .i64 A, .int .i64 B, .int .i64 C, .int .i64 N, .complex .f64 z1 z2] 26)) := ((Below.refl w.heap.size w).alloc (Nat.le_refl _) _).alloc (by simp) _
  have C0 : Blk ((w.alloc (.cells (cfCells c (.slice (some ⟨g, 0, none⟩) c.shapes.length cap)) 36)).alloc (.cells #[.int .i64 13, .int .i64 A, .int .i64 B, .int .i64 C, .int .i64 N, .complex .f64 z1 z2] 26)) w.heap.size (cfCells c (.slice (some ⟨g, 0, none⟩) c.shapes.length cap)) 36 := (Blk.new w _ _).alloc _
  have D0 : Blk ((w.alloc (.cells (cfCells c (.slice (some ⟨g, 0, none⟩) c.shapes.length cap)) 36)).alloc (.cells #[.int .i64 13, .int .i64 A, .int .i64 B, .int .i64 C, .int .i64 N, .complex .f64 z1 z2] 26)) (w.heap.size + 1) #[.int .i64 13, .int .i64 A, .int .i64 B, .int .i64 C, .int .i64 N, .complex .f64 z1 z2] 26 := by have := Blk.new (w.alloc (.cells (cfCells c (.slice (some ⟨g, 0, none⟩) c.shapes.length cap)) 36)) #[.int .i64 13, .int .i64 A, .int .i64 B, .int .i64 C, .int .i64 N, .complex .f64 z1 z2] 26; rw [World.size_alloc] at this; exact this
  have HB0 := Lib.hid hb0
  have HC0 := Lib.hid C0
  have HD0 := Lib.hid D0
  have g0 := Lib.hid ((Goes.begin h).below_ hb0)
  have HK := Lib.hid hc
  unfold cfV at *
  simp only [cfCells] at *
  clear h hc hb0
  go_enter Tryz.func167, Tryz.ntmps167
  go_upto_region 1 with fail
  generalize (w.alloc _).alloc _ = W1 at *
  generalize hob : w.heap.size + 1 = ob at *
  have d0 := D0.cell 0
  simp at d0
  go_wp2_with fail
  with_reducible refine (op_words13 _).mono ?_
  rintro e w2 ⟨rfl, hb⟩
  have C2 := Lib.hid (keepBlk HC0.out hb)
  have D2 := Lib.hid (keepBlk HD0.out hb)
  have HB2 := Lib.hid (HB0.out.trans (hb.mono HB0.out.size))
  have HCK := Lib.hid (conf_check HK.out (g0.out.below_ hb).is)
  have G2 := Lib.hid (g0.out.below_ hb)
  unfold cfV at HCK
  clear d0 C0 D0 HC0 HD0 HB0 hb g0
  obtain ⟨c0, c1, c2, c3, c4, c5, c6, c7, c8⟩ := cf9 C2.out
  go_wp2_with fail
  with_reducible refine (HCK.out).mono ?_
  rintro e w3 ⟨rfl, hb⟩
  have C3 := keepBlk C2.out hb
  have D3 := keepBlk D2.out hb
  have HB3 := Lib.hid (HB2.out.trans (hb.mono HB2.out.size))
  have G3 := Lib.hid (G2.out.below_ hb)
  clear c0 c1 c2 c3 c4 c5 c6 c7 c8 C2 D2 HB2 hb HCK G2
  have cI : ∀ s pos, (w3.iter s pos).cell? ⟨w.heap.size, 4, none⟩ = some (.int .i64 c.locals) := fun s pos => (C3.alloc (.stringIter s pos)).cell 4
  have cI2 : ∀ s pos, (w3.iter s pos).cell? ⟨w.heap.size, 2, none⟩ = some (.int .i64 c.globals) := fun s pos => (C3.alloc (.stringIter s pos)).cell 2
  have dI0 : ∀ s pos, (w3.iter s pos).cell? ⟨ob, 0, none⟩ = some (.int .i64 13) := fun s pos => (D3.alloc (.stringIter s pos)).cell 0
  have dI1 : ∀ s pos, (w3.iter s pos).cell? ⟨ob, 1, none⟩ = some (.int .i64 A) := fun s pos => (D3.alloc (.stringIter s pos)).cell 1
  have dI2 : ∀ s pos, (w3.iter s pos).cell? ⟨ob, 2, none⟩ = some (.int .i64 B) := fun s pos => (D3.alloc (.stringIter s pos)).cell 2
  have dI4 : ∀ s pos, (w3.iter s pos).cell? ⟨ob, 4, none⟩ = some (.int .i64 N) := fun s pos => (D3.alloc (.stringIter s pos)).cell 4
  have HBI := Lib.hid fun (s : ByteArray) (pos : Nat) => (show Below w.heap.size w (w3.iter s pos) from HB3.out.alloc HB3.out.size (.stringIter s pos))
  have hnx0 : ∀ ty, (Instr.next (.pointer (some ⟨w3.heap.size, 0, none⟩)) true ty).run Tryz.prog (w3.iter ⟨#[97]⟩ 0) = .ok (.tuple #[.bool true, .int .i64 0, .int .i32 97]) (w3.iter ⟨#[97]⟩ 1) := fun ty => run_next_ascii w3 _ 0 ty (by decide) (by decide)
  have hnx1 := fun ty => run_next_end (P := Tryz.prog) w3 ⟨#[97]⟩ 1 ty (by decide)
  have CC3 := Lib.hid C3
  have DD3 := Lib.hid D3
  clear C3 D3 HB3
  go_wp2_with fail
  go_loopw [8, 9, 10] (fun _ _ _ wr => ∃ pos : Nat, pos ≤ 1 ∧ wr = w3.iter ⟨#[97]⟩ pos) (fun _ _ _ wr => iterLeft w3.heap.size wr)
  case atStart => exact ⟨0, by omega, rfl⟩
  case round =>
    obtain ⟨pos, hpos, rfl⟩ := hrel
    have hcase : pos = 0 ∨ pos = 1 := by omega
    rcases hcase with rfl | rfl
    · clear hnx1
      go_wp2_with fail
      with_reducible refine (op_field_a _ _).mono ?_
      rintro e w6 ⟨rfl, rfl⟩
      go_wp2_with fail
      go_round
      case rel => exact ⟨1, by omega, rfl⟩
      case measure => rw [iterLeft_iter, iterLeft_iter]; decide
    · clear hnx0
      go_wp2_with fail
      go_ret
      exact ⟨rfl, HBI.out _ _⟩
end
end Go.Proofs.YtnkgnhpapcnebaaGreat
