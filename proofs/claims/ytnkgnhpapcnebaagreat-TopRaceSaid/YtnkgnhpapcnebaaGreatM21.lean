/- Check of the kinds that make nothing. -/
import Derived.Test.YtnkgnhpapcnebaaGreatM20
import Derived.Test.YtnkgnhpapcnebaaGreatM11
import Derived.Test.YtnkgnhpapcnebaaGreatM15
set_option linter.unusedVariables false
set_option linter.unusedSimpArgs false
set_option maxHeartbeats 8000000
namespace Go.Proofs.YtnkgnhpapcnebaaGreat
open Go.RowKit
attribute [local go_sem] run_store_complex via_ret via_normal via_exit via_panic
/-- What is left of a string's walk, its iterator at block b. -/
def iterLeft (b : Nat) (w : World) : Nat := match w.heap[b]? with | some (.stringIter s p) => s.size - p | _ => 0
set_option maxRecDepth 100000 in
theorem iterLeft_iter (w : World) (s : ByteArray) (p : Nat) : iterLeft w.heap.size (w.iter s p) = s.size - p := by unfold iterLeft; rw [World.iter_heap]
section
variable {c : Cf} {g cap : Nat} {S : Nat → Prop} {w w' : World}
set_option maxRecDepth 100000 in
theorem op_check3 {A B C N z1 z2 : Nat} (hc : c.ok) (hA : A < c.locals) (hB : B < c.locals) (h : (Conf c g cap).at_ S w) :
    Calls Tryz.prog 167 #[cfV c g cap, .agg #[.int .i64 3, .int .i64 A, .int .i64 B, .int .i64 C, .int .i64 N, .complex .f64 z1 z2]] w fun e w' => e = .returned (.int .i64 0) ∧ Below w.heap.size w w' := by
  have hb0 : Below w.heap.size w ((w.alloc (.cells (cfCells c (.slice (some ⟨g, 0, none⟩) c.shapes.length cap)) 36)).alloc (.cells #[.int .i64 3, .int .i64 A, .int .i64 B, .int .i64 C, .int .i64 N, .complex .f64 z1 z2] 26)) := ((Below.refl w.heap.size w).alloc (Nat.le_refl _) _).alloc (by simp) _
  have C0 : Blk ((w.alloc (.cells (cfCells c (.slice (some ⟨g, 0, none⟩) c.shapes.length cap)) 36)).alloc (.cells #[.int .i64 3, .int .i64 A, .int .i64 B, .int .i64 C, .int .i64 N, .complex .f64 z1 z2] 26)) w.heap.size (cfCells c (.slice (some ⟨g, 0, none⟩) c.shapes.length cap)) 36 := (Blk.new w _ _).alloc _
  have D0 : Blk ((w.alloc (.cells (cfCells c (.slice (some ⟨g, 0, none⟩) c.shapes.length cap)) 36)).alloc (.cells #[.int .i64 3, .int .i64 A, .int .i64 B, .int .i64 C, .int .i64 N, .complex .f64 z1 z2] 26)) (w.heap.size + 1) #[.int .i64 3, .int .i64 A, .int .i64 B, .int .i64 C, .int .i64 N, .complex .f64 z1 z2] 26 := by have := Blk.new (w.alloc (.cells (cfCells c (.slice (some ⟨g, 0, none⟩) c.shapes.length cap)) 36)) #[.int .i64 3, .int .i64 A, .int .i64 B, .int .i64 C, .int .i64 N, .complex .f64 z1 z2] 26; rw [World.size_alloc] at this; exact this
  have HB0 := Lib.hid hb0
  have HC0 := Lib.hid C0
  have HD0 := Lib.hid D0
  have g0 := Lib.hid ((Goes.begin h).below_ hb0)
  have HK := Lib.hid hc
  unfold cfV at *
  simp only [cfCells] at *
  clear h hc hb0
  go_enter Tryz.func167, Tryz.ntmps167
  go_upto_region 1 with fail
  generalize (w.alloc _).alloc _ = W1 at *
  generalize hob : w.heap.size + 1 = ob at *
  have d0 := D0.cell 0
  simp at d0
  go_wp2_with fail
  with_reducible refine (op_words3 _).mono ?_
  rintro e w2 ⟨rfl, hb⟩
  have C2 := Lib.hid (keepBlk HC0.out hb)
  have D2 := Lib.hid (keepBlk HD0.out hb)
  have HB2 := Lib.hid (HB0.out.trans (hb.mono HB0.out.size))
  have HCK := Lib.hid (conf_check HK.out (g0.out.below_ hb).is)
  have G2 := Lib.hid (g0.out.below_ hb)
  unfold cfV at HCK
  clear d0 C0 D0 HC0 HD0 HB0 hb g0
  obtain ⟨c0, c1, c2, c3, c4, c5, c6, c7, c8⟩ := cf9 C2.out
  go_wp2_with fail
  with_reducible refine (HCK.out).mono ?_
  rintro e w3 ⟨rfl, hb⟩
  have C3 := keepBlk C2.out hb
  have D3 := keepBlk D2.out hb
  have HB3 := Lib.hid (HB2.out.trans (hb.mono HB2.out.size))
  have G3 := Lib.hid (G2.out.below_ hb)
  clear c0 c1 c2 c3 c4 c5 c6 c7 c8 C2 D2 HB2 hb HCK G2
  have cI : ∀ s pos, (w3.iter s pos).cell? ⟨w.heap.size, 4, none⟩ = some (.int .i64 c.locals) := fun s pos => (C3.alloc (.stringIter s pos)).cell 4
  have cI2 : ∀ s pos, (w3.iter s pos).cell? ⟨w.heap.size, 2, none⟩ = some (.int .i64 c.globals) := fun s pos => (C3.alloc (.stringIter s pos)).cell 2
  have dI0 : ∀ s pos, (w3.iter s pos).cell? ⟨ob, 0, none⟩ = some (.int .i64 3) := fun s pos => (D3.alloc (.stringIter s pos)).cell 0
  have dI1 : ∀ s pos, (w3.iter s pos).cell? ⟨ob, 1, none⟩ = some (.int .i64 A) := fun s pos => (D3.alloc (.stringIter s pos)).cell 1
  have dI2 : ∀ s pos, (w3.iter s pos).cell? ⟨ob, 2, none⟩ = some (.int .i64 B) := fun s pos => (D3.alloc (.stringIter s pos)).cell 2
  have dI4 : ∀ s pos, (w3.iter s pos).cell? ⟨ob, 4, none⟩ = some (.int .i64 N) := fun s pos => (D3.alloc (.stringIter s pos)).cell 4
  have HBI := Lib.hid fun (s : ByteArray) (pos : Nat) => (show Below w.heap.size w (w3.iter s pos) from HB3.out.alloc HB3.out.size (.stringIter s pos))
  have hnx0 : ∀ ty, (Instr.next (.pointer (some ⟨w3.heap.size, 0, none⟩)) true ty).run Tryz.prog (w3.iter ⟨#[97, 98, 110]⟩ 0) = .ok (.tuple #[.bool true, .int .i64 0, .int .i32 97]) (w3.iter ⟨#[97, 98, 110]⟩ 1) := fun ty => run_next_ascii w3 _ 0 ty (by decide) (by decide)
  have hnx1 : ∀ ty, (Instr.next (.pointer (some ⟨w3.heap.size, 0, none⟩)) true ty).run Tryz.prog (w3.iter ⟨#[97, 98, 110]⟩ 1) = .ok (.tuple #[.bool true, .int .i64 1, .int .i32 98]) (w3.iter ⟨#[97, 98, 110]⟩ 2) := fun ty => run_next_ascii w3 _ 1 ty (by decide) (by decide)
  have hnx2 : ∀ ty, (Instr.next (.pointer (some ⟨w3.heap.size, 0, none⟩)) true ty).run Tryz.prog (w3.iter ⟨#[97, 98, 110]⟩ 2) = .ok (.tuple #[.bool true, .int .i64 2, .int .i32 110]) (w3.iter ⟨#[97, 98, 110]⟩ 3) := fun ty => run_next_ascii w3 _ 2 ty (by decide) (by decide)
  have hnx3 := fun ty => run_next_end (P := Tryz.prog) w3 ⟨#[97, 98, 110]⟩ 3 ty (by decide)
  have CC3 := Lib.hid C3
  have DD3 := Lib.hid D3
  clear C3 D3 HB3
  go_wp2_with fail
  go_loopw [8, 9, 10] (fun _ _ _ wr => ∃ pos : Nat, pos ≤ 3 ∧ wr = w3.iter ⟨#[97, 98, 110]⟩ pos) (fun _ _ _ wr => iterLeft w3.heap.size wr)
  case atStart => exact ⟨0, by omega, rfl⟩
  case round =>
    obtain ⟨pos, hpos, rfl⟩ := hrel
    have hcase : pos = 0 ∨ pos = 1 ∨ pos = 2 ∨ pos = 3 := by omega
    rcases hcase with rfl | rfl | rfl | rfl
    · clear hnx1 hnx2 hnx3
      go_wp2_with fail
      with_reducible refine (op_field_a _ _).mono ?_
      rintro e w6 ⟨rfl, rfl⟩
      go_wp2_with fail
      go_round
      case rel => exact ⟨1, by omega, rfl⟩
      case measure => rw [iterLeft_iter, iterLeft_iter]; decide
    · clear hnx0 hnx2 hnx3
      go_wp2_with fail
      with_reducible refine (op_field_b _ _).mono ?_
      rintro e w6 ⟨rfl, rfl⟩
      go_wp2_with fail
      go_round
      case rel => exact ⟨2, by omega, rfl⟩
      case measure => rw [iterLeft_iter, iterLeft_iter]; decide
    · clear hnx0 hnx1 hnx3
      go_wp2_with fail
      go_round
      case rel => exact ⟨3, by omega, rfl⟩
      case measure => rw [iterLeft_iter, iterLeft_iter]; decide
    · clear hnx0 hnx1 hnx2
      go_wp2_with fail
      go_ret
      exact ⟨rfl, HBI.out _ _⟩
set_option maxRecDepth 100000 in
theorem op_check4 {A B C N z1 z2 : Nat} (hc : c.ok) (hA : A < c.locals) (hB : B < c.locals) (h : (Conf c g cap).at_ S w) :
    Calls Tryz.prog 167 #[cfV c g cap, .agg #[.int .i64 4, .int .i64 A, .int .i64 B, .int .i64 C, .int .i64 N, .complex .f64 z1 z2]] w fun e w' => e = .returned (.int .i64 0) ∧ Below w.heap.size w w' := by
  have hb0 : Below w.heap.size w ((w.alloc (.cells (cfCells c (.slice (some ⟨g, 0, none⟩) c.shapes.length cap)) 36)).alloc (.cells #[.int .i64 4, .int .i64 A, .int .i64 B, .int .i64 C, .int .i64 N, .complex .f64 z1 z2] 26)) := ((Below.refl w.heap.size w).alloc (Nat.le_refl _) _).alloc (by simp) _
  have C0 : Blk ((w.alloc (.cells (cfCells c (.slice (some ⟨g, 0, none⟩) c.shapes.length cap)) 36)).alloc (.cells #[.int .i64 4, .int .i64 A, .int .i64 B, .int .i64 C, .int .i64 N, .complex .f64 z1 z2] 26)) w.heap.size (cfCells c (.slice (some ⟨g, 0, none⟩) c.shapes.length cap)) 36 := (Blk.new w _ _).alloc _
  have D0 : Blk ((w.alloc (.cells (cfCells c (.slice (some ⟨g, 0, none⟩) c.shapes.length cap)) 36)).alloc (.cells #[.int .i64 4, .int .i64 A, .int .i64 B, .int .i64 C, .int .i64 N, .complex .f64 z1 z2] 26)) (w.heap.size + 1) #[.int .i64 4, .int .i64 A, .int .i64 B, .int .i64 C, .int .i64 N, .complex .f64 z1 z2] 26 := by have := Blk.new (w.alloc (.cells (cfCells c (.slice (some ⟨g, 0, none⟩) c.shapes.length cap)) 36)) #[.int .i64 4, .int .i64 A, .int .i64 B, .int .i64 C, .int .i64 N, .complex .f64 z1 z2] 26; rw [World.size_alloc] at this; exact this
  have HB0 := Lib.hid hb0
  have HC0 := Lib.hid C0
  have HD0 := Lib.hid D0
  have g0 := Lib.hid ((Goes.begin h).below_ hb0)
  have HK := Lib.hid hc
  unfold cfV at *
  simp only [cfCells] at *
  clear h hc hb0
  go_enter Tryz.func167, Tryz.ntmps167
  go_upto_region 1 with fail
  generalize (w.alloc _).alloc _ = W1 at *
  generalize hob : w.heap.size + 1 = ob at *
  have d0 := D0.cell 0
  simp at d0
  go_wp2_with fail
  with_reducible refine (op_words4 _).mono ?_
  rintro e w2 ⟨rfl, hb⟩
  have C2 := Lib.hid (keepBlk HC0.out hb)
  have D2 := Lib.hid (keepBlk HD0.out hb)
  have HB2 := Lib.hid (HB0.out.trans (hb.mono HB0.out.size))
  have HCK := Lib.hid (conf_check HK.out (g0.out.below_ hb).is)
  have G2 := Lib.hid (g0.out.below_ hb)
  unfold cfV at HCK
  clear d0 C0 D0 HC0 HD0 HB0 hb g0
  obtain ⟨c0, c1, c2, c3, c4, c5, c6, c7, c8⟩ := cf9 C2.out
  go_wp2_with fail
  with_reducible refine (HCK.out).mono ?_
  rintro e w3 ⟨rfl, hb⟩
  have C3 := keepBlk C2.out hb
  have D3 := keepBlk D2.out hb
  have HB3 := Lib.hid (HB2.out.trans (hb.mono HB2.out.size))
  have G3 := Lib.hid (G2.out.below_ hb)
  clear c0 c1 c2 c3 c4 c5 c6 c7 c8 C2 D2 HB2 hb HCK G2
  have cI : ∀ s pos, (w3.iter s pos).cell? ⟨w.heap.size, 4, none⟩ = some (.int .i64 c.locals) := fun s pos => (C3.alloc (.stringIter s pos)).cell 4
  have cI2 : ∀ s pos, (w3.iter s pos).cell? ⟨w.heap.size, 2, none⟩ = some (.int .i64 c.globals) := fun s pos => (C3.alloc (.stringIter s pos)).cell 2
  have dI0 : ∀ s pos, (w3.iter s pos).cell? ⟨ob, 0, none⟩ = some (.int .i64 4) := fun s pos => (D3.alloc (.stringIter s pos)).cell 0
  have dI1 : ∀ s pos, (w3.iter s pos).cell? ⟨ob, 1, none⟩ = some (.int .i64 A) := fun s pos => (D3.alloc (.stringIter s pos)).cell 1
  have dI2 : ∀ s pos, (w3.iter s pos).cell? ⟨ob, 2, none⟩ = some (.int .i64 B) := fun s pos => (D3.alloc (.stringIter s pos)).cell 2
  have dI4 : ∀ s pos, (w3.iter s pos).cell? ⟨ob, 4, none⟩ = some (.int .i64 N) := fun s pos => (D3.alloc (.stringIter s pos)).cell 4
  have HBI := Lib.hid fun (s : ByteArray) (pos : Nat) => (show Below w.heap.size w (w3.iter s pos) from HB3.out.alloc HB3.out.size (.stringIter s pos))
  have hnx0 : ∀ ty, (Instr.next (.pointer (some ⟨w3.heap.size, 0, none⟩)) true ty).run Tryz.prog (w3.iter ⟨#[97, 110, 98]⟩ 0) = .ok (.tuple #[.bool true, .int .i64 0, .int .i32 97]) (w3.iter ⟨#[97, 110, 98]⟩ 1) := fun ty => run_next_ascii w3 _ 0 ty (by decide) (by decide)
  have hnx1 : ∀ ty, (Instr.next (.pointer (some ⟨w3.heap.size, 0, none⟩)) true ty).run Tryz.prog (w3.iter ⟨#[97, 110, 98]⟩ 1) = .ok (.tuple #[.bool true, .int .i64 1, .int .i32 110]) (w3.iter ⟨#[97, 110, 98]⟩ 2) := fun ty => run_next_ascii w3 _ 1 ty (by decide) (by decide)
  have hnx2 : ∀ ty, (Instr.next (.pointer (some ⟨w3.heap.size, 0, none⟩)) true ty).run Tryz.prog (w3.iter ⟨#[97, 110, 98]⟩ 2) = .ok (.tuple #[.bool true, .int .i64 2, .int .i32 98]) (w3.iter ⟨#[97, 110, 98]⟩ 3) := fun ty => run_next_ascii w3 _ 2 ty (by decide) (by decide)
  have hnx3 := fun ty => run_next_end (P := Tryz.prog) w3 ⟨#[97, 110, 98]⟩ 3 ty (by decide)
  have CC3 := Lib.hid C3
  have DD3 := Lib.hid D3
  clear C3 D3 HB3
  go_wp2_with fail
  go_loopw [8, 9, 10] (fun _ _ _ wr => ∃ pos : Nat, pos ≤ 3 ∧ wr = w3.iter ⟨#[97, 110, 98]⟩ pos) (fun _ _ _ wr => iterLeft w3.heap.size wr)
  case atStart => exact ⟨0, by omega, rfl⟩
  case round =>
    obtain ⟨pos, hpos, rfl⟩ := hrel
    have hcase : pos = 0 ∨ pos = 1 ∨ pos = 2 ∨ pos = 3 := by omega
    rcases hcase with rfl | rfl | rfl | rfl
    · clear hnx1 hnx2 hnx3
      go_wp2_with fail
      with_reducible refine (op_field_a _ _).mono ?_
      rintro e w6 ⟨rfl, rfl⟩
      go_wp2_with fail
      go_round
      case rel => exact ⟨1, by omega, rfl⟩
      case measure => rw [iterLeft_iter, iterLeft_iter]; decide
    · clear hnx0 hnx2 hnx3
      go_wp2_with fail
      go_round
      case rel => exact ⟨2, by omega, rfl⟩
      case measure => rw [iterLeft_iter, iterLeft_iter]; decide
    · clear hnx0 hnx1 hnx3
      go_wp2_with fail
      with_reducible refine (op_field_b _ _).mono ?_
      rintro e w6 ⟨rfl, rfl⟩
      go_wp2_with fail
      go_round
      case rel => exact ⟨3, by omega, rfl⟩
      case measure => rw [iterLeft_iter, iterLeft_iter]; decide
    · clear hnx0 hnx1 hnx2
      go_wp2_with fail
      go_ret
      exact ⟨rfl, HBI.out _ _⟩
set_option maxRecDepth 100000 in
theorem op_check7 {A B C N z1 z2 : Nat} (hc : c.ok) (hA : A < c.locals) (hN : N < c.globals) (h : (Conf c g cap).at_ S w) :
    Calls Tryz.prog 167 #[cfV c g cap, .agg #[.int .i64 7, .int .i64 A, .int .i64 B, .int .i64 C, .int .i64 N, .complex .f64 z1 z2]] w fun e w' => e = .returned (.int .i64 0) ∧ Below w.heap.size w w' := by
  have hb0 : Below w.heap.size w ((w.alloc (.cells (cfCells c (.slice (some ⟨g, 0, none⟩) c.shapes.length cap)) 36)).alloc (.cells #[.int .i64 7, .int .i64 A, .int .i64 B, .int .i64 C, .int .i64 N, .complex .f64 z1 z2] 26)) := ((Below.refl w.heap.size w).alloc (Nat.le_refl _) _).alloc (by simp) _
  have C0 : Blk ((w.alloc (.cells (cfCells c (.slice (some ⟨g, 0, none⟩) c.shapes.length cap)) 36)).alloc (.cells #[.int .i64 7, .int .i64 A, .int .i64 B, .int .i64 C, .int .i64 N, .complex .f64 z1 z2] 26)) w.heap.size (cfCells c (.slice (some ⟨g, 0, none⟩) c.shapes.length cap)) 36 := (Blk.new w _ _).alloc _
  have D0 : Blk ((w.alloc (.cells (cfCells c (.slice (some ⟨g, 0, none⟩) c.shapes.length cap)) 36)).alloc (.cells #[.int .i64 7, .int .i64 A, .int .i64 B, .int .i64 C, .int .i64 N, .complex .f64 z1 z2] 26)) (w.heap.size + 1) #[.int .i64 7, .int .i64 A, .int .i64 B, .int .i64 C, .int .i64 N, .complex .f64 z1 z2] 26 := by have := Blk.new (w.alloc (.cells (cfCells c (.slice (some ⟨g, 0, none⟩) c.shapes.length cap)) 36)) #[.int .i64 7, .int .i64 A, .int .i64 B, .int .i64 C, .int .i64 N, .complex .f64 z1 z2] 26; rw [World.size_alloc] at this; exact this
  have HB0 := Lib.hid hb0
  have HC0 := Lib.hid C0
  have HD0 := Lib.hid D0
  have g0 := Lib.hid ((Goes.begin h).below_ hb0)
  have HK := Lib.hid hc
  unfold cfV at *
  simp only [cfCells] at *
  clear h hc hb0
  go_enter Tryz.func167, Tryz.ntmps167
  go_upto_region 1 with fail
  generalize (w.alloc _).alloc _ = W1 at *
  generalize hob : w.heap.size + 1 = ob at *
  have d0 := D0.cell 0
  simp at d0
  go_wp2_with fail
  with_reducible refine (op_words7 _).mono ?_
  rintro e w2 ⟨rfl, hb⟩
  have C2 := Lib.hid (keepBlk HC0.out hb)
  have D2 := Lib.hid (keepBlk HD0.out hb)
  have HB2 := Lib.hid (HB0.out.trans (hb.mono HB0.out.size))
  have HCK := Lib.hid (conf_check HK.out (g0.out.below_ hb).is)
  have G2 := Lib.hid (g0.out.below_ hb)
  unfold cfV at HCK
  clear d0 C0 D0 HC0 HD0 HB0 hb g0
  obtain ⟨c0, c1, c2, c3, c4, c5, c6, c7, c8⟩ := cf9 C2.out
  go_wp2_with fail
  with_reducible refine (HCK.out).mono ?_
  rintro e w3 ⟨rfl, hb⟩
  have C3 := keepBlk C2.out hb
  have D3 := keepBlk D2.out hb
  have HB3 := Lib.hid (HB2.out.trans (hb.mono HB2.out.size))
  have G3 := Lib.hid (G2.out.below_ hb)
  clear c0 c1 c2 c3 c4 c5 c6 c7 c8 C2 D2 HB2 hb HCK G2
  have cI : ∀ s pos, (w3.iter s pos).cell? ⟨w.heap.size, 4, none⟩ = some (.int .i64 c.locals) := fun s pos => (C3.alloc (.stringIter s pos)).cell 4
  have cI2 : ∀ s pos, (w3.iter s pos).cell? ⟨w.heap.size, 2, none⟩ = some (.int .i64 c.globals) := fun s pos => (C3.alloc (.stringIter s pos)).cell 2
  have dI0 : ∀ s pos, (w3.iter s pos).cell? ⟨ob, 0, none⟩ = some (.int .i64 7) := fun s pos => (D3.alloc (.stringIter s pos)).cell 0
  have dI1 : ∀ s pos, (w3.iter s pos).cell? ⟨ob, 1, none⟩ = some (.int .i64 A) := fun s pos => (D3.alloc (.stringIter s pos)).cell 1
  have dI2 : ∀ s pos, (w3.iter s pos).cell? ⟨ob, 2, none⟩ = some (.int .i64 B) := fun s pos => (D3.alloc (.stringIter s pos)).cell 2
  have dI4 : ∀ s pos, (w3.iter s pos).cell? ⟨ob, 4, none⟩ = some (.int .i64 N) := fun s pos => (D3.alloc (.stringIter s pos)).cell 4
  have HBI := Lib.hid fun (s : ByteArray) (pos : Nat) => (show Below w.heap.size w (w3.iter s pos) from HB3.out.alloc HB3.out.size (.stringIter s pos))
  have hnx0 : ∀ ty, (Instr.next (.pointer (some ⟨w3.heap.size, 0, none⟩)) true ty).run Tryz.prog (w3.iter ⟨#[97, 103]⟩ 0) = .ok (.tuple #[.bool true, .int .i64 0, .int .i32 97]) (w3.iter ⟨#[97, 103]⟩ 1) := fun ty => run_next_ascii w3 _ 0 ty (by decide) (by decide)
  have hnx1 : ∀ ty, (Instr.next (.pointer (some ⟨w3.heap.size, 0, none⟩)) true ty).run Tryz.prog (w3.iter ⟨#[97, 103]⟩ 1) = .ok (.tuple #[.bool true, .int .i64 1, .int .i32 103]) (w3.iter ⟨#[97, 103]⟩ 2) := fun ty => run_next_ascii w3 _ 1 ty (by decide) (by decide)
  have hnx2 := fun ty => run_next_end (P := Tryz.prog) w3 ⟨#[97, 103]⟩ 2 ty (by decide)
  have CC3 := Lib.hid C3
  have DD3 := Lib.hid D3
  clear C3 D3 HB3
  go_wp2_with fail
  go_loopw [8, 9, 10] (fun _ _ _ wr => ∃ pos : Nat, pos ≤ 2 ∧ wr = w3.iter ⟨#[97, 103]⟩ pos) (fun _ _ _ wr => iterLeft w3.heap.size wr)
  case atStart => exact ⟨0, by omega, rfl⟩
  case round =>
    obtain ⟨pos, hpos, rfl⟩ := hrel
    have hcase : pos = 0 ∨ pos = 1 ∨ pos = 2 := by omega
    rcases hcase with rfl | rfl | rfl
    · clear hnx1 hnx2
      go_wp2_with fail
      with_reducible refine (op_field_a _ _).mono ?_
      rintro e w6 ⟨rfl, rfl⟩
      go_wp2_with fail
      go_round
      case rel => exact ⟨1, by omega, rfl⟩
      case measure => rw [iterLeft_iter, iterLeft_iter]; decide
    · clear hnx0 hnx2
      go_wp2_with fail
      with_reducible refine (op_field_g _ _).mono ?_
      rintro e w6 ⟨rfl, rfl⟩
      go_wp2_with fail
      go_round
      case rel => exact ⟨2, by omega, rfl⟩
      case measure => rw [iterLeft_iter, iterLeft_iter]; decide
    · clear hnx0 hnx1
      go_wp2_with fail
      go_ret
      exact ⟨rfl, HBI.out _ _⟩
set_option maxRecDepth 100000 in
theorem op_check8 {A B C N z1 z2 : Nat} (hc : c.ok) (hB : B < c.locals) (hN : N < c.globals) (h : (Conf c g cap).at_ S w) :
    Calls Tryz.prog 167 #[cfV c g cap, .agg #[.int .i64 8, .int .i64 A, .int .i64 B, .int .i64 C, .int .i64 N, .complex .f64 z1 z2]] w fun e w' => e = .returned (.int .i64 0) ∧ Below w.heap.size w w' := by
  have hb0 : Below w.heap.size w ((w.alloc (.cells (cfCells c (.slice (some ⟨g, 0, none⟩) c.shapes.length cap)) 36)).alloc (.cells #[.int .i64 8, .int .i64 A, .int .i64 B, .int .i64 C, .int .i64 N, .complex .f64 z1 z2] 26)) := ((Below.refl w.heap.size w).alloc (Nat.le_refl _) _).alloc (by simp) _
  have C0 : Blk ((w.alloc (.cells (cfCells c (.slice (some ⟨g, 0, none⟩) c.shapes.length cap)) 36)).alloc (.cells #[.int .i64 8, .int .i64 A, .int .i64 B, .int .i64 C, .int .i64 N, .complex .f64 z1 z2] 26)) w.heap.size (cfCells c (.slice (some ⟨g, 0, none⟩) c.shapes.length cap)) 36 := (Blk.new w _ _).alloc _
  have D0 : Blk ((w.alloc (.cells (cfCells c (.slice (some ⟨g, 0, none⟩) c.shapes.length cap)) 36)).alloc (.cells #[.int .i64 8, .int .i64 A, .int .i64 B, .int .i64 C, .int .i64 N, .complex .f64 z1 z2] 26)) (w.heap.size + 1) #[.int .i64 8, .int .i64 A, .int .i64 B, .int .i64 C, .int .i64 N, .complex .f64 z1 z2] 26 := by have := Blk.new (w.alloc (.cells (cfCells c (.slice (some ⟨g, 0, none⟩) c.shapes.length cap)) 36)) #[.int .i64 8, .int .i64 A, .int .i64 B, .int .i64 C, .int .i64 N, .complex .f64 z1 z2] 26; rw [World.size_alloc] at this; exact this
  have HB0 := Lib.hid hb0
  have HC0 := Lib.hid C0
  have HD0 := Lib.hid D0
  have g0 := Lib.hid ((Goes.begin h).below_ hb0)
  have HK := Lib.hid hc
  unfold cfV at *
  simp only [cfCells] at *
  clear h hc hb0
  go_enter Tryz.func167, Tryz.ntmps167
  go_upto_region 1 with fail
  generalize (w.alloc _).alloc _ = W1 at *
  generalize hob : w.heap.size + 1 = ob at *
  have d0 := D0.cell 0
  simp at d0
  go_wp2_with fail
  with_reducible refine (op_words8 _).mono ?_
  rintro e w2 ⟨rfl, hb⟩
  have C2 := Lib.hid (keepBlk HC0.out hb)
  have D2 := Lib.hid (keepBlk HD0.out hb)
  have HB2 := Lib.hid (HB0.out.trans (hb.mono HB0.out.size))
  have HCK := Lib.hid (conf_check HK.out (g0.out.below_ hb).is)
  have G2 := Lib.hid (g0.out.below_ hb)
  unfold cfV at HCK
  clear d0 C0 D0 HC0 HD0 HB0 hb g0
  obtain ⟨c0, c1, c2, c3, c4, c5, c6, c7, c8⟩ := cf9 C2.out
  go_wp2_with fail
  with_reducible refine (HCK.out).mono ?_
  rintro e w3 ⟨rfl, hb⟩
  have C3 := keepBlk C2.out hb
  have D3 := keepBlk D2.out hb
  have HB3 := Lib.hid (HB2.out.trans (hb.mono HB2.out.size))
  have G3 := Lib.hid (G2.out.below_ hb)
  clear c0 c1 c2 c3 c4 c5 c6 c7 c8 C2 D2 HB2 hb HCK G2
  have cI : ∀ s pos, (w3.iter s pos).cell? ⟨w.heap.size, 4, none⟩ = some (.int .i64 c.locals) := fun s pos => (C3.alloc (.stringIter s pos)).cell 4
  have cI2 : ∀ s pos, (w3.iter s pos).cell? ⟨w.heap.size, 2, none⟩ = some (.int .i64 c.globals) := fun s pos => (C3.alloc (.stringIter s pos)).cell 2
  have dI0 : ∀ s pos, (w3.iter s pos).cell? ⟨ob, 0, none⟩ = some (.int .i64 8) := fun s pos => (D3.alloc (.stringIter s pos)).cell 0
  have dI1 : ∀ s pos, (w3.iter s pos).cell? ⟨ob, 1, none⟩ = some (.int .i64 A) := fun s pos => (D3.alloc (.stringIter s pos)).cell 1
  have dI2 : ∀ s pos, (w3.iter s pos).cell? ⟨ob, 2, none⟩ = some (.int .i64 B) := fun s pos => (D3.alloc (.stringIter s pos)).cell 2
  have dI4 : ∀ s pos, (w3.iter s pos).cell? ⟨ob, 4, none⟩ = some (.int .i64 N) := fun s pos => (D3.alloc (.stringIter s pos)).cell 4
  have HBI := Lib.hid fun (s : ByteArray) (pos : Nat) => (show Below w.heap.size w (w3.iter s pos) from HB3.out.alloc HB3.out.size (.stringIter s pos))
  have hnx0 : ∀ ty, (Instr.next (.pointer (some ⟨w3.heap.size, 0, none⟩)) true ty).run Tryz.prog (w3.iter ⟨#[103, 98]⟩ 0) = .ok (.tuple #[.bool true, .int .i64 0, .int .i32 103]) (w3.iter ⟨#[103, 98]⟩ 1) := fun ty => run_next_ascii w3 _ 0 ty (by decide) (by decide)
  have hnx1 : ∀ ty, (Instr.next (.pointer (some ⟨w3.heap.size, 0, none⟩)) true ty).run Tryz.prog (w3.iter ⟨#[103, 98]⟩ 1) = .ok (.tuple #[.bool true, .int .i64 1, .int .i32 98]) (w3.iter ⟨#[103, 98]⟩ 2) := fun ty => run_next_ascii w3 _ 1 ty (by decide) (by decide)
  have hnx2 := fun ty => run_next_end (P := Tryz.prog) w3 ⟨#[103, 98]⟩ 2 ty (by decide)
  have CC3 := Lib.hid C3
  have DD3 := Lib.hid D3
  clear C3 D3 HB3
  go_wp2_with fail
  go_loopw [8, 9, 10] (fun _ _ _ wr => ∃ pos : Nat, pos ≤ 2 ∧ wr = w3.iter ⟨#[103, 98]⟩ pos) (fun _ _ _ wr => iterLeft w3.heap.size wr)
  case atStart => exact ⟨0, by omega, rfl⟩
  case round =>
    obtain ⟨pos, hpos, rfl⟩ := hrel
    have hcase : pos = 0 ∨ pos = 1 ∨ pos = 2 := by omega
    rcases hcase with rfl | rfl | rfl
    · clear hnx1 hnx2
      go_wp2_with fail
      with_reducible refine (op_field_g _ _).mono ?_
      rintro e w6 ⟨rfl, rfl⟩
      go_wp2_with fail
      go_round
      case rel => exact ⟨1, by omega, rfl⟩
      case measure => rw [iterLeft_iter, iterLeft_iter]; decide
    · clear hnx0 hnx2
      go_wp2_with fail
      with_reducible refine (op_field_b _ _).mono ?_
      rintro e w6 ⟨rfl, rfl⟩
      go_wp2_with fail
      go_round
      case rel => exact ⟨2, by omega, rfl⟩
      case measure => rw [iterLeft_iter, iterLeft_iter]; decide
    · clear hnx0 hnx1
      go_wp2_with fail
      go_ret
      exact ⟨rfl, HBI.out _ _⟩
end
end Go.Proofs.YtnkgnhpapcnebaaGreat
/- Check, Need where something is made. -/
namespace Go.Proofs.YtnkgnhpapcnebaaGreat
open Go.RowKit
attribute [local go_sem] run_store_complex via_ret via_normal via_exit via_panic
set_option maxRecDepth 100000 in
theorem emp_goes (w : World) : Goes Emp (fun _ => False) w w := Goes.same fun _ h => h
set_option maxRecDepth 100000 in
theorem emp_below {w w' : World} (h : Goes Emp (fun _ => False) w w') : Below w.heap.size w w' := h.turned.below (Nat.le_refl _) fun _ h => h.elim
section
variable {c : Cf} {g cap : Nat} {S : Nat → Prop} {w w' : World}
set_option maxRecDepth 100000 in
theorem op_size1 {A B C N : Int} {z1 z2 n : Nat} (x : Option Addr) (k : Nat) (w : World) (hn : n ≤ 6) : Calls Tryz.prog 229 #[.agg #[.bool false, .slice x n k], .agg #[.int .i64 1, .int .i64 A, .int .i64 B, .int .i64 C, .int .i64 N, .complex .f64 z1 z2]] w fun e w' => e = .returned (.int .i64 1) ∧ Below w.heap.size w w' := by
  have D0 := (Blk.new w #[.bool false, .slice x n k] 57).alloc (.cells #[.int .i64 1, .int .i64 A, .int .i64 B, .int .i64 C, .int .i64 N, .complex .f64 z1 z2] 26)
  have E0 : Blk ((w.alloc (.cells #[.bool false, .slice x n k] 57)).alloc (.cells #[.int .i64 1, .int .i64 A, .int .i64 B, .int .i64 C, .int .i64 N, .complex .f64 z1 z2] 26)) (w.heap.size + 1) #[.int .i64 1, .int .i64 A, .int .i64 B, .int .i64 C, .int .i64 N, .complex .f64 z1 z2] 26 := by
    have := Blk.new (w.alloc (.cells #[.bool false, .slice x n k] 57)) #[.int .i64 1, .int .i64 A, .int .i64 B, .int .i64 C, .int .i64 N, .complex .f64 z1 z2] 26
    rw [World.size_alloc] at this; exact this
  have hb := Lib.hid (((Below.refl w.heap.size w).alloc (Nat.le_refl _) (.cells #[.bool false, .slice x n k] 57)).alloc (by simp) (.cells #[.int .i64 1, .int .i64 A, .int .i64 B, .int .i64 C, .int .i64 N, .complex .f64 z1 z2] 26))
  have HS := Lib.hid fun w => shape_size x n k w hn
  go_enter Tryz.func229, Tryz.ntmps229
  go_upto_region 1 with fail
  generalize (w.alloc _).alloc _ = W1 at *
  have d0 := D0.cell 0
  have d1 := D0.cell 1
  have e0 := E0.cell 0
  simp at d0 d1 e0
  clear D0 E0
  go_wp2_with fail
  with_reducible refine (HS.out _).mono ?_
  rintro e w2 ⟨rfl, hb2⟩
  have HF := Lib.hid (hb.out.trans (hb2.mono hb.out.size))
  clear HS hb hb2 d0 d1 e0
  go_wp2_with fail
  go_ret
  exact ⟨rfl, HF.out⟩
set_option maxRecDepth 100000 in
theorem op_check1 {A C N z1 z2 : Nat} {l : List Bool} (hc : c.ok) (hA : A < c.locals) (hs : c.shapes[0]? = some (false, l)) (h : (Conf c g cap).at_ S w) :
    Calls Tryz.prog 167 #[cfV c g cap, .agg #[.int .i64 1, .int .i64 A, (.int .i64 0), .int .i64 C, .int .i64 N, .complex .f64 z1 z2]] w fun e w' => e = .returned (.int .i64 0) ∧ Below w.heap.size w w' := by
  have hb0 : Below w.heap.size w ((w.alloc (.cells (cfCells c (.slice (some ⟨g, 0, none⟩) c.shapes.length cap)) 36)).alloc (.cells #[.int .i64 1, .int .i64 A, (.int .i64 0), .int .i64 C, .int .i64 N, .complex .f64 z1 z2] 26)) := ((Below.refl w.heap.size w).alloc (Nat.le_refl _) _).alloc (by simp) _
  have C0 : Blk ((w.alloc (.cells (cfCells c (.slice (some ⟨g, 0, none⟩) c.shapes.length cap)) 36)).alloc (.cells #[.int .i64 1, .int .i64 A, (.int .i64 0), .int .i64 C, .int .i64 N, .complex .f64 z1 z2] 26)) w.heap.size (cfCells c (.slice (some ⟨g, 0, none⟩) c.shapes.length cap)) 36 := (Blk.new w _ _).alloc _
  have D0 : Blk ((w.alloc (.cells (cfCells c (.slice (some ⟨g, 0, none⟩) c.shapes.length cap)) 36)).alloc (.cells #[.int .i64 1, .int .i64 A, (.int .i64 0), .int .i64 C, .int .i64 N, .complex .f64 z1 z2] 26)) (w.heap.size + 1) #[.int .i64 1, .int .i64 A, (.int .i64 0), .int .i64 C, .int .i64 N, .complex .f64 z1 z2] 26 := by have := Blk.new (w.alloc (.cells (cfCells c (.slice (some ⟨g, 0, none⟩) c.shapes.length cap)) 36)) #[.int .i64 1, .int .i64 A, (.int .i64 0), .int .i64 C, .int .i64 N, .complex .f64 z1 z2] 26; rw [World.size_alloc] at this; exact this
  have HB0 := Lib.hid hb0
  have HC0 := Lib.hid C0
  have HD0 := Lib.hid D0
  have g0 := Lib.hid ((Goes.begin h).below_ hb0)
  have HK := Lib.hid hc
  have HSH := Lib.hid hs
  have hl6 : l.length ≤ 6 := (hc.shape _ (List.mem_of_getElem? hs)).1
  unfold cfV at *
  simp only [cfCells] at *
  clear h hc hb0 hs
  go_enter Tryz.func167, Tryz.ntmps167
  go_upto_region 1 with fail
  generalize (w.alloc _).alloc _ = W1 at *
  generalize hob : w.heap.size + 1 = ob at *
  have d0 := D0.cell 0
  simp at d0
  go_wp2_with fail
  with_reducible refine (op_words1 _).mono ?_
  rintro e w2 ⟨rfl, hb⟩
  have C2 := Lib.hid (keepBlk HC0.out hb)
  have D2 := Lib.hid (keepBlk HD0.out hb)
  have HB2 := Lib.hid (HB0.out.trans (hb.mono HB0.out.size))
  have HCK := Lib.hid (conf_check HK.out (g0.out.below_ hb).is)
  have G2 := Lib.hid (g0.out.below_ hb)
  unfold cfV at HCK
  clear d0 C0 D0 HC0 HD0 HB0 hb g0
  obtain ⟨c0, c1, c2, c3, c4, c5, c6, c7, c8⟩ := cf9 C2.out
  go_wp2_with fail
  with_reducible refine (HCK.out).mono ?_
  rintro e w3 ⟨rfl, hb⟩
  have C3 := keepBlk C2.out hb
  have D3 := keepBlk D2.out hb
  have HB3 := Lib.hid (HB2.out.trans (hb.mono HB2.out.size))
  have G3 := Lib.hid (G2.out.below_ hb)
  clear c0 c1 c2 c3 c4 c5 c6 c7 c8 C2 D2 HB2 hb HCK G2
  have cI : ∀ s pos, (w3.iter s pos).cell? ⟨w.heap.size, 4, none⟩ = some (.int .i64 c.locals) := fun s pos => (C3.alloc (.stringIter s pos)).cell 4
  have cI2 : ∀ s pos, (w3.iter s pos).cell? ⟨w.heap.size, 2, none⟩ = some (.int .i64 c.globals) := fun s pos => (C3.alloc (.stringIter s pos)).cell 2
  have dI0 : ∀ s pos, (w3.iter s pos).cell? ⟨ob, 0, none⟩ = some (.int .i64 1) := fun s pos => (D3.alloc (.stringIter s pos)).cell 0
  have dI1 : ∀ s pos, (w3.iter s pos).cell? ⟨ob, 1, none⟩ = some (.int .i64 A) := fun s pos => (D3.alloc (.stringIter s pos)).cell 1
  have dI2 : ∀ s pos, (w3.iter s pos).cell? ⟨ob, 2, none⟩ = some (.int .i64 0) := fun s pos => (D3.alloc (.stringIter s pos)).cell 2
  have dI4 : ∀ s pos, (w3.iter s pos).cell? ⟨ob, 4, none⟩ = some (.int .i64 N) := fun s pos => (D3.alloc (.stringIter s pos)).cell 4
  have HBI := Lib.hid fun (s : ByteArray) (pos : Nat) => (show Below w.heap.size w (w3.iter s pos) from HB3.out.alloc HB3.out.size (.stringIter s pos))
  have hnx0 : ∀ ty, (Instr.next (.pointer (some ⟨w3.heap.size, 0, none⟩)) true ty).run Tryz.prog (w3.iter ⟨#[97, 107]⟩ 0) = .ok (.tuple #[.bool true, .int .i64 0, .int .i32 97]) (w3.iter ⟨#[97, 107]⟩ 1) := fun ty => run_next_ascii w3 _ 0 ty (by decide) (by decide)
  have hnx1 : ∀ ty, (Instr.next (.pointer (some ⟨w3.heap.size, 0, none⟩)) true ty).run Tryz.prog (w3.iter ⟨#[97, 107]⟩ 1) = .ok (.tuple #[.bool true, .int .i64 1, .int .i32 107]) (w3.iter ⟨#[97, 107]⟩ 2) := fun ty => run_next_ascii w3 _ 1 ty (by decide) (by decide)
  have hnx2 := fun ty => run_next_end (P := Tryz.prog) w3 ⟨#[97, 107]⟩ 2 ty (by decide)
  have CC3 := Lib.hid C3
  have DD3 := Lib.hid D3
  clear C3 D3 HB3
  go_wp2_with fail
  go_loopw [8, 9, 10] (fun _ _ _ wr => ∃ pos : Nat, pos ≤ 2 ∧ wr = w3.iter ⟨#[97, 107]⟩ pos) (fun _ _ _ wr => iterLeft w3.heap.size wr)
  case atStart => exact ⟨0, by omega, rfl⟩
  case round =>
    obtain ⟨pos, hpos, rfl⟩ := hrel
    have hcase : pos = 0 ∨ pos = 1 ∨ pos = 2 := by omega
    rcases hcase with rfl | rfl | rfl
    · clear hnx1 hnx2
      go_wp2_with fail
      with_reducible refine (op_field_a _ _).mono ?_
      rintro e w6 ⟨rfl, rfl⟩
      go_wp2_with fail
      go_round
      case rel => exact ⟨1, by omega, rfl⟩
      case measure => rw [iterLeft_iter, iterLeft_iter]; decide
    · clear hnx0 hnx2
      go_wp2_with fail
      go_round
      case rel => exact ⟨2, by omega, rfl⟩
      case measure => rw [iterLeft_iter, iterLeft_iter]; decide
    · have C4 : Blk (w3.iter ⟨#[97, 107]⟩ 2) _ _ _ := CC3.out.alloc (.stringIter ⟨#[97, 107]⟩ 2)
      have D4 : Blk (w3.iter ⟨#[97, 107]⟩ 2) _ _ _ := DD3.out.alloc (.stringIter ⟨#[97, 107]⟩ 2)
      have G4 := G3.out.below_ (show Below w3.heap.size w3 (w3.iter ⟨#[97, 107]⟩ 2) from (Below.refl _ _).alloc (Nat.le_refl _) _)
      have HA := Lib.hid (conf_shapeK (i := 0) HK.out G4.is HSH.out)
      rw [show ((0 : Nat) : Int) = 0 from rfl] at HA
      unfold cfV at HA
      have HB4 := Lib.hid (HBI.out ⟨#[97, 107]⟩ 2)
      have hnx := hnx2
      clear hnx0 hnx1 hnx2 cI cI2 dI0 dI1 dI2 dI4 CC3 DD3 HBI G3 G4
      generalize w3.iter ⟨#[97, 107]⟩ 2 = w4 at *
      generalize w3.heap.size = itb at *
      obtain ⟨c0, c1, c2, c3, c4, c5, c6, c7, c8⟩ := cf9 C4
      have e0 := D4.cell 0
      have e1 := D4.cell 1
      have e2 := D4.cell 2
      have e3 := D4.cell 3
      have e4 := D4.cell 4
      have e5 := D4.cell 5
      simp at e0 e1 e2 e3 e4 e5
      have CC4 := Lib.hid C4
      have DD4 := Lib.hid D4
      clear C4 D4
      go_wp2_with fail
      with_reducible refine HA.out.mono ?_
      rintro e w5 ht
      obtain ⟨u, rfl, hst⟩ := told_st ht
      obtain ⟨x1, k1, rfl⟩ := hst.1.choose_spec.1.1.slice
      have hb := hst.below
      have C5 := keepBlk CC4.out hb
      have D5 := keepBlk DD4.out hb
      have HB5 := HB4.out.trans (hb.mono HB4.out.size)
      have C6 := Lib.hid (C5.alloc (.cells #[.bool false, .slice x1 l.length k1] 57))
      have D6 := Lib.hid (D5.alloc (.cells #[.bool false, .slice x1 l.length k1] 57))
      have E6 := Lib.hid (Blk.new w5 #[.bool false, .slice x1 l.length k1] 57)
      have HB6 := Lib.hid (HB5.alloc HB5.size (.cells #[.bool false, .slice x1 l.length k1] 57))
      clear ht hst hb C5 D5 HB5 HA CC4 DD4 HB4 c0 c1 c2 c3 c4 c5 c6 c7 c8 e0 e1 e2 e3 e4 e5 hnx
      go_upto_region 21 with fail
      generalize w5.alloc _ = w6 at *
      generalize w5.heap.size = sb at *
      have e0 := D6.out.cell 0
      have e1 := D6.out.cell 1
      have e2 := D6.out.cell 2
      have e3 := D6.out.cell 3
      have e4 := D6.out.cell 4
      have e5 := D6.out.cell 5
      have s0 := E6.out.cell 0
      have s1 := E6.out.cell 1
      simp at e0 e1 e2 e3 e4 e5 s0 s1
      go_wp2_with fail
      with_reducible refine (op_size1 _ _ _ hl6).mono ?_
      rintro e w7 ⟨rfl, hb⟩
      have C7 := keepBlk C6.out hb
      have D7 := keepBlk D6.out hb
      have E7 := keepBlk E6.out hb
      have HB7 := Lib.hid (HB6.out.trans (hb.mono HB6.out.size))
      clear e0 e1 e2 e3 e4 e5 s0 s1 C6 D6 E6 HB6 hb
      have g7 := Lib.hid (emp_goes w7).drew_
      have hne : Nonempty (In Emp (fun _ => False) w7) := ⟨⟨_, g7.out⟩⟩
      have e0 : ∀ i : In Emp (fun _ => False) w7, i.w.cell? ⟨ob, 0, none⟩ = some (.int .i64 1) := fun i => (keepBlk D7 (emp_below i.h)).cell 0
      have e1 : ∀ i : In Emp (fun _ => False) w7, i.w.cell? ⟨ob, 1, none⟩ = some (.int .i64 A) := fun i => (keepBlk D7 (emp_below i.h)).cell 1
      have e2 : ∀ i : In Emp (fun _ => False) w7, i.w.cell? ⟨ob, 2, none⟩ = some (.int .i64 0) := fun i => (keepBlk D7 (emp_below i.h)).cell 2
      have e3 : ∀ i : In Emp (fun _ => False) w7, i.w.cell? ⟨ob, 3, none⟩ = some (.int .i64 C) := fun i => (keepBlk D7 (emp_below i.h)).cell 3
      have e4 : ∀ i : In Emp (fun _ => False) w7, i.w.cell? ⟨ob, 4, none⟩ = some (.int .i64 N) := fun i => (keepBlk D7 (emp_below i.h)).cell 4
      have e5 : ∀ i : In Emp (fun _ => False) w7, i.w.cell? ⟨ob, 5, none⟩ = some (.complex .f64 z1 z2) := fun i => (keepBlk D7 (emp_below i.h)).cell 5
      have s0 : ∀ i : In Emp (fun _ => False) w7, i.w.cell? ⟨sb, 0, none⟩ = some (.bool false) := fun i => (keepBlk E7 (emp_below i.h)).cell 0
      have s1 : ∀ i : In Emp (fun _ => False) w7, i.w.cell? ⟨sb, 1, none⟩ = some (.slice x1 l.length k1) := fun i => (keepBlk E7 (emp_below i.h)).cell 1
      have k0 : ∀ i : In Emp (fun _ => False) w7, i.w.cell? ⟨w.heap.size, 0, none⟩ = some (.int .i64 c.frags) := fun i => (keepBlk C7 (emp_below i.h)).cell 0
      have k1c : ∀ i : In Emp (fun _ => False) w7, i.w.cell? ⟨w.heap.size, 1, none⟩ = some (.int .i64 c.spine) := fun i => (keepBlk C7 (emp_below i.h)).cell 1
      have HZ := Lib.hid fun w1 (hg : Goes Emp (fun _ => False) w7 w1) => hg.plain (op_size1 (A := (A : Int)) (B := 0) (C := (C : Int)) (N := (N : Int)) (z1 := z1) (z2 := z2) x1 k1 w1 hl6)
      have HP := Lib.hid fun w1 (hg : Goes Emp (fun _ => False) w7 w1) => hg.plain (shape_spine x1 l.length k1 N w1 hl6)
      have hf1 : decide ((c.frags : Int) < 1) = false := by have := HK.out.frags; simp; omega
      have hf2 : decide ((c.spine : Int) < 0) = false := by simp
      have hf3 : ¬ ((c.frags : Int) < 1) := by have := HK.out.frags; omega
      have hf4 : ¬ c.frags < 1 := by have := HK.out.frags; omega
      have hf5 : c.frags ≠ 0 := by have := HK.out.frags; omega
      clear C7 D7 E7
      go_wp2_with fail
      refine wp_region_in (by kernel_rfl) (by kernel_rfl) g7.out ?_
      repeat (go_big_quiet_step (first | exact In.call HZ.out | exact In.call HP.out))
      refine wpQuiet_nil ?_
      intro w8 g8
      have HF := Lib.hid (HB7.out.trans ((emp_below g8).mono HB7.out.size))
      clear e0 e1 e2 e3 e4 e5 s0 s1 k0 k1c HZ HP g7 hne g8 HB7
      go_wp2_with fail
      go_ret
      exact ⟨rfl, HF.out⟩
end
end Go.Proofs.YtnkgnhpapcnebaaGreat
