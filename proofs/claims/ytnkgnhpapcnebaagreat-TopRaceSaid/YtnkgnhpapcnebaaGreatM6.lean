/- The contracts of packages stock and line, where both are empty. -/
import Derived.Test.YtnkgnhpapcnebaaGreatM5
set_option linter.unusedVariables false
set_option linter.unusedSimpArgs false
set_option maxHeartbeats 8000000
namespace Go.Proofs.YtnkgnhpapcnebaaGreat
open Go.RowKit
attribute [local go_sem] run_store_complex
/-- An empty stock with no room. -/
def Stk (b : Nat) : Thing := Var b #[.slice none 0 0, .int .i64 0] 216
/-- An empty line. -/
def Lne (b : Nat) : Thing := Var b #[.slice none 0 0] 214
def zeroReq : Value := .agg #[.int .i64 0, .int .i64 0, .int .i64 0, .int .i64 0, .int .i64 0, .int .i64 0, .slice none 0 0]
section
variable {b : Nat} {S : Nat → Prop} {w w' : World}
set_option maxRecDepth 100000 in
theorem stock_take (h : (Stk b).at_ S w) : Calls Tryz.prog 283 #[.pointer (some ⟨b, 0, none⟩), .int .i64 1] w fun e w' => e = .returned (.tuple #[.slice none 0 0, .bool false]) ∧ w = w' := by
  have c0 := (Goes.begin h).vc 0 (v := .slice none 0 0) rfl
  clear h
  go_enter Tryz.func283, Tryz.ntmps283
  go_wp2_with fail
  go_ret2
  exact ⟨rfl, rfl⟩
set_option maxRecDepth 100000 in
theorem stock_room (h : (Stk b).at_ S w) : Calls Tryz.prog 285 #[.pointer (some ⟨b, 0, none⟩)] w fun e w' => e = .returned (.int .i64 0) ∧ Below w.heap.size w w' := by
  have c0 := (Goes.begin h).vc 0 (v := .slice none 0 0) rfl
  have c1 := (Goes.begin h).vc 1 (v := .int .i64 0) rfl
  clear h
  go_enter Tryz.func285, Tryz.ntmps285
  go_wp2_with fail
  go_quiet (fail)
  go_wp2_with fail
  go_ret
  exact ⟨rfl, below_drewN (Below.refl _ _) _⟩
set_option maxRecDepth 100000 in
theorem stock_drain (h : (Stk b).at_ S w) : Calls Tryz.prog 165 #[.pointer (some ⟨b, 0, none⟩)] w fun e w' => e = .returned (.slice none 0 0) ∧ Goes (Stk b) S w w' := by
  have g0 := Goes.begin h
  have c0 := g0.vc 0 (v := .slice none 0 0) rfl
  have f0 := g0.vf 0
  have HG := Lib.hid (g0.vput 0 (.slice none 0 0) (cs' := #[.slice none 0 0, .int .i64 0]) rfl)
  clear h g0
  go_enter Tryz.func165, Tryz.ntmps165
  go_wp2_with fail
  go_ret
  exact ⟨rfl, HG.out⟩
set_option maxRecDepth 100000 in
theorem stock_new (w : World) : Calls Tryz.prog 76 #[.int .i64 0] w fun e w' => ∃ b, e = .returned (.tuple #[.pointer (some ⟨b, 0, none⟩), .int .i64 0]) ∧ St w (Stk b) w' := by
  have hs := Lib.hid (St.fresh (w := w) #[.slice none 0 0, .int .i64 0] 216)
  go_enter Tryz.func76, Tryz.ntmps76
  go_wp2_with fail
  go_ret2
  exact ⟨_, rfl, hs.out⟩
set_option maxRecDepth 100000 in
theorem append_none (w : World) : (Builtin.append_ #[22, 22] 22 #[.slice none 0 0, .slice none 0 0]).run Tryz.prog w = .ok (.slice none 0 0) w := by
  obtain ⟨i0, hi, hz0, hz1, hz2⟩ := info_parts Tryz.info3
  simp [Builtin.append_, run_underlying Tryz.underlying22, sizeOf, typeInfo, hi, Builtin.lenOf, Builtin.firstCells, loadCells, loadCellsFrom]
set_option maxRecDepth 100000 in
theorem stock_put (h : (Stk b).at_ S w) : Calls Tryz.prog 286 #[.pointer (some ⟨b, 0, none⟩), .slice none 0 0] w fun e w' => e = .returned (.bool true) ∧ Goes (Stk b) S w w' := by
  have HR := Lib.hid (stock_room h)
  have HH := Lib.hid h
  have ha := append_none
  clear h
  go_enter Tryz.func286, Tryz.ntmps286
  go_wp2_with fail
  with_reducible refine (HR.out).mono ?_
  rintro e w1 ⟨rfl, hb⟩
  have g0 := Goes.later HH.out hb
  have c0 := g0.vc 0 (v := .slice none 0 0) rfl
  have f0 := g0.vf 0
  have HG := Lib.hid (g0.vput 0 (.slice none 0 0) (cs' := #[.slice none 0 0, .int .i64 0]) rfl)
  clear HR HH hb g0
  go_wp2_with fail
  go_ret
  exact ⟨rfl, HG.out⟩
set_option maxRecDepth 100000 in
theorem stock_side (a : Option Addr) (k : Nat) (w : World) : Calls Tryz.prog 223 #[.slice a 1 k] w fun e w' => e = .returned (.bool true) ∧ w = w' := by
  go_enter Tryz.func223, Tryz.ntmps223
  go_wp2_with fail
  go_loop [3] (fun i => i = .int .i64 1) (fun _ => 0)
  case atStart => exact rfl
  case round =>
    obtain rfl := hrel
    go_wp2_with fail
    go_ret
    exact ⟨rfl, rfl⟩
set_option maxRecDepth 100000 in
theorem line_new (w : World) : Calls Tryz.prog 75 #[] w fun e w' => ∃ b, e = .returned (.pointer (some ⟨b, 0, none⟩)) ∧ St w (Lne b) w' := by
  have hs := Lib.hid (St.fresh (w := w) #[.slice none 0 0] 214)
  go_enter Tryz.func75, Tryz.ntmps75
  go_wp2_with fail
  go_ret
  exact ⟨_, rfl, hs.out⟩
set_option maxRecDepth 100000 in
theorem line_index (fv : Value) (w : World) : Calls Tryz.prog 276 #[.slice none 0 0, fv] w fun e w' => e = .returned (.int .i64 (-1)) ∧ w = w' := by
  go_enter Tryz.func276, Tryz.ntmps276
  go_wp2_with fail
  go_loop [5, 8] (fun _ i => i = .int .i64 0) (fun _ _ => 0)
  case atStart => exact rfl
  case round =>
    obtain rfl := hrel
    go_wp2_with fail
    go_ret
    exact ⟨rfl, rfl⟩
set_option maxRecDepth 100000 in
theorem line_of (t : Int) (h : (Lne b).at_ S w) : Calls Tryz.prog 247 #[.pointer (some ⟨b, 0, none⟩), .int .i64 t] w fun e w' => e = .returned (.int .i64 (-1)) ∧ Below w.heap.size w w' := by
  have hb := (Below.refl w.heap.size w).alloc (Nat.le_refl _) (.cells #[.int .i64 t] 3)
  have c0 := ((Goes.begin h).below_ hb).vc 0 (v := .slice none 0 0) rfl
  have HB := Lib.hid hb
  clear h hb
  go_enter Tryz.func247, Tryz.ntmps247
  go_upto_region 1 with fail
  generalize w.alloc _ = w1 at *
  go_wp2_with fail
  with_reducible refine (line_index _ _).mono ?_
  rintro e w2 ⟨rfl, rfl⟩
  go_wp2_with fail
  go_ret
  exact ⟨rfl, HB.out⟩
set_option maxRecDepth 100000 in
theorem line_first (h : (Lne b).at_ S w) : Calls Tryz.prog 219 #[.pointer (some ⟨b, 0, none⟩)] w fun e w' => e = .returned (.int .i64 (-1)) ∧ w = w' := by
  have c0 := (Goes.begin h).vc 0 (v := .slice none 0 0) rfl
  clear h
  go_enter Tryz.func219, Tryz.ntmps219
  go_wp2_with fail
  with_reducible refine (line_index _ _).mono ?_
  rintro e w2 ⟨rfl, rfl⟩
  go_wp2_with fail
  go_ret
  exact ⟨rfl, rfl⟩
def zeroReqCells : Array Value := #[.int .i64 0, .int .i64 0, .int .i64 0, .int .i64 0, .int .i64 0, .int .i64 0, .slice none 0 0]
set_option maxRecDepth 100000 in
theorem line_at (p : Value) (w : World) : Calls Tryz.prog 218 #[p, .int .i64 (-1)] w fun e w' => e = .returned (.tuple #[zeroReq, .bool false]) ∧ Below w.heap.size w w' := by
  have D0 := Blk.new w zeroReqCells 224
  have hb := (Below.refl w.heap.size w).alloc (Nat.le_refl _) (.cells zeroReqCells 224)
  have F0 := D0.fill zeroReqCells.toList rfl
  have HB := Lib.hid (setCells_below (a := w) (Nat.le_refl _) zeroReqCells.toList _ 0 hb)
  have d0 := D0.cell 0
  have d1 := D0.cell 1
  have d2 := D0.cell 2
  have d3 := D0.cell 3
  have d4 := D0.cell 4
  have d5 := D0.cell 5
  have d6 := D0.cell 6
  have f0 := D0.free 0
  have f1 := D0.free 1
  have f2 := D0.free 2
  have f3 := D0.free 3
  have f4 := D0.free 4
  have f5 := D0.free 5
  have f6 := D0.free 6
  have e0 := F0.cell 0
  have e1 := F0.cell 1
  have e2 := F0.cell 2
  have e3 := F0.cell 3
  have e4 := F0.cell 4
  have e5 := F0.cell 5
  have e6 := F0.cell 6
  unfold zeroReq
  simp only [zeroReqCells, setCells] at *
  simp only [List.getElem?_toArray, List.size_toArray, List.getElem?_cons_zero, List.getElem?_cons_succ] at d0 d1 d2 d3 d4 d5 d6 e0 e1 e2 e3 e4 e5 e6
  clear D0 hb F0
  go_enter Tryz.func218, Tryz.ntmps218
  go_upto_region 1 with fail
  generalize w.alloc _ = w1 at *
  go_wp2_with fail
  exact bodyPost_ret (v := .tuple #[.agg #[.int .i64 0, .int .i64 0, .int .i64 0, .int .i64 0, .int .i64 0, .int .i64 0, .slice none 0 0], .bool false]) (by simp [results, Tryz.results218, go_sem, e0, e1, e2, e3, e4, e5, e6]) rfl ⟨rfl, HB.out⟩
set_option maxRecDepth 100000 in
theorem line_Of (t : Int) (h : (Lne b).at_ S w) : Calls Tryz.prog 187 #[.pointer (some ⟨b, 0, none⟩), .int .i64 t] w fun e w' => e = .returned (.tuple #[zeroReq, .bool false]) ∧ Below w.heap.size w w' := by
  have D0 := Blk.new w zeroReqCells 224
  have hb := (Below.refl w.heap.size w).alloc (Nat.le_refl _) (.cells zeroReqCells 224)
  have h1 := keep h hb
  have HB := Lib.hid hb
  have HD := Lib.hid D0
  have HO := Lib.hid (line_of t h1)
  simp only [zeroReqCells] at *
  clear h hb D0 h1
  go_enter Tryz.func187, Tryz.ntmps187
  go_upto_region 1 with fail
  generalize w.alloc _ = w1 at *
  go_wp2_with fail
  with_reducible refine (HO.out).mono ?_
  rintro e w2 ⟨rfl, hb2⟩
  have D2 := keepBlk HD.out hb2
  have B2 := HB.out.trans (hb2.mono HB.out.size)
  clear HO HD HB hb2
  go_wp2_with fail
  with_reducible refine (line_at _ _).mono ?_
  rintro e w3 ⟨rfl, hb3⟩
  have D3 := keepBlk D2 hb3
  have B3 := B2.trans (hb3.mono B2.size)
  clear hb3 D2 B2
  have F0 := D3.fill zeroReqCells.toList rfl
  have HB := Lib.hid (setCells_below (a := w) (Nat.le_refl _) zeroReqCells.toList _ 0 B3)
  have d0 := D3.cell 0
  have f0 := D3.free 0
  have e0 := F0.cell 0
  have d1 := D3.cell 1
  have f1 := D3.free 1
  have e1 := F0.cell 1
  have d2 := D3.cell 2
  have f2 := D3.free 2
  have e2 := F0.cell 2
  have d3 := D3.cell 3
  have f3 := D3.free 3
  have e3 := F0.cell 3
  have d4 := D3.cell 4
  have f4 := D3.free 4
  have e4 := F0.cell 4
  have d5 := D3.cell 5
  have f5 := D3.free 5
  have e5 := F0.cell 5
  have d6 := D3.cell 6
  have f6 := D3.free 6
  have e6 := F0.cell 6
  unfold zeroReq
  simp only [zeroReqCells, setCells] at *
  simp only [List.getElem?_toArray, List.size_toArray, List.getElem?_cons_zero, List.getElem?_cons_succ] at d0 d1 d2 d3 d4 d5 d6 e0 e1 e2 e3 e4 e5 e6
  clear D3 B3 F0
  go_wp2_with fail
  exact bodyPost_ret (v := .tuple #[.agg #[.int .i64 0, .int .i64 0, .int .i64 0, .int .i64 0, .int .i64 0, .int .i64 0, .slice none 0 0], .bool false]) (by simp [results, Tryz.results187, go_sem, e0, e1, e2, e3, e4, e5, e6]) rfl ⟨rfl, HB.out⟩
set_option maxRecDepth 100000 in
theorem line_First (h : (Lne b).at_ S w) : Calls Tryz.prog 156 #[.pointer (some ⟨b, 0, none⟩)] w fun e w' => e = .returned (.tuple #[zeroReq, .bool false]) ∧ Below w.heap.size w w' := by
  have D0 := Blk.new w zeroReqCells 224
  have hb := (Below.refl w.heap.size w).alloc (Nat.le_refl _) (.cells zeroReqCells 224)
  have h1 := keep h hb
  have HB := Lib.hid hb
  have HD := Lib.hid D0
  have HO := Lib.hid (line_first h1)
  simp only [zeroReqCells] at *
  clear h hb D0 h1
  go_enter Tryz.func156, Tryz.ntmps156
  go_upto_region 1 with fail
  generalize w.alloc _ = w1 at *
  go_wp2_with fail
  with_reducible refine (HO.out).mono ?_
  rintro e w2 ⟨rfl, rfl⟩
  have hb2 : Below w1.heap.size w1 w1 := Below.refl _ _
  have D2 := keepBlk HD.out hb2
  have B2 := HB.out.trans (hb2.mono HB.out.size)
  clear HO HD HB hb2
  go_wp2_with fail
  with_reducible refine (line_at _ _).mono ?_
  rintro e w3 ⟨rfl, hb3⟩
  have D3 := keepBlk D2 hb3
  have B3 := B2.trans (hb3.mono B2.size)
  clear hb3 D2 B2
  have F0 := D3.fill zeroReqCells.toList rfl
  have HB := Lib.hid (setCells_below (a := w) (Nat.le_refl _) zeroReqCells.toList _ 0 B3)
  have d0 := D3.cell 0
  have f0 := D3.free 0
  have e0 := F0.cell 0
  have d1 := D3.cell 1
  have f1 := D3.free 1
  have e1 := F0.cell 1
  have d2 := D3.cell 2
  have f2 := D3.free 2
  have e2 := F0.cell 2
  have d3 := D3.cell 3
  have f3 := D3.free 3
  have e3 := F0.cell 3
  have d4 := D3.cell 4
  have f4 := D3.free 4
  have e4 := F0.cell 4
  have d5 := D3.cell 5
  have f5 := D3.free 5
  have e5 := F0.cell 5
  have d6 := D3.cell 6
  have f6 := D3.free 6
  have e6 := F0.cell 6
  unfold zeroReq
  simp only [zeroReqCells, setCells] at *
  simp only [List.getElem?_toArray, List.size_toArray, List.getElem?_cons_zero, List.getElem?_cons_succ] at d0 d1 d2 d3 d4 d5 d6 e0 e1 e2 e3 e4 e5 e6
  clear D3 B3 F0
  go_wp2_with fail
  exact bodyPost_ret (v := .tuple #[.agg #[.int .i64 0, .int .i64 0, .int .i64 0, .int .i64 0, .int .i64 0, .int .i64 0, .slice none 0 0], .bool false]) (by simp [results, Tryz.results156, go_sem, e0, e1, e2, e3, e4, e5, e6]) rfl ⟨rfl, HB.out⟩
set_option maxRecDepth 100000 in
theorem line_begin (h : (Lne b).at_ S w) : Calls Tryz.prog 135 #[.pointer (some ⟨b, 0, none⟩)] w fun e w' => e = .returned (.tuple #[]) ∧ w = w' := by
  have c0 := (Goes.begin h).vc 0 (v := .slice none 0 0) rfl
  clear h
  go_enter Tryz.func135, Tryz.ntmps135
  go_wp2_with fail
  go_loop [2, 8] (fun _ i => i = .int .i64 0) (fun _ _ => 0)
  case atStart => exact rfl
  case round =>
    obtain rfl := hrel
    go_wp2_with fail
    go_end0
    exact ⟨rfl, rfl⟩
set_option maxRecDepth 100000 in
theorem line_end (h : (Lne b).at_ S w) : Calls Tryz.prog 155 #[.pointer (some ⟨b, 0, none⟩)] w fun e w' => e = .returned (.tuple #[]) ∧ w = w' := by
  have c0 := (Goes.begin h).vc 0 (v := .slice none 0 0) rfl
  clear h
  go_enter Tryz.func155, Tryz.ntmps155
  go_wp2_with fail
  go_loop [2, 3, 9] (fun _ _ i => i = .int .i64 0) (fun _ _ _ => 0)
  case atStart => exact rfl
  case round =>
    obtain rfl := hrel
    go_wp2_with fail
    go_end0
    exact ⟨rfl, rfl⟩
set_option maxRecDepth 100000 in
theorem line_waits (h : (Lne b).at_ S w) : Calls Tryz.prog 133 #[.pointer (some ⟨b, 0, none⟩)] w fun e w' => e = .returned (.int .i64 0) ∧ w = w' := by
  have c0 := (Goes.begin h).vc 0 (v := .slice none 0 0) rfl
  clear h
  go_enter Tryz.func133, Tryz.ntmps133
  go_wp2_with fail
  go_loop [3, 5, 11] (fun n _ i => n = .int .i64 0 ∧ i = .int .i64 0) (fun _ _ _ => 0)
  case atStart => exact ⟨rfl, rfl⟩
  case round =>
    obtain ⟨rfl, rfl⟩ := hrel
    go_wp2_with fail
    go_ret
    exact ⟨rfl, rfl⟩
end
end Go.Proofs.YtnkgnhpapcnebaaGreat
