/- A thread: its thing; an operation's end. -/
import Derived.Test.YtnkgnhpapcnebaaGreatM11
import Derived.Test.YtnkgnhpapcnebaaGreatM12
set_option linter.unusedVariables false
set_option linter.unusedSimpArgs false
set_option maxHeartbeats 8000000
namespace Go.Proofs.YtnkgnhpapcnebaaGreat
open Go.RowKit
attribute [local go_sem] run_store_complex via_ret via_normal via_exit via_panic
/-- A thread's cells that change. -/
structure Tc where
  ph : Int
  st : Int
  sn : Bool
  nx : Nat
  pc : Int
  seen : Int
  grey : Value
  own : Int
  at_ : Int
  f : Value
  addr : Int
  ref : Bool
  o1 : Nat
  o2 : Nat
  w1 : Nat
  w2 : Nat
  got : Value
  wr : Value
def thCells (t : Nat) (ov lv : Value) (x : Tc) : Array Value := #[.int .i64 (t : Int), ov, lv, .int .i64 x.ph, .int .i64 x.st, .bool x.sn, .int .i64 (x.nx : Int), .int .i64 x.pc, .int .i64 x.seen, x.grey,
  .int .i64 x.own, .int .i64 x.at_, x.f, .int .i64 x.addr, .bool x.ref, .complex .f64 x.o1 x.o2, .complex .f64 x.w1 x.w2, x.got, x.wr]
/-- A thread, and what is its. -/
def Thr (b t : Nat) (ov lv : Value) (x : Tc) (X : Thing) : Thing := Sep (Var b (thCells t ov lv x) 125) X
/-- A result, as it is handed back. -/
def resV (nx : Nat) (own e : Int) (r : Bool) (z1 z2 : Nat) : Value := .agg #[.int .i64 (nx : Int), .int .i64 own, .int .i64 e, .bool r, .complex .f64 z1 z2]
def zeroRes : Array Value := #[.int .i64 0, .int .i64 0, .int .i64 0, .bool false, .complex .f64 0 0]
section
variable {b t : Nat} {ov lv : Value} {x : Tc} {X : Thing} {S : Nat → Prop} {w w' : World}
set_option maxRecDepth 100000 in
theorem act_done_ok {r : Bool} {z1 z2 : Nat} (hph : x.ph = 2) (hnx : x.nx ≤ 1000) (h : (Thr b t ov lv x X).at_ S w) :
    Calls Tryz.prog 116 #[.pointer (some ⟨b, 0, none⟩), .agg #[.bool r, .complex .f64 z1 z2], .int .i64 0] w fun e w' => e = .returned (.tuple #[resV x.nx x.own 0 r z1 z2, .bool true]) ∧ Goes (Thr b t ov lv { x with ph := 1, pc := 0, nx := x.nx + 1 } X) S w w' := by
  have g0 := ((Goes.begin h).moreSt (St.fresh #[.bool r, .complex .f64 z1 z2] 39)).moreSt (St.fresh zeroRes 41)
  rw [World.size_alloc] at g0
  obtain ⟨vb, hvb⟩ : ∃ k, w.heap.size = k := ⟨_, rfl⟩
  obtain ⟨rb, hrb⟩ : ∃ k, vb + 1 = k := ⟨_, rfl⟩
  rw [hvb, hrb] at g0
  have HG := Lib.hid g0
  simp only [zeroRes] at *
  clear h g0
  go_enter Tryz.func116, Tryz.ntmps116
  go_upto_region 1 with fail
  generalize (w.alloc _).alloc _ = w1 at *
  have g1 := HG.out.drew_
  have c6 := g1.l.l.c 6 (v := .int .i64 (x.nx : Int)) rfl
  have c10 := g1.l.l.c 10 (v := .int .i64 x.own) rfl
  refine wp_region_held_drew (S := fun w' => w'.cell? ⟨b, 6, none⟩ = some (.int .i64 (x.nx : Int)) ∧ w'.cell? ⟨b, 10, none⟩ = some (.int .i64 x.own)) (by kernel_rfl) ⟨c6, c10⟩ (fun hHeld => ?_)
  refine wpAnyH_take (i := 0) (oi := _) (v := ?_) rfl (by kernel_rfl) (by kernel_rfl) (by kernel_rfl) (fun _ _ _ h => h) (Or.inl ⟨by rfl, ?_⟩) (by assumption) ?_
  rotate_left
  · intro w hSw
    (try dsimp only at hSw)
    go_simp
    with_reducible rfl
  try simp only [Act.put, List.setIfInBounds_toArray, List.set_cons_zero, List.set_cons_succ]
  refine wpAnyH_take (i := 1) (oi := _) (v := ?_) rfl (by kernel_rfl) (by kernel_rfl) (by kernel_rfl) (fun _ _ _ h => h) (Or.inl ⟨by rfl, ?_⟩) (by assumption) ?_
  rotate_left
  · intro w hSw
    (try dsimp only at hSw)
    go_simp
    with_reducible rfl
  try simp only [Act.put, List.setIfInBounds_toArray, List.set_cons_zero, List.set_cons_succ]
  refine wpAnyH_take (i := 2) (oi := _) (v := ?_) rfl (by kernel_rfl) (by kernel_rfl) (by kernel_rfl) (fun _ _ _ h => h) (Or.inl ⟨by rfl, ?_⟩) (by assumption) ?_
  rotate_left
  · intro w hSw
    (try dsimp only at hSw)
    go_simp
    with_reducible rfl
  try simp only [Act.put, List.setIfInBounds_toArray, List.set_cons_zero, List.set_cons_succ]
  refine wpAnyH_take (i := 3) (oi := _) (v := ?_) rfl (by kernel_rfl) (by kernel_rfl) (by kernel_rfl) (fun _ _ _ h => h) (Or.inl ⟨by rfl, ?_⟩) (by assumption) ?_
  rotate_left
  · intro w hSw
    (try dsimp only at hSw)
    go_simp
    with_reducible rfl
  try simp only [Act.put, List.setIfInBounds_toArray, List.set_cons_zero, List.set_cons_succ]
  refine wpAnyH_take (i := 4) (oi := _) (v := ?_) rfl (by kernel_rfl) (by kernel_rfl) (by kernel_rfl) (fun _ _ _ h => h) (Or.inl ⟨by rfl, ?_⟩) (by assumption) ?_
  rotate_left
  · intro w hSw
    (try dsimp only at hSw)
    go_simp
    with_reducible rfl
  try simp only [Act.put, List.setIfInBounds_toArray, List.set_cons_zero, List.set_cons_succ]
  refine wpAnyH_take (i := 5) (oi := _) (v := ?_) rfl (by kernel_rfl) (by kernel_rfl) (by kernel_rfl) (fun _ _ _ h => h) (Or.inl ⟨by rfl, ?_⟩) (by assumption) ?_
  rotate_left
  · intro w hSw
    (try dsimp only at hSw)
    go_simp
    with_reducible rfl
  try simp only [Act.put, List.setIfInBounds_toArray, List.set_cons_zero, List.set_cons_succ]
  refine wpAnyH_take (i := 6) (oi := _) (v := ?_) rfl (by kernel_rfl) (by kernel_rfl) (by kernel_rfl) (fun _ _ _ h => h) (Or.inl ⟨by rfl, ?_⟩) (by assumption) ?_
  rotate_left
  · intro w hSw
    (try dsimp only at hSw)
    go_simp
    with_reducible rfl
  try simp only [Act.put, List.setIfInBounds_toArray, List.set_cons_zero, List.set_cons_succ]
  refine wpAnyH_take (i := 7) (oi := _) (v := ?_) rfl (by kernel_rfl) (by kernel_rfl) (by kernel_rfl) (fun _ _ _ h => h) (Or.inl ⟨by rfl, ?_⟩) (by assumption) ?_
  rotate_left
  · intro w hSw
    (try dsimp only at hSw)
    go_simp
    with_reducible rfl
  try simp only [Act.put, List.setIfInBounds_toArray, List.set_cons_zero, List.set_cons_succ]
  refine wpAnyH_take (i := 8) (oi := _) (v := ?_) rfl (by kernel_rfl) (by kernel_rfl) (by kernel_rfl) (fun _ _ _ h => h) (Or.inl ⟨by rfl, ?_⟩) (by assumption) ?_
  rotate_left
  · intro w hSw
    (try dsimp only at hSw)
    go_simp
    with_reducible rfl
  try simp only [Act.put, List.setIfInBounds_toArray, List.set_cons_zero, List.set_cons_succ]
  refine wpAnyH_take (i := 9) (oi := _) (v := ?_) rfl (by kernel_rfl) (by kernel_rfl) (by kernel_rfl) (fun _ _ _ h => h) (Or.inl ⟨by rfl, ?_⟩) (by assumption) ?_
  rotate_left
  · intro w hSw
    (try dsimp only at hSw)
    go_simp
    with_reducible rfl
  try simp only [Act.put, List.setIfInBounds_toArray, List.set_cons_zero, List.set_cons_succ]
  refine wpAnyH_take (i := 10) (oi := _) (v := ?_) rfl (by kernel_rfl) (by kernel_rfl) (by kernel_rfl) (fun _ _ _ h => h) (Or.inl ⟨by rfl, ?_⟩) (by assumption) ?_
  rotate_left
  · intro w hSw
    (try dsimp only at hSw)
    go_simp
    with_reducible rfl
  try simp only [Act.put, List.setIfInBounds_toArray, List.set_cons_zero, List.set_cons_succ]
  refine wpAnyH_ready (rs := [11]) (by kernel_rfl) (by simp) ?_
  refine AllReadyH.cons (o := _) rfl (fun K hK => ?_) AllReadyH.nil
  go_simp
  have g2 := g1.moreSt (St.fresh zeroRes 41)
  have d6 := g2.l.l.l.c 6 (v := .int .i64 (x.nx : Int)) rfl
  have d10 := g2.l.l.l.c 10 (v := .int .i64 x.own) rfl
  simp only [zeroRes] at *
  refine hK.out _ _ ⟨d6, d10⟩ (fun hHeld => ?_)
  clear hK K hHeld
  try simp only [Act.put, List.setIfInBounds_toArray, List.set_cons_zero, List.set_cons_succ]
  refine wpAnyH_ready (rs := [12]) (by kernel_rfl) (by simp) ?_
  refine AllReadyH.cons (o := _) rfl (fun K hK => ?_) AllReadyH.nil
  go_simp
  have g3 := Lib.hid (HG.out.drew_.moreSt (St.fresh #[.int .i64 (x.nx : Int), .int .i64 x.own, .int .i64 0, .bool false, .complex .f64 0 0] 41))
  rw [show w1.drew.heap.size = w1.heap.size from rfl] at g3
  have q6 := g3.out.l.l.l.c 6 (v := .int .i64 (x.nx : Int)) rfl
  have q10 := g3.out.l.l.l.c 10 (v := .int .i64 x.own) rfl
  refine hK.out _ _ ⟨q6, q10⟩ (fun hHeld => ?_)
  clear hK K hHeld q6 q10 d6 d10 g2 g1 HG c6 c10
  try simp only [Act.put, List.setIfInBounds_toArray, List.set_cons_zero, List.set_cons_succ]
  refine wpAnyH_done (by kernel_rfl) ?_ _
  generalize hr8 : w1.heap.size = r8 at *
  clear hr8
  generalize hw2 : w1.drew.alloc _ = w2 at g3
  have hw3 : (w1.alloc (.cells #[.int .i64 (x.nx : Int), .int .i64 x.own, .int .i64 0, .bool false, .complex .f64 0 0] 41)).drew = w2 := hw2
  rw [hw3]
  clear hw2 hw3
  have v0 := g3.out.l.l.r.vc 0 (v := .bool r) rfl
  have v1 := g3.out.l.l.r.vc 1 (v := .complex .f64 z1 z2) rfl
  have r3 := g3.out.r.vc 3 (v := .bool false) rfl
  have r4 := g3.out.r.vc 4 (v := .complex .f64 0 0) rfl
  have p3 := g3.out.r.vf 3
  have p4 := g3.out.r.vf 4
  have g4 := Lib.hid (g3.out.then fun S h => goesR (fun S h => ((Goes.begin h).vput 3 (.bool r) rfl).vput 4 (.complex .f64 z1 z2) rfl) S h)
  clear g3
  go_upto_region 4 with fail
  generalize World.setCell _ _ _ = w3 at *
  clear v0 v1 r3 r4 p3 p4
  have c6 := g4.out.l.l.l.c 6 (v := .int .i64 (x.nx : Int)) rfl
  have f6 := g4.out.l.l.l.fr 6
  have g5 : Goes (Sep (Sep (Sep (Thr b t ov lv { x with nx := x.nx + 1 } X) _) _) _) S w _ := g4.out.then fun S h => goesL (fun S h => goesL (fun S h => goesL (fun S h => (Goes.begin h).put 6 (.int .i64 ((x.nx : Int) + 1)) (cs' := thCells t ov lv { x with nx := x.nx + 1 }) rfl) S h) S h) S h
  have c3 := g5.l.l.l.c 3 (v := .int .i64 x.ph) rfl
  rw [hph] at c3
  have f3 := g5.l.l.l.fr 3
  have g6 : Goes (Sep (Sep (Sep (Thr b t ov lv { x with nx := x.nx + 1, ph := 1 } X) _) _) _) S w _ := g5.then fun S h => goesL (fun S h => goesL (fun S h => goesL (fun S h => (Goes.begin h).put 3 (.int .i64 1) (cs' := thCells t ov lv { x with nx := x.nx + 1, ph := 1 }) rfl) S h) S h) S h
  have c7 := g6.l.l.l.c 7 (v := .int .i64 x.pc) rfl
  have f7 := g6.l.l.l.fr 7
  have g7 : Goes (Sep (Sep (Sep (Thr b t ov lv { x with nx := x.nx + 1, ph := 1, pc := 0 } X) _) _) _) S w _ := g6.then fun S h => goesL (fun S h => goesL (fun S h => goesL (fun S h => (Goes.begin h).put 7 (.int .i64 0) (cs' := thCells t ov lv { x with nx := x.nx + 1, ph := 1, pc := 0 }) rfl) S h) S h) S h
  have G7 := Lib.hid g7
  clear g4 g5 g6 g7
  have hnx1 : (x.nx : Int) ≤ 1000 := by omega
  go_upto_region 7 with fail
  generalize World.setCell _ _ _ = w4 at *
  clear c6 f6 c3 f3 c7 f7
  have s0 := G7.out.r.vc 0 (v := .int .i64 (x.nx : Int)) rfl
  have s1 := G7.out.r.vc 1 (v := .int .i64 x.own) rfl
  have s2 := G7.out.r.vc 2 (v := .int .i64 0) rfl
  have s3 := G7.out.r.vc 3 (v := .bool r) rfl
  have s4 := G7.out.r.vc 4 (v := .complex .f64 z1 z2) rfl
  have q0 := G7.out.l.r.vc 0 (v := .int .i64 0) rfl
  have q1 := G7.out.l.r.vc 1 (v := .int .i64 0) rfl
  have q2 := G7.out.l.r.vc 2 (v := .int .i64 0) rfl
  have q3 := G7.out.l.r.vc 3 (v := .bool false) rfl
  have q4 := G7.out.l.r.vc 4 (v := .complex .f64 0 0) rfl
  have p0 := G7.out.l.r.vf 0
  have p1 := G7.out.l.r.vf 1
  have p2 := G7.out.l.r.vf 2
  have p3 := G7.out.l.r.vf 3
  have p4 := G7.out.l.r.vf 4
  have g8 := G7.out.then fun S h => goesL (fun S h => goesR (fun S h => (((((Goes.begin h).vput 0 (.int .i64 (x.nx : Int)) rfl).vput 1 (.int .i64 x.own) rfl).vput 2 (.int .i64 0) rfl).vput 3 (.bool r) rfl).vput 4 (.complex .f64 z1 z2) rfl) S h) S h
  have k0 := g8.l.r.vc 0 (v := .int .i64 (x.nx : Int)) rfl
  have k1 := g8.l.r.vc 1 (v := .int .i64 x.own) rfl
  have k2 := g8.l.r.vc 2 (v := .int .i64 0) rfl
  have k3 := g8.l.r.vc 3 (v := .bool r) rfl
  have k4 := g8.l.r.vc 4 (v := .complex .f64 z1 z2) rfl
  have HF := Lib.hid g8.l.l.l
  clear G7 g8
  go_wp2_with fail
  exact bodyPost_ret (v := .tuple #[resV x.nx x.own 0 r z1 z2, .bool true]) (by simp [resV, results, Tryz.results116, go_sem, k0, k1, k2, k3, k4]) rfl ⟨rfl, HF.out⟩
set_option maxRecDepth 100000 in
theorem act_done_err {er : Int} (her : ¬ er = 0) (hph : x.ph = 2) (hnx : x.nx ≤ 1000) (h : (Thr b t ov lv x X).at_ S w) :
    Calls Tryz.prog 116 #[.pointer (some ⟨b, 0, none⟩), .agg #[.bool false, .complex .f64 0 0], .int .i64 er] w fun e w' => e = .returned (.tuple #[resV x.nx x.own er false 0 0, .bool true]) ∧ Goes (Thr b t ov lv { x with ph := 1, pc := 0, nx := x.nx + 1 } X) S w w' := by
  have g0 := ((Goes.begin h).moreSt (St.fresh #[.bool false, .complex .f64 0 0] 39)).moreSt (St.fresh zeroRes 41)
  rw [World.size_alloc] at g0
  obtain ⟨vb, hvb⟩ : ∃ k, w.heap.size = k := ⟨_, rfl⟩
  obtain ⟨rb, hrb⟩ : ∃ k, vb + 1 = k := ⟨_, rfl⟩
  rw [hvb, hrb] at g0
  have HG := Lib.hid g0
  simp only [zeroRes] at *
  clear h g0
  go_enter Tryz.func116, Tryz.ntmps116
  go_upto_region 1 with fail
  generalize (w.alloc _).alloc _ = w1 at *
  have g1 := HG.out.drew_
  have c6 := g1.l.l.c 6 (v := .int .i64 (x.nx : Int)) rfl
  have c10 := g1.l.l.c 10 (v := .int .i64 x.own) rfl
  refine wp_region_held_drew (S := fun w' => w'.cell? ⟨b, 6, none⟩ = some (.int .i64 (x.nx : Int)) ∧ w'.cell? ⟨b, 10, none⟩ = some (.int .i64 x.own)) (by kernel_rfl) ⟨c6, c10⟩ (fun hHeld => ?_)
  refine wpAnyH_take (i := 0) (oi := _) (v := ?_) rfl (by kernel_rfl) (by kernel_rfl) (by kernel_rfl) (fun _ _ _ h => h) (Or.inl ⟨by rfl, ?_⟩) (by assumption) ?_
  rotate_left
  · intro w hSw
    (try dsimp only at hSw)
    go_simp
    with_reducible rfl
  try simp only [Act.put, List.setIfInBounds_toArray, List.set_cons_zero, List.set_cons_succ]
  refine wpAnyH_take (i := 1) (oi := _) (v := ?_) rfl (by kernel_rfl) (by kernel_rfl) (by kernel_rfl) (fun _ _ _ h => h) (Or.inl ⟨by rfl, ?_⟩) (by assumption) ?_
  rotate_left
  · intro w hSw
    (try dsimp only at hSw)
    go_simp
    with_reducible rfl
  try simp only [Act.put, List.setIfInBounds_toArray, List.set_cons_zero, List.set_cons_succ]
  refine wpAnyH_take (i := 2) (oi := _) (v := ?_) rfl (by kernel_rfl) (by kernel_rfl) (by kernel_rfl) (fun _ _ _ h => h) (Or.inl ⟨by rfl, ?_⟩) (by assumption) ?_
  rotate_left
  · intro w hSw
    (try dsimp only at hSw)
    go_simp
    with_reducible rfl
  try simp only [Act.put, List.setIfInBounds_toArray, List.set_cons_zero, List.set_cons_succ]
  refine wpAnyH_take (i := 3) (oi := _) (v := ?_) rfl (by kernel_rfl) (by kernel_rfl) (by kernel_rfl) (fun _ _ _ h => h) (Or.inl ⟨by rfl, ?_⟩) (by assumption) ?_
  rotate_left
  · intro w hSw
    (try dsimp only at hSw)
    go_simp
    with_reducible rfl
  try simp only [Act.put, List.setIfInBounds_toArray, List.set_cons_zero, List.set_cons_succ]
  refine wpAnyH_take (i := 4) (oi := _) (v := ?_) rfl (by kernel_rfl) (by kernel_rfl) (by kernel_rfl) (fun _ _ _ h => h) (Or.inl ⟨by rfl, ?_⟩) (by assumption) ?_
  rotate_left
  · intro w hSw
    (try dsimp only at hSw)
    go_simp
    with_reducible rfl
  try simp only [Act.put, List.setIfInBounds_toArray, List.set_cons_zero, List.set_cons_succ]
  refine wpAnyH_take (i := 5) (oi := _) (v := ?_) rfl (by kernel_rfl) (by kernel_rfl) (by kernel_rfl) (fun _ _ _ h => h) (Or.inl ⟨by rfl, ?_⟩) (by assumption) ?_
  rotate_left
  · intro w hSw
    (try dsimp only at hSw)
    go_simp
    with_reducible rfl
  try simp only [Act.put, List.setIfInBounds_toArray, List.set_cons_zero, List.set_cons_succ]
  refine wpAnyH_take (i := 6) (oi := _) (v := ?_) rfl (by kernel_rfl) (by kernel_rfl) (by kernel_rfl) (fun _ _ _ h => h) (Or.inl ⟨by rfl, ?_⟩) (by assumption) ?_
  rotate_left
  · intro w hSw
    (try dsimp only at hSw)
    go_simp
    with_reducible rfl
  try simp only [Act.put, List.setIfInBounds_toArray, List.set_cons_zero, List.set_cons_succ]
  refine wpAnyH_take (i := 7) (oi := _) (v := ?_) rfl (by kernel_rfl) (by kernel_rfl) (by kernel_rfl) (fun _ _ _ h => h) (Or.inl ⟨by rfl, ?_⟩) (by assumption) ?_
  rotate_left
  · intro w hSw
    (try dsimp only at hSw)
    go_simp
    with_reducible rfl
  try simp only [Act.put, List.setIfInBounds_toArray, List.set_cons_zero, List.set_cons_succ]
  refine wpAnyH_take (i := 8) (oi := _) (v := ?_) rfl (by kernel_rfl) (by kernel_rfl) (by kernel_rfl) (fun _ _ _ h => h) (Or.inl ⟨by rfl, ?_⟩) (by assumption) ?_
  rotate_left
  · intro w hSw
    (try dsimp only at hSw)
    go_simp
    with_reducible rfl
  try simp only [Act.put, List.setIfInBounds_toArray, List.set_cons_zero, List.set_cons_succ]
  refine wpAnyH_take (i := 9) (oi := _) (v := ?_) rfl (by kernel_rfl) (by kernel_rfl) (by kernel_rfl) (fun _ _ _ h => h) (Or.inl ⟨by rfl, ?_⟩) (by assumption) ?_
  rotate_left
  · intro w hSw
    (try dsimp only at hSw)
    go_simp
    with_reducible rfl
  try simp only [Act.put, List.setIfInBounds_toArray, List.set_cons_zero, List.set_cons_succ]
  refine wpAnyH_take (i := 10) (oi := _) (v := ?_) rfl (by kernel_rfl) (by kernel_rfl) (by kernel_rfl) (fun _ _ _ h => h) (Or.inl ⟨by rfl, ?_⟩) (by assumption) ?_
  rotate_left
  · intro w hSw
    (try dsimp only at hSw)
    go_simp
    with_reducible rfl
  try simp only [Act.put, List.setIfInBounds_toArray, List.set_cons_zero, List.set_cons_succ]
  refine wpAnyH_ready (rs := [11]) (by kernel_rfl) (by simp) ?_
  refine AllReadyH.cons (o := _) rfl (fun K hK => ?_) AllReadyH.nil
  go_simp
  have g2 := g1.moreSt (St.fresh zeroRes 41)
  have d6 := g2.l.l.l.c 6 (v := .int .i64 (x.nx : Int)) rfl
  have d10 := g2.l.l.l.c 10 (v := .int .i64 x.own) rfl
  simp only [zeroRes] at *
  refine hK.out _ _ ⟨d6, d10⟩ (fun hHeld => ?_)
  clear hK K hHeld
  try simp only [Act.put, List.setIfInBounds_toArray, List.set_cons_zero, List.set_cons_succ]
  refine wpAnyH_ready (rs := [12]) (by kernel_rfl) (by simp) ?_
  refine AllReadyH.cons (o := _) rfl (fun K hK => ?_) AllReadyH.nil
  go_simp
  have g3 := Lib.hid (HG.out.drew_.moreSt (St.fresh #[.int .i64 (x.nx : Int), .int .i64 x.own, .int .i64 er, .bool false, .complex .f64 0 0] 41))
  rw [show w1.drew.heap.size = w1.heap.size from rfl] at g3
  have q6 := g3.out.l.l.l.c 6 (v := .int .i64 (x.nx : Int)) rfl
  have q10 := g3.out.l.l.l.c 10 (v := .int .i64 x.own) rfl
  refine hK.out _ _ ⟨q6, q10⟩ (fun hHeld => ?_)
  clear hK K hHeld q6 q10 d6 d10 g2 g1 HG c6 c10
  try simp only [Act.put, List.setIfInBounds_toArray, List.set_cons_zero, List.set_cons_succ]
  refine wpAnyH_done (by kernel_rfl) ?_ _
  generalize hr8 : w1.heap.size = r8 at *
  clear hr8
  generalize hw2 : w1.drew.alloc _ = w2 at g3
  have hw3 : (w1.alloc (.cells #[.int .i64 (x.nx : Int), .int .i64 x.own, .int .i64 er, .bool false, .complex .f64 0 0] 41)).drew = w2 := hw2
  rw [hw3]
  clear hw2 hw3
  have g4 := g3
  clear g3
  go_upto_region 4 with fail
  have c6 := g4.out.l.l.l.c 6 (v := .int .i64 (x.nx : Int)) rfl
  have f6 := g4.out.l.l.l.fr 6
  have g5 : Goes (Sep (Sep (Sep (Thr b t ov lv { x with nx := x.nx + 1 } X) _) _) _) S w _ := g4.out.then fun S h => goesL (fun S h => goesL (fun S h => goesL (fun S h => (Goes.begin h).put 6 (.int .i64 ((x.nx : Int) + 1)) (cs' := thCells t ov lv { x with nx := x.nx + 1 }) rfl) S h) S h) S h
  have c3 := g5.l.l.l.c 3 (v := .int .i64 x.ph) rfl
  rw [hph] at c3
  have f3 := g5.l.l.l.fr 3
  have g6 : Goes (Sep (Sep (Sep (Thr b t ov lv { x with nx := x.nx + 1, ph := 1 } X) _) _) _) S w _ := g5.then fun S h => goesL (fun S h => goesL (fun S h => goesL (fun S h => (Goes.begin h).put 3 (.int .i64 1) (cs' := thCells t ov lv { x with nx := x.nx + 1, ph := 1 }) rfl) S h) S h) S h
  have c7 := g6.l.l.l.c 7 (v := .int .i64 x.pc) rfl
  have f7 := g6.l.l.l.fr 7
  have g7 : Goes (Sep (Sep (Sep (Thr b t ov lv { x with nx := x.nx + 1, ph := 1, pc := 0 } X) _) _) _) S w _ := g6.then fun S h => goesL (fun S h => goesL (fun S h => goesL (fun S h => (Goes.begin h).put 7 (.int .i64 0) (cs' := thCells t ov lv { x with nx := x.nx + 1, ph := 1, pc := 0 }) rfl) S h) S h) S h
  have G7 := Lib.hid g7
  clear g4 g5 g6 g7
  have hnx1 : (x.nx : Int) ≤ 1000 := by omega
  go_upto_region 7 with fail
  generalize World.setCell _ _ _ = w4 at *
  clear c6 f6 c3 f3 c7 f7
  have s0 := G7.out.r.vc 0 (v := .int .i64 (x.nx : Int)) rfl
  have s1 := G7.out.r.vc 1 (v := .int .i64 x.own) rfl
  have s2 := G7.out.r.vc 2 (v := .int .i64 er) rfl
  have s3 := G7.out.r.vc 3 (v := .bool false) rfl
  have s4 := G7.out.r.vc 4 (v := .complex .f64 0 0) rfl
  have q0 := G7.out.l.r.vc 0 (v := .int .i64 0) rfl
  have q1 := G7.out.l.r.vc 1 (v := .int .i64 0) rfl
  have q2 := G7.out.l.r.vc 2 (v := .int .i64 0) rfl
  have q3 := G7.out.l.r.vc 3 (v := .bool false) rfl
  have q4 := G7.out.l.r.vc 4 (v := .complex .f64 0 0) rfl
  have p0 := G7.out.l.r.vf 0
  have p1 := G7.out.l.r.vf 1
  have p2 := G7.out.l.r.vf 2
  have p3 := G7.out.l.r.vf 3
  have p4 := G7.out.l.r.vf 4
  have g8 := G7.out.then fun S h => goesL (fun S h => goesR (fun S h => (((((Goes.begin h).vput 0 (.int .i64 (x.nx : Int)) rfl).vput 1 (.int .i64 x.own) rfl).vput 2 (.int .i64 er) rfl).vput 3 (.bool false) rfl).vput 4 (.complex .f64 0 0) rfl) S h) S h
  have k0 := g8.l.r.vc 0 (v := .int .i64 (x.nx : Int)) rfl
  have k1 := g8.l.r.vc 1 (v := .int .i64 x.own) rfl
  have k2 := g8.l.r.vc 2 (v := .int .i64 er) rfl
  have k3 := g8.l.r.vc 3 (v := .bool false) rfl
  have k4 := g8.l.r.vc 4 (v := .complex .f64 0 0) rfl
  have HF := Lib.hid g8.l.l.l
  clear G7 g8
  go_wp2_with fail
  exact bodyPost_ret (v := .tuple #[resV x.nx x.own er false 0 0, .bool true]) (by simp [resV, results, Tryz.results116, go_sem, k0, k1, k2, k3, k4]) rfl ⟨rfl, HF.out⟩
end
end Go.Proofs.YtnkgnhpapcnebaaGreat
/- The contracts of package space: the short ones. -/
namespace Go.Proofs.YtnkgnhpapcnebaaGreat
open Go.RowKit
attribute [local go_sem] run_store_complex
section
variable {b bt n : Nat} {c : Cf} {ask : Bool} {S : Nat → Prop} {w w' : World}
set_option maxRecDepth 100000 in
theorem poi_give (i : Int) (hn : n ≤ 1024) (w : World) : Does Tryz.prog 217 #[.pointer (some ⟨b, 0, none⟩), .int .i64 i] w (PoI b n ask) (aBool fun _ => True) (fun _ => PoI b n ask) := by
  rintro S ⟨⟨g, f⟩, hf, h⟩
  exact (pool_give i hn h).mono fun e w' ⟨he, hg⟩ => ⟨_, ⟨he, trivial⟩, hg.conv fun S w h => ⟨⟨g, gF n f i⟩, fun ha => by show gF n f i = full; rw [show f = full from hf ha]; simp [gF, gB, full], h⟩⟩
/-- What a space's shelves are, handed over. -/
def shCells (c : Cf) (x : SpX) : Array Value := #[.int .i64 c.frags, .int .i64 c.spine, .int .i64 c.globals, .int .i64 c.threads, .int .i64 c.locals, .int .i64 0, .int .i64 c.stack, .int .i64 c.low, .slice (some ⟨x.g, 0, none⟩) c.shapes.length x.cap,
  .pointer (some ⟨x.p, 0, none⟩), .pointer (some ⟨x.k, 0, none⟩), .pointer (some ⟨x.w, 0, none⟩)]
def shV (c : Cf) (x : SpX) : Value := .agg (shCells c x)
variable {x : SpX}
set_option maxRecDepth 100000 in
theorem sh_coil (w : World) : Calls Tryz.prog 95 #[shV c x] w fun e w' => e = .returned (.pointer (some ⟨x.k, 0, none⟩)) ∧ Below w.heap.size w w' := by
  have hb := Lib.hid ((Below.refl w.heap.size w).alloc (Nat.le_refl _) (.cells (shCells c x) 160))
  have D0 := Blk.new w (shCells c x) 160
  have c10 := D0.cell 10
  clear D0
  unfold shV
  simp only [shCells] at *
  simp at c10
  go_enter Tryz.func95, Tryz.ntmps95
  go_wp2_with fail
  go_ret
  exact ⟨rfl, hb.out⟩
set_option maxRecDepth 100000 in
theorem sp_begin (w : World) : Does Tryz.prog 82 #[.pointer (some ⟨b, 0, none⟩)] w (SpI b bt c ask) (fun (_ : Unit) e => e = .returned (.tuple #[])) (fun _ => SpI b bt c ask) := by
  rintro S ⟨x, h⟩
  have g0 := Goes.begin h
  have c3 := g0.c 3 (v := .int .i64 x.ct) rfl
  have f3 := g0.fr 3
  have g1 := g0.put 3 (.int .i64 (wrap64 (x.ct + 1))) (cs' := spCells c bt { x with ct := wrap64 (x.ct + 1) }) rfl
  have d2 := g1.c 2 (v := .bool x.forced) rfl
  have f2 := g1.fr 2
  have g2 := g1.put 2 (.bool false) (cs' := spCells c bt { x with ct := wrap64 (x.ct + 1), forced := false }) rfl
  have d15 := g2.c 15 (v := .pointer (some ⟨x.w, 0, none⟩)) rfl
  have HL := Lib.hid ((Does.ofLook (fun S h => line_begin (b := x.w) h)).l.r.r.r.r.on g2)
  clear g0 g1 g2 h
  go_enter Tryz.func82, Tryz.ntmps82
  go_wp2_with fail
  with_reducible refine HL.out.mono ?_
  rintro e w2 ⟨_, rfl, hg⟩
  have HG := Lib.hid hg
  clear HL hg c3 f3 f2 d2 d15
  go_wp2_with fail
  go_end0
  exact ⟨(), rfl, HG.out.conv fun _ _ h => ⟨_, h⟩⟩
set_option maxRecDepth 100000 in
theorem sp_end (w : World) : Does Tryz.prog 104 #[.pointer (some ⟨b, 0, none⟩)] w (SpI b bt c ask) (fun (_ : Unit) e => e = .returned (.tuple #[])) (fun _ => SpI b bt c ask) := by
  rintro S ⟨x, h⟩
  have g0 := Goes.begin h
  have c3 := g0.c 3 (v := .int .i64 x.ct) rfl
  have f3 := g0.fr 3
  have g1 := g0.put 3 (.int .i64 (wrap64 (x.ct + 1))) (cs' := spCells c bt { x with ct := wrap64 (x.ct + 1) }) rfl
  have d15 := g1.c 15 (v := .pointer (some ⟨x.w, 0, none⟩)) rfl
  have HL := Lib.hid ((Does.ofLook (fun S h => line_end (b := x.w) h)).l.r.r.r.r.on g1)
  clear g0 g1 h
  go_enter Tryz.func104, Tryz.ntmps104
  go_wp2_with fail
  with_reducible refine HL.out.mono ?_
  rintro e w2 ⟨_, rfl, hg⟩
  have HG := Lib.hid hg
  clear HL hg c3 f3 d15
  go_wp2_with fail
  go_end0
  exact ⟨(), rfl, HG.out.conv fun _ _ h => ⟨_, h⟩⟩
set_option maxRecDepth 100000 in
theorem coi_turn (s : Nat) (hs : s ≤ 2048) (w : World) : Does Tryz.prog 151 #[.pointer (some ⟨b, 0, none⟩)] w (CoI b s) (fun (_ : Unit) e => e = .returned (.bool true)) (fun _ => CoI b s) := by
  rintro S ⟨cur, h⟩
  refine (coil_turn (c := ⟨cur, 0, 0, 0⟩) (by simp [Good, Cs.here]; omega) (by simp [Cs.there]) h).mono fun e w' ⟨he, hg⟩ => ⟨(), he, hg.conv fun S w h => ⟨!cur, by simpa [Cs.turn, Cs.here] using h⟩⟩
set_option maxRecDepth 100000 in
theorem coi_done (s : Nat) (w : World) : Does Tryz.prog 153 #[.pointer (some ⟨b, 0, none⟩)] w (CoI b s) (fun (_ : Unit) e => e = .returned (.bool true)) (fun _ => CoI b s) := by
  rintro S ⟨cur, h⟩
  refine (coil_done (c := ⟨cur, 0, 0, 0⟩) rfl h).mono fun e w' ⟨he, hg⟩ => ⟨(), he, hg.conv fun S w h => ⟨cur, by simpa [Cs.done] using h⟩⟩
set_option maxRecDepth 100000 in
theorem sp_turn (hc : c.ok) (w : World) : Does Tryz.prog 94 #[.pointer (some ⟨b, 0, none⟩)] w (SpI b bt c ask) (fun (_ : Unit) e => e = .returned (.bool true)) (fun _ => SpI b bt c ask) := by
  rintro S ⟨x, h⟩
  have g0 := Goes.begin h
  have c3 := g0.c 3 (v := .int .i64 x.ct) rfl
  have f3 := g0.fr 3
  have g1 := g0.put 3 (.int .i64 (wrap64 (x.ct + 1))) (cs' := spCells c bt { x with ct := wrap64 (x.ct + 1) }) rfl
  have d14 := g1.c 14 (v := .pointer (some ⟨x.k, 0, none⟩)) rfl
  have HL := Lib.hid ((coi_turn (b := x.k) c.spine hc.spine _).l.r.r.r.on g1)
  clear g0 g1 h
  go_enter Tryz.func94, Tryz.ntmps94
  go_wp2_with fail
  with_reducible refine HL.out.mono ?_
  rintro e w2 ⟨_, rfl, hg⟩
  have HG := Lib.hid hg
  clear HL hg c3 f3 d14
  go_wp2_with fail
  go_ret
  exact ⟨(), rfl, HG.out.conv fun _ _ h => ⟨_, h⟩⟩
set_option maxRecDepth 100000 in
theorem sp_done (w : World) : Does Tryz.prog 102 #[.pointer (some ⟨b, 0, none⟩)] w (SpI b bt c ask) (fun (_ : Unit) e => e = .returned (.bool true)) (fun _ => SpI b bt c ask) := by
  rintro S ⟨x, h⟩
  have g0 := Goes.begin h
  have c3 := g0.c 3 (v := .int .i64 x.ct) rfl
  have f3 := g0.fr 3
  have g1 := g0.put 3 (.int .i64 (wrap64 (x.ct + 1))) (cs' := spCells c bt { x with ct := wrap64 (x.ct + 1) }) rfl
  have d14 := g1.c 14 (v := .pointer (some ⟨x.k, 0, none⟩)) rfl
  have HL := Lib.hid ((coi_done (b := x.k) c.spine _).l.r.r.r.on g1)
  clear g0 g1 h
  go_enter Tryz.func102, Tryz.ntmps102
  go_wp2_with fail
  with_reducible refine HL.out.mono ?_
  rintro e w2 ⟨_, rfl, hg⟩
  have HG := Lib.hid hg
  clear HL hg c3 f3 d14
  go_wp2_with fail
  go_ret
  exact ⟨(), rfl, HG.out.conv fun _ _ h => ⟨_, h⟩⟩
end
end Go.Proofs.YtnkgnhpapcnebaaGreat
/- The contracts of package space: those that look at the table, or serve. -/
namespace Go.Proofs.YtnkgnhpapcnebaaGreat
open Go.RowKit
attribute [local go_sem] run_store_complex
section
variable {b bs bt n m F : Nat} {c : Cf} {ask bn : Bool} {S : Nat → Prop} {w w' : World} {x : SpX}
/-- The shades beside the space. -/
def Two (bs b bt : Nat) (c : Cf) (bn ask : Bool) : Thing := Sep (ShI bs bt c.frags c.stack c.F bn) (SpI b bt c ask)
def Two' (bs b bt : Nat) (c : Cf) (bn ask : Bool) (x : SpX) : Thing := Sep (ShI bs bt c.frags c.stack c.F bn) (Sp b bt c ask x)
set_option maxRecDepth 100000 in
theorem two_open (h : (Two bs b bt c bn ask).at_ S w) : ∃ x, (Two' bs b bt c bn ask x).at_ S w := by
  obtain ⟨S1, S2, h1, ⟨x, h2⟩, h⟩ := h
  exact ⟨x, S1, S2, h1, h2, h⟩
set_option maxRecDepth 100000 in
theorem two_shut (h : Goes (Two' bs b bt c bn ask x) S w w') : Goes (Two bs b bt c bn ask) S w w' := h.conv fun _ _ h => sepAt.monoR (fun _ h => ⟨x, h⟩) h
set_option maxRecDepth 100000 in
theorem sp_frees (i : Int) (hc : c.ok) (w : World) : Does Tryz.prog 154 #[.pointer (some ⟨b, 0, none⟩), .int .i64 i] w (Two' bs b bt c bn ask x) (fun (_ : Unit) e => e = .returned (.tuple #[])) (fun _ => Two' bs b bt c bn ask x) := by
  intro S h
  have g0 := Goes.begin h
  have c0 := g0.r.c 0 (v := .pointer (some ⟨bt, 0, none⟩)) rfl
  have HL := Lib.hid ((tab_set i 0 false _).l.on g0)
  have HC := Lib.hid hc
  clear g0 h hc
  go_enter Tryz.func154, Tryz.ntmps154
  go_wp2_with fail
  with_reducible refine HL.out.mono ?_
  rintro e w2 ⟨r, ⟨rfl, _⟩, hg⟩
  have c13 := hg.r.c 13 (v := .pointer (some ⟨x.p, 0, none⟩)) rfl
  have HP := Lib.hid ((poi_give i HC.out.frags.2 _).l.r.r.r.on hg)
  clear hg HL c0
  go_wp2_with fail
  with_reducible refine HP.out.mono ?_
  rintro e w3 ⟨r, ⟨rfl, _⟩, hg⟩
  have HG := Lib.hid hg
  clear hg HP c13
  go_wp2_with fail
  go_end0
  exact ⟨(), rfl, HG.out⟩
set_option maxRecDepth 100000 in
theorem sp_sweep (i : Int) (s : Bool) (hc : c.ok) (w : World) : Does Tryz.prog 103 #[.pointer (some ⟨b, 0, none⟩), .int .i64 i, .bool s] w (Two bs b bt c bn ask) (aBool fun _ => True) (fun _ => Two bs b bt c bn ask) := by
  intro S h
  obtain ⟨x, h⟩ := two_open h
  have g0 := Goes.begin h
  have c3 := g0.r.c 3 (v := .int .i64 x.ct) rfl
  have f3 := g0.r.fr 3
  have g1 : Goes (Two' bs b bt c bn ask { x with ct := wrap64 (x.ct + 1) }) S w (w.setCell ⟨b, 3, none⟩ (.int .i64 (wrap64 (x.ct + 1)))) := g0.then fun S h => goesR (fun S h => (Goes.begin h).put 3 (.int .i64 (wrap64 (x.ct + 1))) (cs' := spCells c bt { x with ct := wrap64 (x.ct + 1) }) rfl) S h
  have c0 := g1.r.c 0 (v := .pointer (some ⟨bt, 0, none⟩)) rfl
  have HL := Lib.hid ((tab_state i _).l.on g1)
  have HC := Lib.hid hc
  clear g0 g1 h hc
  go_enter Tryz.func103, Tryz.ntmps103
  go_wp2_with fail
  with_reducible refine HL.out.mono ?_
  rintro e w2 ⟨k, rfl, hg⟩
  have d0 := hg.r.c 0 (v := .pointer (some ⟨bt, 0, none⟩)) rfl
  have HB := Lib.hid ((tab_black i s _).l.on hg)
  have HG := Lib.hid hg
  clear hg HL c0 c3 f3
  by_cases hk : k = 2
  · subst hk
    go_wp2_with fail
    with_reducible refine HB.out.mono ?_
    rintro e w3 ⟨r, ⟨rfl, _⟩, hg⟩
    have HF := Lib.hid ((sp_frees i HC.out _).on hg)
    have HG3 := Lib.hid hg
    clear hg HB HG d0
    cases r with
    | true =>
      go_wp2_with fail
      go_ret
      exact ⟨_, ⟨rfl, trivial⟩, two_shut HG3.out⟩
    | false =>
      go_wp2_with fail
      with_reducible refine HF.out.mono ?_
      rintro e w4 ⟨_, rfl, hg⟩
      have HG4 := Lib.hid hg
      clear hg HF HG3
      go_wp2_with fail
      go_ret
      exact ⟨_, ⟨rfl, trivial⟩, two_shut HG4.out⟩
  · clear HB
    have hk2 : ¬ ((k : Int) = 2) := by omega
    go_wp2_with fail
    go_ret
    exact ⟨_, ⟨rfl, trivial⟩, two_shut HG.out⟩
set_option maxRecDepth 100000 in
theorem sp_born (w : World) : Does Tryz.prog 183 #[.pointer (some ⟨b, 0, none⟩), .int .i64 (c.F : Int)] w (Two bs b bt c bn ask) (aBool fun _ => True) (fun r => Two bs b bt c (bn || r) ask) := by
  intro S h
  obtain ⟨x, h⟩ := two_open h
  have g0 := Goes.begin h
  have c3 := g0.r.c 3 (v := .int .i64 x.ct) rfl
  have f3 := g0.r.fr 3
  have g1 : Goes (Two' bs b bt c bn ask { x with ct := wrap64 (x.ct + 1) }) S w (w.setCell ⟨b, 3, none⟩ (.int .i64 (wrap64 (x.ct + 1)))) := g0.then fun S h => goesR (fun S h => (Goes.begin h).put 3 (.int .i64 (wrap64 (x.ct + 1))) (cs' := spCells c bt { x with ct := wrap64 (x.ct + 1) }) rfl) S h
  have c0 := g1.r.c 0 (v := .pointer (some ⟨bt, 0, none⟩)) rfl
  have HL := Lib.hid ((tab_born _).l.on g1)
  clear g0 g1 h
  go_enter Tryz.func183, Tryz.ntmps183
  go_wp2_with fail
  with_reducible refine HL.out.mono ?_
  rintro e w2 ⟨k, ⟨rfl, _⟩, hg⟩
  have HG := Lib.hid hg
  clear hg HL c0 c3 f3
  go_wp2_with fail
  go_ret
  exact ⟨_, ⟨rfl, trivial⟩, two_shut HG.out⟩
set_option maxRecDepth 100000 in
theorem stk_drain : Does Tryz.prog 165 #[.pointer (some ⟨b, 0, none⟩)] w (Stk b) (fun (_ : Unit) e => e = .returned (.slice none 0 0)) (fun _ => Stk b) := Does.ofGoes fun S h => stock_drain h
set_option maxRecDepth 100000 in
theorem updT_same {T : Nat → Thing} {j : Nat} : updT T j (T j) = T := by funext k; unfold updT; split <;> simp_all
set_option maxRecDepth 100000 in
/-- A thread's stock: what is done to it. -/
theorem stks_on {P : Program} {f : FuncId} {args : Array Value} {α : Type} {R : α → Ending → Prop} {T : Nat → Nat} {v : Value} {t : Nat} (ht : t < n) (h : Does P f args w (Stk (T t)) R (fun _ => Stk (T t))) :
    Does P f args w (Sep (Seq 1 v n (ptrs T n)) (All n fun j => Stk (T j))) R (fun _ => Sep (Seq 1 v n (ptrs T n)) (All n fun j => Stk (T j))) := by
  have := (h.r (B := Seq 1 v n (ptrs T n))).all (T := fun j => Stk (T j)) ht
  rwa [show (fun x => Sep (Seq 1 v n (ptrs T n)) (All n (updT (fun j => Stk (T j)) t (Stk (T t))))) = fun x : α => Sep (Seq 1 v n (ptrs T n)) (All n fun j => Stk (T j)) from by
    funext x; rw [show updT (fun j => Stk (T j)) t (Stk (T t)) = fun j => Stk (T j) from updT_same]] at this
/-- The space with its stocks' places. -/
def SpT (b bt : Nat) (c : Cf) (ask : Bool) (x : SpX) (T : Nat → Nat) : Thing :=
  Sep (Var b (spCells c bt x) 163) (Sep (Conf c x.g x.cap) (Sep (PoI x.p c.frags ask) (Sep (CoI x.k c.spine) (Sep (Lne x.w) (Sep (Seq 1 x.sv c.threads (ptrs T c.threads)) (All c.threads fun j => Stk (T j)))))))
set_option maxRecDepth 100000 in
theorem spt_open (h : (Sp b bt c ask x).at_ S w) : ∃ T, (SpT b bt c ask x T).at_ S w := by
  obtain ⟨S1, S2, h1, ⟨S3, S4, h2, ⟨S5, S6, h3, ⟨S7, S8, h4, ⟨S9, S10, h5, ⟨T, h6⟩, k5⟩, k4⟩, k3⟩, k2⟩, k1⟩ := h
  exact ⟨T, S1, S2, h1, ⟨S3, S4, h2, ⟨S5, S6, h3, ⟨S7, S8, h4, ⟨S9, S10, h5, h6, k5⟩, k4⟩, k3⟩, k2⟩, k1⟩
set_option maxRecDepth 100000 in
theorem spt_shut {T : Nat → Nat} (h : (SpT b bt c ask x T).at_ S w) : (Sp b bt c ask x).at_ S w :=
  sepAt.monoR (fun _ h => sepAt.monoR (fun _ h => sepAt.monoR (fun _ h => sepAt.monoR (fun _ h => sepAt.monoR (fun _ h => ⟨T, h⟩) h) h) h) h) h
set_option maxRecDepth 100000 in
/-- A thread's stock. -/
theorem sp_stock {T : Nat → Nat} {t : Nat} (ht : t < c.threads) (h : (SpT b bt c ask x T).at_ S w) :
    Calls Tryz.prog 164 #[.pointer (some ⟨b, 0, none⟩), .int .i64 (t : Int)] w fun e w' => e = .returned (.pointer (some ⟨T t, 0, none⟩)) ∧ w = w' := by
  have g0 := Goes.begin h
  have hq := g0.r.r.r.r.r.l
  obtain ⟨gs, o, cap, hv, h1, h2⟩ := seq_form hq.is
  have c1 := g0.c 1 (v := x.sv) rfl
  rw [hv] at hq c1
  have cc := hq.seq (i := t) (x := .pointer (some ⟨T t, 0, none⟩)) (by simp [ptrs, ht])
  clear g0 h hq hv
  generalize c.threads = n at *
  go_enter Tryz.func164, Tryz.ntmps164
  go_wp2_with fail
  go_ret
  exact ⟨rfl, rfl⟩
set_option maxRecDepth 100000 in
theorem sp_drain {t : Nat} (ht : t < c.threads) (w : World) : Does Tryz.prog 108 #[.pointer (some ⟨b, 0, none⟩), .int .i64 (t : Int)] w (SpI b bt c ask) (fun (_ : Unit) e => e = .returned (.int .i64 0)) (fun _ => SpI b bt c ask) := by
  rintro S ⟨x, h⟩
  obtain ⟨T, h⟩ := spt_open h
  have g0 := Goes.begin h
  have c3 := g0.c 3 (v := .int .i64 x.ct) rfl
  have f3 := g0.fr 3
  have g1 : Goes (SpT b bt c ask { x with ct := wrap64 (x.ct + 1) } T) S w (w.setCell ⟨b, 3, none⟩ (.int .i64 (wrap64 (x.ct + 1)))) := (Goes.begin h).put 3 (.int .i64 (wrap64 (x.ct + 1))) (cs' := spCells c bt { x with ct := wrap64 (x.ct + 1) }) rfl
  have HS := Lib.hid (g1.look fun S h => sp_stock ht h)
  have HD := Lib.hid ((stks_on (v := x.sv) (T := T) ht stk_drain).r.r.r.r.r.on g1)
  clear g0 g1 h
  go_enter Tryz.func108, Tryz.ntmps108
  go_wp2_with fail
  with_reducible refine HS.out.mono ?_
  rintro e w2 ⟨rfl, rfl⟩
  clear HS
  go_wp2_with fail
  with_reducible refine HD.out.mono ?_
  rintro e w2 ⟨_, rfl, hg⟩
  have HG := Lib.hid hg
  clear hg HD c3 f3
  go_wp2_with fail
  go_loop [8, 25] (fun _ i => i = .int .i64 0) (fun _ _ => 0)
  case atStart => exact rfl
  case round =>
    obtain rfl := hrel
    go_wp2_with fail
    go_ret
    first | exact ⟨(), rfl, HG.out.conv fun S w h => ⟨_, spt_shut h⟩⟩ | exact ⟨rfl, HG.out.conv fun S w h => ⟨_, spt_shut h⟩⟩
end
end Go.Proofs.YtnkgnhpapcnebaaGreat
