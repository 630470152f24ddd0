/- A thread: a step within an operation. -/
import Derived.Test.YtnkgnhpapcnebaaGreatM18
set_option linter.unusedVariables false
set_option linter.unusedSimpArgs false
set_option maxHeartbeats 8000000
namespace Go.Proofs.YtnkgnhpapcnebaaGreat
open Go.RowKit
attribute [local go_sem] run_store_complex via_ret via_normal via_exit via_panic
/-- What a step within an operation looks at. -/
structure WCells (b og oo no oc nx : Nat) (at_ : Int) (o : Opn) (w : World) : Prop where
  c1 : w.cell? ⟨b, 1, none⟩ = some (.slice (some ⟨og, oo, none⟩) no oc)
  c6 : w.cell? ⟨b, 6, none⟩ = some (.int .i64 (nx : Int))
  c11 : w.cell? ⟨b, 11, none⟩ = some (.int .i64 at_)
  p0 : w.cell? ⟨og, oo + nx * 6, none⟩ = some (.int .i64 (o.kd : Int))
  p1 : w.cell? ⟨og, oo + nx * 6 + 1, none⟩ = some (.int .i64 (o.a : Int))
  p2 : w.cell? ⟨og, oo + nx * 6 + 2, none⟩ = some (.int .i64 (o.b : Int))
  p3 : w.cell? ⟨og, oo + nx * 6 + 3, none⟩ = some (.int .i64 (o.c : Int))
  p4 : w.cell? ⟨og, oo + nx * 6 + 4, none⟩ = some (.int .i64 (o.n : Int))
  p5 : w.cell? ⟨og, oo + nx * 6 + 5, none⟩ = some (.complex .f64 o.z1 o.z2)
def zeroOp : Array Value := #[.int .i64 0, .int .i64 0, .int .i64 0, .int .i64 0, .int .i64 0, .complex .f64 0 0]
section
variable {b t : Nat} {S : Nat → Prop} {w w' : World} {A : CA} {α : Type} {O : Thing} {O' : α → Thing} {p : α → Prop} {og oo no oc nx : Nat} {o : Opn} {rs : α → Rs}
set_option maxRecDepth 100000 in
theorem act_within0 (hO : ∀ S w, O.at_ S w → WCells b og oo no oc nx 0 o w) (hnx : nx < no)
    (hW : ∀ w, Does Tryz.prog 110 #[.pointer (some ⟨b, 0, none⟩), .pointer (some ⟨A.b, 0, none⟩), .agg (opc o)] w O (fun y e => e = .returned (rs y).v ∧ p y) O') :
    ∀ w, Does Tryz.prog 54 #[.pointer (some ⟨b, 0, none⟩), .pointer (some ⟨A.b, 0, none⟩)] w O (fun y e => e = .returned (rs y).v ∧ p y) O' := by
  intro w S h
  have g0 := (Goes.begin h).moreSt (St.fresh #[.int .i64 0, .int .i64 0, .int .i64 0, .bool false, .complex .f64 0 0] 41)
  generalize hrb : w.heap.size = rb at g0
  have g1 := g0.drew_
  have HO := Lib.hid hO
  have HW := Lib.hid fun w (X : Thing) => (hW w).l (B := X)
  have S1_ := And.intro (HO.out _ _ g1.l.is).c1 (And.intro (HO.out _ _ g1.l.is).c6 (And.intro (HO.out _ _ g1.l.is).p0 (And.intro (HO.out _ _ g1.l.is).p1 (And.intro (HO.out _ _ g1.l.is).p2 (And.intro (HO.out _ _ g1.l.is).p3 (And.intro (HO.out _ _ g1.l.is).p4 (HO.out _ _ g1.l.is).p5))))))
  have hlt : (nx : Int) < (no : Int) := by omega
  unfold Rs.v opc at *
  clear h g0 hO hW
  go_enter Tryz.func54, Tryz.ntmps54
  go_upto_region 1 with fail
  generalize w.alloc _ = w1 at *
  refine wp_region_held_drew (S := fun w' => w'.cell? ⟨b, 1, none⟩ = some (.slice (some ⟨og, oo, none⟩) no oc) ∧ w'.cell? ⟨b, 6, none⟩ = some (.int .i64 (nx : Int)) ∧ w'.cell? ⟨og, oo + nx * 6, none⟩ = some (.int .i64 (o.kd : Int)) ∧ w'.cell? ⟨og, oo + nx * 6 + 1, none⟩ = some (.int .i64 (o.a : Int)) ∧ w'.cell? ⟨og, oo + nx * 6 + 2, none⟩ = some (.int .i64 (o.b : Int)) ∧ w'.cell? ⟨og, oo + nx * 6 + 3, none⟩ = some (.int .i64 (o.c : Int)) ∧ w'.cell? ⟨og, oo + nx * 6 + 4, none⟩ = some (.int .i64 (o.n : Int)) ∧ w'.cell? ⟨og, oo + nx * 6 + 5, none⟩ = some (.complex .f64 o.z1 o.z2)) (by kernel_rfl) S1_ (fun hHeld => ?_)
  generalize w1.drew = wd at *
  refine wpAnyH_take (i := 0) (oi := _) (v := ?_) rfl (by kernel_rfl) (by kernel_rfl) (by kernel_rfl) (fun _ _ _ h => h) (Or.inl ⟨by rfl, ?_⟩) (by assumption) ?_
  rotate_left
  · intro w hSw
    (try dsimp only at hSw)
    go_simp
    with_reducible rfl
  try simp only [Act.put, List.setIfInBounds_toArray, List.set_cons_zero, List.set_cons_succ]
  refine wpAnyH_take (i := 1) (oi := _) (v := ?_) rfl (by kernel_rfl) (by kernel_rfl) (by kernel_rfl) (fun _ _ _ h => h) (Or.inl ⟨by rfl, ?_⟩) (by assumption) ?_
  rotate_left
  · intro w hSw
    (try dsimp only at hSw)
    go_simp
    with_reducible rfl
  try simp only [Act.put, List.setIfInBounds_toArray, List.set_cons_zero, List.set_cons_succ]
  refine wpAnyH_take (i := 2) (oi := _) (v := ?_) rfl (by kernel_rfl) (by kernel_rfl) (by kernel_rfl) (fun _ _ _ h => h) (Or.inl ⟨by rfl, ?_⟩) (by assumption) ?_
  rotate_left
  · intro w hSw
    (try dsimp only at hSw)
    go_simp
    with_reducible rfl
  try simp only [Act.put, List.setIfInBounds_toArray, List.set_cons_zero, List.set_cons_succ]
  refine wpAnyH_take (i := 3) (oi := _) (v := ?_) rfl (by kernel_rfl) (by kernel_rfl) (by kernel_rfl) (fun _ _ _ h => h) (Or.inl ⟨by rfl, ?_⟩) (by assumption) ?_
  rotate_left
  · intro w hSw
    (try dsimp only at hSw)
    go_simp
    with_reducible rfl
  try simp only [Act.put, List.setIfInBounds_toArray, List.set_cons_zero, List.set_cons_succ]
  refine wpAnyH_take (i := 4) (oi := _) (v := ?_) rfl (by kernel_rfl) (by kernel_rfl) (by kernel_rfl) (fun _ _ _ h => h) (Or.inl ⟨by rfl, ?_⟩) (by assumption) ?_
  rotate_left
  · intro w hSw
    (try dsimp only at hSw)
    go_simp
    with_reducible rfl
  try simp only [Act.put, List.setIfInBounds_toArray, List.set_cons_zero, List.set_cons_succ]
  refine wpAnyH_take (i := 5) (oi := _) (v := ?_) rfl (by kernel_rfl) (by kernel_rfl) (by kernel_rfl) (fun _ _ _ h => h) (Or.inl ⟨by rfl, ?_⟩) (by assumption) ?_
  rotate_left
  · intro w hSw
    (try dsimp only at hSw)
    go_simp
    with_reducible rfl
  try simp only [Act.put, List.setIfInBounds_toArray, List.set_cons_zero, List.set_cons_succ]
  refine wpAnyH_take (i := 6) (oi := _) (v := ?_) rfl (by kernel_rfl) (by kernel_rfl) (by kernel_rfl) (fun _ _ _ h => h) (Or.inl ⟨by rfl, ?_⟩) (by assumption) ?_
  rotate_left
  · intro w hSw
    (try dsimp only at hSw)
    go_simp
    with_reducible rfl
  try simp only [Act.put, List.setIfInBounds_toArray, List.set_cons_zero, List.set_cons_succ]
  refine wpAnyH_take (i := 7) (oi := _) (v := ?_) rfl (by kernel_rfl) (by kernel_rfl) (by kernel_rfl) (fun _ _ _ h => h) (Or.inl ⟨by rfl, ?_⟩) (by assumption) ?_
  rotate_left
  · intro w hSw
    (try dsimp only at hSw)
    go_simp
    with_reducible rfl
  try simp only [Act.put, List.setIfInBounds_toArray, List.set_cons_zero, List.set_cons_succ]
  refine wpAnyH_take (i := 8) (oi := _) (v := ?_) rfl (by kernel_rfl) (by kernel_rfl) (by kernel_rfl) (fun _ _ _ h => h) (Or.inl ⟨by rfl, ?_⟩) (by assumption) ?_
  rotate_left
  · intro w hSw
    (try dsimp only at hSw)
    go_simp
    with_reducible rfl
  try simp only [Act.put, List.setIfInBounds_toArray, List.set_cons_zero, List.set_cons_succ]
  refine wpAnyH_take (i := 9) (oi := _) (v := ?_) rfl (by kernel_rfl) (by kernel_rfl) (by kernel_rfl) (fun _ _ _ h => h) (Or.inl ⟨by rfl, ?_⟩) (by assumption) ?_
  rotate_left
  · intro w hSw
    (try dsimp only at hSw)
    go_simp
    with_reducible rfl
  try simp only [Act.put, List.setIfInBounds_toArray, List.set_cons_zero, List.set_cons_succ]
  refine wpAnyH_ready (rs := [10]) (by kernel_rfl) (by simp) ?_
  refine AllReadyH.cons (o := _) rfl (fun K hK => ?_) AllReadyH.nil
  go_simp
  have g2 := g1.moreSt (St.fresh #[.int .i64 0, .int .i64 0, .int .i64 0, .int .i64 0, .int .i64 0, .complex .f64 0 0] 26)
  refine hK.out _ _ (And.intro (HO.out _ _ g2.l.l.is).c1 (And.intro (HO.out _ _ g2.l.l.is).c6 (And.intro (HO.out _ _ g2.l.l.is).p0 (And.intro (HO.out _ _ g2.l.l.is).p1 (And.intro (HO.out _ _ g2.l.l.is).p2 (And.intro (HO.out _ _ g2.l.l.is).p3 (And.intro (HO.out _ _ g2.l.l.is).p4 (HO.out _ _ g2.l.l.is).p5))))))) (fun hHeld => ?_)
  clear hK K S1_ g1
  generalize wd.heap.size = ab at *
  generalize wd.alloc _ = we at *
  try simp only [Act.put, List.setIfInBounds_toArray, List.set_cons_zero, List.set_cons_succ]
  have q0 := g2.r.vc 0 (v := .int .i64 0) rfl
  have f0 := g2.r.vf 0
  have q1 := g2.r.vc 1 (v := .int .i64 0) rfl
  have f1 := g2.r.vf 1
  have q2 := g2.r.vc 2 (v := .int .i64 0) rfl
  have f2 := g2.r.vf 2
  have q3 := g2.r.vc 3 (v := .int .i64 0) rfl
  have f3 := g2.r.vf 3
  have q4 := g2.r.vc 4 (v := .int .i64 0) rfl
  have f4 := g2.r.vf 4
  have q5 := g2.r.vc 5 (v := .complex .f64 0 0) rfl
  have f5 := g2.r.vf 5
  have g3 := g2.then fun S h => goesR (fun S h => ((((((Goes.begin h).vput 0 (.int .i64 (o.kd : Int)) rfl).vput 1 (.int .i64 (o.a : Int)) rfl).vput 2 (.int .i64 (o.b : Int)) rfl).vput 3 (.int .i64 (o.c : Int)) rfl).vput 4 (.int .i64 (o.n : Int)) rfl).vput 5 (.complex .f64 o.z1 o.z2) rfl) S h
  refine wpAnyH_ready (rs := [11]) (by kernel_rfl) (by simp) ?_
  refine AllReadyH.cons (o := _) rfl (fun K hK => ?_) AllReadyH.nil
  go_simp
  refine hK.out _ _ (And.intro (HO.out _ _ g3.l.l.is).c1 (And.intro (HO.out _ _ g3.l.l.is).c6 (And.intro (HO.out _ _ g3.l.l.is).p0 (And.intro (HO.out _ _ g3.l.l.is).p1 (And.intro (HO.out _ _ g3.l.l.is).p2 (And.intro (HO.out _ _ g3.l.l.is).p3 (And.intro (HO.out _ _ g3.l.l.is).p4 (HO.out _ _ g3.l.l.is).p5))))))) (fun hHeld => ?_)
  clear hK K hHeld g2 q0 q1 q2 q3 q4 q5 f0 f1 f2 f3 f4 f5
  try simp only [Act.put, List.setIfInBounds_toArray, List.set_cons_zero, List.set_cons_succ]
  refine wpAnyH_done (by kernel_rfl) ?_ _
  generalize World.setCell (World.setCell (World.setCell (World.setCell (World.setCell (World.setCell _ _ _) _ _) _ _) _ _) _ _) _ _ = wf at *
  have c11 := (HO.out _ _ g3.l.l.is).c11
  have g4 : Goes (Sep (Sep O (Var rb #[.int .i64 0, .int .i64 0, .int .i64 0, .bool false, .complex .f64 0 0] 41)) (Var ab #[.int .i64 (o.kd : Int), .int .i64 (o.a : Int), .int .i64 (o.b : Int), .int .i64 (o.c : Int), .int .i64 (o.n : Int), .complex .f64 o.z1 o.z2] 26)) S w wf := g3
  have p0 := g4.r.vc 0 (v := .int .i64 (o.kd : Int)) rfl
  have p1 := g4.r.vc 1 (v := .int .i64 (o.a : Int)) rfl
  have p2 := g4.r.vc 2 (v := .int .i64 (o.b : Int)) rfl
  have p3 := g4.r.vc 3 (v := .int .i64 (o.c : Int)) rfl
  have p4 := g4.r.vc 4 (v := .int .i64 (o.n : Int)) rfl
  have p5 := g4.r.vc 5 (v := .complex .f64 o.z1 o.z2) rfl
  have HC := Lib.hid (Does.on (Does.l (HW.out wf (Var rb #[.int .i64 0, .int .i64 0, .int .i64 0, .bool false, .complex .f64 0 0] 41)) (B := Var ab #[.int .i64 (o.kd : Int), .int .i64 (o.a : Int), .int .i64 (o.b : Int), .int .i64 (o.c : Int), .int .i64 (o.n : Int), .complex .f64 o.z1 o.z2] 26)) g4)
  clear g3 g4 HO HW hlt hnx
  go_wp2_with fail
  with_reducible refine HC.out.mono ?_
  rintro e w3 ⟨y, ⟨rfl, hp⟩, hgx⟩
  have hg := hgx.l
  have HP := Lib.hid hp
  clear HC hgx hp c11 p0 p1 p2 p3 p4 p5
  have q0_ := hg.r.vc 0 (v := .int .i64 0) rfl
  have p0_ := hg.r.vf 0
  have q1_ := hg.r.vc 1 (v := .int .i64 0) rfl
  have p1_ := hg.r.vf 1
  have q2_ := hg.r.vc 2 (v := .int .i64 0) rfl
  have p2_ := hg.r.vf 2
  have q3_ := hg.r.vc 3 (v := .bool false) rfl
  have p3_ := hg.r.vf 3
  have q4_ := hg.r.vc 4 (v := .complex .f64 0 0) rfl
  have p4_ := hg.r.vf 4
  have g8_ := hg.then fun S h => goesR (fun S h => (((((Goes.begin h).vput 0 (.int .i64 ((rs y).nx)) rfl).vput 1 (.int .i64 ((rs y).own)) rfl).vput 2 (.int .i64 ((rs y).er)) rfl).vput 3 (.bool ((rs y).r)) rfl).vput 4 (.complex .f64 (rs y).z1 (rs y).z2) rfl) S h
  have k0_ := g8_.r.vc 0 (v := .int .i64 ((rs y).nx)) rfl
  have k1_ := g8_.r.vc 1 (v := .int .i64 ((rs y).own)) rfl
  have k2_ := g8_.r.vc 2 (v := .int .i64 ((rs y).er)) rfl
  have k3_ := g8_.r.vc 3 (v := .bool ((rs y).r)) rfl
  have k4_ := g8_.r.vc 4 (v := .complex .f64 (rs y).z1 (rs y).z2) rfl
  have HF := Lib.hid g8_.l
  clear hg g8_
  go_wp2_with fail
  (try rw [via_ret])
  exact bodyPost_ret (v := .tuple #[.agg #[.int .i64 ((rs y).nx), .int .i64 ((rs y).own), .int .i64 ((rs y).er), .bool ((rs y).r), .complex .f64 (rs y).z1 (rs y).z2], .bool (rs y).d]) (by simp [results, Tryz.results54, go_sem, k0_, k1_, k2_, k3_, k4_]) rfl ⟨y, ⟨rfl, HP.out⟩, HF.out⟩
set_option maxRecDepth 100000 in
theorem act_within2 (hO : ∀ S w, O.at_ S w → WCells b og oo no oc nx 2 o w) (hnx : nx < no)
    (hW : ∀ w, Does Tryz.prog 112 #[.pointer (some ⟨b, 0, none⟩), .pointer (some ⟨A.b, 0, none⟩), .agg (opc o)] w O (fun y e => e = .returned (rs y).v ∧ p y) O') :
    ∀ w, Does Tryz.prog 54 #[.pointer (some ⟨b, 0, none⟩), .pointer (some ⟨A.b, 0, none⟩)] w O (fun y e => e = .returned (rs y).v ∧ p y) O' := by
  intro w S h
  have g0 := (Goes.begin h).moreSt (St.fresh #[.int .i64 0, .int .i64 0, .int .i64 0, .bool false, .complex .f64 0 0] 41)
  generalize hrb : w.heap.size = rb at g0
  have g1 := g0.drew_
  have HO := Lib.hid hO
  have HW := Lib.hid fun w (X : Thing) => (hW w).l (B := X)
  have S1_ := And.intro (HO.out _ _ g1.l.is).c1 (And.intro (HO.out _ _ g1.l.is).c6 (And.intro (HO.out _ _ g1.l.is).p0 (And.intro (HO.out _ _ g1.l.is).p1 (And.intro (HO.out _ _ g1.l.is).p2 (And.intro (HO.out _ _ g1.l.is).p3 (And.intro (HO.out _ _ g1.l.is).p4 (HO.out _ _ g1.l.is).p5))))))
  have hlt : (nx : Int) < (no : Int) := by omega
  unfold Rs.v opc at *
  clear h g0 hO hW
  go_enter Tryz.func54, Tryz.ntmps54
  go_upto_region 1 with fail
  generalize w.alloc _ = w1 at *
  refine wp_region_held_drew (S := fun w' => w'.cell? ⟨b, 1, none⟩ = some (.slice (some ⟨og, oo, none⟩) no oc) ∧ w'.cell? ⟨b, 6, none⟩ = some (.int .i64 (nx : Int)) ∧ w'.cell? ⟨og, oo + nx * 6, none⟩ = some (.int .i64 (o.kd : Int)) ∧ w'.cell? ⟨og, oo + nx * 6 + 1, none⟩ = some (.int .i64 (o.a : Int)) ∧ w'.cell? ⟨og, oo + nx * 6 + 2, none⟩ = some (.int .i64 (o.b : Int)) ∧ w'.cell? ⟨og, oo + nx * 6 + 3, none⟩ = some (.int .i64 (o.c : Int)) ∧ w'.cell? ⟨og, oo + nx * 6 + 4, none⟩ = some (.int .i64 (o.n : Int)) ∧ w'.cell? ⟨og, oo + nx * 6 + 5, none⟩ = some (.complex .f64 o.z1 o.z2)) (by kernel_rfl) S1_ (fun hHeld => ?_)
  generalize w1.drew = wd at *
  refine wpAnyH_take (i := 0) (oi := _) (v := ?_) rfl (by kernel_rfl) (by kernel_rfl) (by kernel_rfl) (fun _ _ _ h => h) (Or.inl ⟨by rfl, ?_⟩) (by assumption) ?_
  rotate_left
  · intro w hSw
    (try dsimp only at hSw)
    go_simp
    with_reducible rfl
  try simp only [Act.put, List.setIfInBounds_toArray, List.set_cons_zero, List.set_cons_succ]
  refine wpAnyH_take (i := 1) (oi := _) (v := ?_) rfl (by kernel_rfl) (by kernel_rfl) (by kernel_rfl) (fun _ _ _ h => h) (Or.inl ⟨by rfl, ?_⟩) (by assumption) ?_
  rotate_left
  · intro w hSw
    (try dsimp only at hSw)
    go_simp
    with_reducible rfl
  try simp only [Act.put, List.setIfInBounds_toArray, List.set_cons_zero, List.set_cons_succ]
  refine wpAnyH_take (i := 2) (oi := _) (v := ?_) rfl (by kernel_rfl) (by kernel_rfl) (by kernel_rfl) (fun _ _ _ h => h) (Or.inl ⟨by rfl, ?_⟩) (by assumption) ?_
  rotate_left
  · intro w hSw
    (try dsimp only at hSw)
    go_simp
    with_reducible rfl
  try simp only [Act.put, List.setIfInBounds_toArray, List.set_cons_zero, List.set_cons_succ]
  refine wpAnyH_take (i := 3) (oi := _) (v := ?_) rfl (by kernel_rfl) (by kernel_rfl) (by kernel_rfl) (fun _ _ _ h => h) (Or.inl ⟨by rfl, ?_⟩) (by assumption) ?_
  rotate_left
  · intro w hSw
    (try dsimp only at hSw)
    go_simp
    with_reducible rfl
  try simp only [Act.put, List.setIfInBounds_toArray, List.set_cons_zero, List.set_cons_succ]
  refine wpAnyH_take (i := 4) (oi := _) (v := ?_) rfl (by kernel_rfl) (by kernel_rfl) (by kernel_rfl) (fun _ _ _ h => h) (Or.inl ⟨by rfl, ?_⟩) (by assumption) ?_
  rotate_left
  · intro w hSw
    (try dsimp only at hSw)
    go_simp
    with_reducible rfl
  try simp only [Act.put, List.setIfInBounds_toArray, List.set_cons_zero, List.set_cons_succ]
  refine wpAnyH_take (i := 5) (oi := _) (v := ?_) rfl (by kernel_rfl) (by kernel_rfl) (by kernel_rfl) (fun _ _ _ h => h) (Or.inl ⟨by rfl, ?_⟩) (by assumption) ?_
  rotate_left
  · intro w hSw
    (try dsimp only at hSw)
    go_simp
    with_reducible rfl
  try simp only [Act.put, List.setIfInBounds_toArray, List.set_cons_zero, List.set_cons_succ]
  refine wpAnyH_take (i := 6) (oi := _) (v := ?_) rfl (by kernel_rfl) (by kernel_rfl) (by kernel_rfl) (fun _ _ _ h => h) (Or.inl ⟨by rfl, ?_⟩) (by assumption) ?_
  rotate_left
  · intro w hSw
    (try dsimp only at hSw)
    go_simp
    with_reducible rfl
  try simp only [Act.put, List.setIfInBounds_toArray, List.set_cons_zero, List.set_cons_succ]
  refine wpAnyH_take (i := 7) (oi := _) (v := ?_) rfl (by kernel_rfl) (by kernel_rfl) (by kernel_rfl) (fun _ _ _ h => h) (Or.inl ⟨by rfl, ?_⟩) (by assumption) ?_
  rotate_left
  · intro w hSw
    (try dsimp only at hSw)
    go_simp
    with_reducible rfl
  try simp only [Act.put, List.setIfInBounds_toArray, List.set_cons_zero, List.set_cons_succ]
  refine wpAnyH_take (i := 8) (oi := _) (v := ?_) rfl (by kernel_rfl) (by kernel_rfl) (by kernel_rfl) (fun _ _ _ h => h) (Or.inl ⟨by rfl, ?_⟩) (by assumption) ?_
  rotate_left
  · intro w hSw
    (try dsimp only at hSw)
    go_simp
    with_reducible rfl
  try simp only [Act.put, List.setIfInBounds_toArray, List.set_cons_zero, List.set_cons_succ]
  refine wpAnyH_take (i := 9) (oi := _) (v := ?_) rfl (by kernel_rfl) (by kernel_rfl) (by kernel_rfl) (fun _ _ _ h => h) (Or.inl ⟨by rfl, ?_⟩) (by assumption) ?_
  rotate_left
  · intro w hSw
    (try dsimp only at hSw)
    go_simp
    with_reducible rfl
  try simp only [Act.put, List.setIfInBounds_toArray, List.set_cons_zero, List.set_cons_succ]
  refine wpAnyH_ready (rs := [10]) (by kernel_rfl) (by simp) ?_
  refine AllReadyH.cons (o := _) rfl (fun K hK => ?_) AllReadyH.nil
  go_simp
  have g2 := g1.moreSt (St.fresh #[.int .i64 0, .int .i64 0, .int .i64 0, .int .i64 0, .int .i64 0, .complex .f64 0 0] 26)
  refine hK.out _ _ (And.intro (HO.out _ _ g2.l.l.is).c1 (And.intro (HO.out _ _ g2.l.l.is).c6 (And.intro (HO.out _ _ g2.l.l.is).p0 (And.intro (HO.out _ _ g2.l.l.is).p1 (And.intro (HO.out _ _ g2.l.l.is).p2 (And.intro (HO.out _ _ g2.l.l.is).p3 (And.intro (HO.out _ _ g2.l.l.is).p4 (HO.out _ _ g2.l.l.is).p5))))))) (fun hHeld => ?_)
  clear hK K S1_ g1
  generalize wd.heap.size = ab at *
  generalize wd.alloc _ = we at *
  try simp only [Act.put, List.setIfInBounds_toArray, List.set_cons_zero, List.set_cons_succ]
  have q0 := g2.r.vc 0 (v := .int .i64 0) rfl
  have f0 := g2.r.vf 0
  have q1 := g2.r.vc 1 (v := .int .i64 0) rfl
  have f1 := g2.r.vf 1
  have q2 := g2.r.vc 2 (v := .int .i64 0) rfl
  have f2 := g2.r.vf 2
  have q3 := g2.r.vc 3 (v := .int .i64 0) rfl
  have f3 := g2.r.vf 3
  have q4 := g2.r.vc 4 (v := .int .i64 0) rfl
  have f4 := g2.r.vf 4
  have q5 := g2.r.vc 5 (v := .complex .f64 0 0) rfl
  have f5 := g2.r.vf 5
  have g3 := g2.then fun S h => goesR (fun S h => ((((((Goes.begin h).vput 0 (.int .i64 (o.kd : Int)) rfl).vput 1 (.int .i64 (o.a : Int)) rfl).vput 2 (.int .i64 (o.b : Int)) rfl).vput 3 (.int .i64 (o.c : Int)) rfl).vput 4 (.int .i64 (o.n : Int)) rfl).vput 5 (.complex .f64 o.z1 o.z2) rfl) S h
  refine wpAnyH_ready (rs := [11]) (by kernel_rfl) (by simp) ?_
  refine AllReadyH.cons (o := _) rfl (fun K hK => ?_) AllReadyH.nil
  go_simp
  refine hK.out _ _ (And.intro (HO.out _ _ g3.l.l.is).c1 (And.intro (HO.out _ _ g3.l.l.is).c6 (And.intro (HO.out _ _ g3.l.l.is).p0 (And.intro (HO.out _ _ g3.l.l.is).p1 (And.intro (HO.out _ _ g3.l.l.is).p2 (And.intro (HO.out _ _ g3.l.l.is).p3 (And.intro (HO.out _ _ g3.l.l.is).p4 (HO.out _ _ g3.l.l.is).p5))))))) (fun hHeld => ?_)
  clear hK K hHeld g2 q0 q1 q2 q3 q4 q5 f0 f1 f2 f3 f4 f5
  try simp only [Act.put, List.setIfInBounds_toArray, List.set_cons_zero, List.set_cons_succ]
  refine wpAnyH_done (by kernel_rfl) ?_ _
  generalize World.setCell (World.setCell (World.setCell (World.setCell (World.setCell (World.setCell _ _ _) _ _) _ _) _ _) _ _) _ _ = wf at *
  have c11 := (HO.out _ _ g3.l.l.is).c11
  have g4 : Goes (Sep (Sep O (Var rb #[.int .i64 0, .int .i64 0, .int .i64 0, .bool false, .complex .f64 0 0] 41)) (Var ab #[.int .i64 (o.kd : Int), .int .i64 (o.a : Int), .int .i64 (o.b : Int), .int .i64 (o.c : Int), .int .i64 (o.n : Int), .complex .f64 o.z1 o.z2] 26)) S w wf := g3
  have p0 := g4.r.vc 0 (v := .int .i64 (o.kd : Int)) rfl
  have p1 := g4.r.vc 1 (v := .int .i64 (o.a : Int)) rfl
  have p2 := g4.r.vc 2 (v := .int .i64 (o.b : Int)) rfl
  have p3 := g4.r.vc 3 (v := .int .i64 (o.c : Int)) rfl
  have p4 := g4.r.vc 4 (v := .int .i64 (o.n : Int)) rfl
  have p5 := g4.r.vc 5 (v := .complex .f64 o.z1 o.z2) rfl
  have HC := Lib.hid (Does.on (Does.l (HW.out wf (Var rb #[.int .i64 0, .int .i64 0, .int .i64 0, .bool false, .complex .f64 0 0] 41)) (B := Var ab #[.int .i64 (o.kd : Int), .int .i64 (o.a : Int), .int .i64 (o.b : Int), .int .i64 (o.c : Int), .int .i64 (o.n : Int), .complex .f64 o.z1 o.z2] 26)) g4)
  clear g3 g4 HO HW hlt hnx
  go_wp2_with fail
  with_reducible refine HC.out.mono ?_
  rintro e w3 ⟨y, ⟨rfl, hp⟩, hgx⟩
  have hg := hgx.l
  have HP := Lib.hid hp
  clear HC hgx hp c11 p0 p1 p2 p3 p4 p5
  have q0_ := hg.r.vc 0 (v := .int .i64 0) rfl
  have p0_ := hg.r.vf 0
  have q1_ := hg.r.vc 1 (v := .int .i64 0) rfl
  have p1_ := hg.r.vf 1
  have q2_ := hg.r.vc 2 (v := .int .i64 0) rfl
  have p2_ := hg.r.vf 2
  have q3_ := hg.r.vc 3 (v := .bool false) rfl
  have p3_ := hg.r.vf 3
  have q4_ := hg.r.vc 4 (v := .complex .f64 0 0) rfl
  have p4_ := hg.r.vf 4
  have g8_ := hg.then fun S h => goesR (fun S h => (((((Goes.begin h).vput 0 (.int .i64 ((rs y).nx)) rfl).vput 1 (.int .i64 ((rs y).own)) rfl).vput 2 (.int .i64 ((rs y).er)) rfl).vput 3 (.bool ((rs y).r)) rfl).vput 4 (.complex .f64 (rs y).z1 (rs y).z2) rfl) S h
  have k0_ := g8_.r.vc 0 (v := .int .i64 ((rs y).nx)) rfl
  have k1_ := g8_.r.vc 1 (v := .int .i64 ((rs y).own)) rfl
  have k2_ := g8_.r.vc 2 (v := .int .i64 ((rs y).er)) rfl
  have k3_ := g8_.r.vc 3 (v := .bool ((rs y).r)) rfl
  have k4_ := g8_.r.vc 4 (v := .complex .f64 (rs y).z1 (rs y).z2) rfl
  have HF := Lib.hid g8_.l
  clear hg g8_
  go_wp2_with fail
  (try rw [via_ret])
  exact bodyPost_ret (v := .tuple #[.agg #[.int .i64 ((rs y).nx), .int .i64 ((rs y).own), .int .i64 ((rs y).er), .bool ((rs y).r), .complex .f64 (rs y).z1 (rs y).z2], .bool (rs y).d]) (by simp [results, Tryz.results54, go_sem, k0_, k1_, k2_, k3_, k4_]) rfl ⟨y, ⟨rfl, HP.out⟩, HF.out⟩
set_option maxRecDepth 100000 in
theorem act_within7 (hO : ∀ S w, O.at_ S w → WCells b og oo no oc nx 7 o w) (hnx : nx < no)
    (hW : ∀ w, Does Tryz.prog 113 #[.pointer (some ⟨b, 0, none⟩), .pointer (some ⟨A.b, 0, none⟩)] w O (fun y e => e = .returned (rs y).v ∧ p y) O') :
    ∀ w, Does Tryz.prog 54 #[.pointer (some ⟨b, 0, none⟩), .pointer (some ⟨A.b, 0, none⟩)] w O (fun y e => e = .returned (rs y).v ∧ p y) O' := by
  intro w S h
  have g0 := (Goes.begin h).moreSt (St.fresh #[.int .i64 0, .int .i64 0, .int .i64 0, .bool false, .complex .f64 0 0] 41)
  generalize hrb : w.heap.size = rb at g0
  have g1 := g0.drew_
  have HO := Lib.hid hO
  have HW := Lib.hid fun w (X : Thing) => (hW w).l (B := X)
  have S1_ := And.intro (HO.out _ _ g1.l.is).c1 (And.intro (HO.out _ _ g1.l.is).c6 (And.intro (HO.out _ _ g1.l.is).p0 (And.intro (HO.out _ _ g1.l.is).p1 (And.intro (HO.out _ _ g1.l.is).p2 (And.intro (HO.out _ _ g1.l.is).p3 (And.intro (HO.out _ _ g1.l.is).p4 (HO.out _ _ g1.l.is).p5))))))
  have hlt : (nx : Int) < (no : Int) := by omega
  unfold Rs.v at *
  clear h g0 hO hW
  go_enter Tryz.func54, Tryz.ntmps54
  go_upto_region 1 with fail
  generalize w.alloc _ = w1 at *
  refine wp_region_held_drew (S := fun w' => w'.cell? ⟨b, 1, none⟩ = some (.slice (some ⟨og, oo, none⟩) no oc) ∧ w'.cell? ⟨b, 6, none⟩ = some (.int .i64 (nx : Int)) ∧ w'.cell? ⟨og, oo + nx * 6, none⟩ = some (.int .i64 (o.kd : Int)) ∧ w'.cell? ⟨og, oo + nx * 6 + 1, none⟩ = some (.int .i64 (o.a : Int)) ∧ w'.cell? ⟨og, oo + nx * 6 + 2, none⟩ = some (.int .i64 (o.b : Int)) ∧ w'.cell? ⟨og, oo + nx * 6 + 3, none⟩ = some (.int .i64 (o.c : Int)) ∧ w'.cell? ⟨og, oo + nx * 6 + 4, none⟩ = some (.int .i64 (o.n : Int)) ∧ w'.cell? ⟨og, oo + nx * 6 + 5, none⟩ = some (.complex .f64 o.z1 o.z2)) (by kernel_rfl) S1_ (fun hHeld => ?_)
  generalize w1.drew = wd at *
  refine wpAnyH_take (i := 0) (oi := _) (v := ?_) rfl (by kernel_rfl) (by kernel_rfl) (by kernel_rfl) (fun _ _ _ h => h) (Or.inl ⟨by rfl, ?_⟩) (by assumption) ?_
  rotate_left
  · intro w hSw
    (try dsimp only at hSw)
    go_simp
    with_reducible rfl
  try simp only [Act.put, List.setIfInBounds_toArray, List.set_cons_zero, List.set_cons_succ]
  refine wpAnyH_take (i := 1) (oi := _) (v := ?_) rfl (by kernel_rfl) (by kernel_rfl) (by kernel_rfl) (fun _ _ _ h => h) (Or.inl ⟨by rfl, ?_⟩) (by assumption) ?_
  rotate_left
  · intro w hSw
    (try dsimp only at hSw)
    go_simp
    with_reducible rfl
  try simp only [Act.put, List.setIfInBounds_toArray, List.set_cons_zero, List.set_cons_succ]
  refine wpAnyH_take (i := 2) (oi := _) (v := ?_) rfl (by kernel_rfl) (by kernel_rfl) (by kernel_rfl) (fun _ _ _ h => h) (Or.inl ⟨by rfl, ?_⟩) (by assumption) ?_
  rotate_left
  · intro w hSw
    (try dsimp only at hSw)
    go_simp
    with_reducible rfl
  try simp only [Act.put, List.setIfInBounds_toArray, List.set_cons_zero, List.set_cons_succ]
  refine wpAnyH_take (i := 3) (oi := _) (v := ?_) rfl (by kernel_rfl) (by kernel_rfl) (by kernel_rfl) (fun _ _ _ h => h) (Or.inl ⟨by rfl, ?_⟩) (by assumption) ?_
  rotate_left
  · intro w hSw
    (try dsimp only at hSw)
    go_simp
    with_reducible rfl
  try simp only [Act.put, List.setIfInBounds_toArray, List.set_cons_zero, List.set_cons_succ]
  refine wpAnyH_take (i := 4) (oi := _) (v := ?_) rfl (by kernel_rfl) (by kernel_rfl) (by kernel_rfl) (fun _ _ _ h => h) (Or.inl ⟨by rfl, ?_⟩) (by assumption) ?_
  rotate_left
  · intro w hSw
    (try dsimp only at hSw)
    go_simp
    with_reducible rfl
  try simp only [Act.put, List.setIfInBounds_toArray, List.set_cons_zero, List.set_cons_succ]
  refine wpAnyH_take (i := 5) (oi := _) (v := ?_) rfl (by kernel_rfl) (by kernel_rfl) (by kernel_rfl) (fun _ _ _ h => h) (Or.inl ⟨by rfl, ?_⟩) (by assumption) ?_
  rotate_left
  · intro w hSw
    (try dsimp only at hSw)
    go_simp
    with_reducible rfl
  try simp only [Act.put, List.setIfInBounds_toArray, List.set_cons_zero, List.set_cons_succ]
  refine wpAnyH_take (i := 6) (oi := _) (v := ?_) rfl (by kernel_rfl) (by kernel_rfl) (by kernel_rfl) (fun _ _ _ h => h) (Or.inl ⟨by rfl, ?_⟩) (by assumption) ?_
  rotate_left
  · intro w hSw
    (try dsimp only at hSw)
    go_simp
    with_reducible rfl
  try simp only [Act.put, List.setIfInBounds_toArray, List.set_cons_zero, List.set_cons_succ]
  refine wpAnyH_take (i := 7) (oi := _) (v := ?_) rfl (by kernel_rfl) (by kernel_rfl) (by kernel_rfl) (fun _ _ _ h => h) (Or.inl ⟨by rfl, ?_⟩) (by assumption) ?_
  rotate_left
  · intro w hSw
    (try dsimp only at hSw)
    go_simp
    with_reducible rfl
  try simp only [Act.put, List.setIfInBounds_toArray, List.set_cons_zero, List.set_cons_succ]
  refine wpAnyH_take (i := 8) (oi := _) (v := ?_) rfl (by kernel_rfl) (by kernel_rfl) (by kernel_rfl) (fun _ _ _ h => h) (Or.inl ⟨by rfl, ?_⟩) (by assumption) ?_
  rotate_left
  · intro w hSw
    (try dsimp only at hSw)
    go_simp
    with_reducible rfl
  try simp only [Act.put, List.setIfInBounds_toArray, List.set_cons_zero, List.set_cons_succ]
  refine wpAnyH_take (i := 9) (oi := _) (v := ?_) rfl (by kernel_rfl) (by kernel_rfl) (by kernel_rfl) (fun _ _ _ h => h) (Or.inl ⟨by rfl, ?_⟩) (by assumption) ?_
  rotate_left
  · intro w hSw
    (try dsimp only at hSw)
    go_simp
    with_reducible rfl
  try simp only [Act.put, List.setIfInBounds_toArray, List.set_cons_zero, List.set_cons_succ]
  refine wpAnyH_ready (rs := [10]) (by kernel_rfl) (by simp) ?_
  refine AllReadyH.cons (o := _) rfl (fun K hK => ?_) AllReadyH.nil
  go_simp
  have g2 := g1.moreSt (St.fresh #[.int .i64 0, .int .i64 0, .int .i64 0, .int .i64 0, .int .i64 0, .complex .f64 0 0] 26)
  refine hK.out _ _ (And.intro (HO.out _ _ g2.l.l.is).c1 (And.intro (HO.out _ _ g2.l.l.is).c6 (And.intro (HO.out _ _ g2.l.l.is).p0 (And.intro (HO.out _ _ g2.l.l.is).p1 (And.intro (HO.out _ _ g2.l.l.is).p2 (And.intro (HO.out _ _ g2.l.l.is).p3 (And.intro (HO.out _ _ g2.l.l.is).p4 (HO.out _ _ g2.l.l.is).p5))))))) (fun hHeld => ?_)
  clear hK K S1_ g1
  generalize wd.heap.size = ab at *
  generalize wd.alloc _ = we at *
  try simp only [Act.put, List.setIfInBounds_toArray, List.set_cons_zero, List.set_cons_succ]
  have q0 := g2.r.vc 0 (v := .int .i64 0) rfl
  have f0 := g2.r.vf 0
  have q1 := g2.r.vc 1 (v := .int .i64 0) rfl
  have f1 := g2.r.vf 1
  have q2 := g2.r.vc 2 (v := .int .i64 0) rfl
  have f2 := g2.r.vf 2
  have q3 := g2.r.vc 3 (v := .int .i64 0) rfl
  have f3 := g2.r.vf 3
  have q4 := g2.r.vc 4 (v := .int .i64 0) rfl
  have f4 := g2.r.vf 4
  have q5 := g2.r.vc 5 (v := .complex .f64 0 0) rfl
  have f5 := g2.r.vf 5
  have g3 := g2.then fun S h => goesR (fun S h => ((((((Goes.begin h).vput 0 (.int .i64 (o.kd : Int)) rfl).vput 1 (.int .i64 (o.a : Int)) rfl).vput 2 (.int .i64 (o.b : Int)) rfl).vput 3 (.int .i64 (o.c : Int)) rfl).vput 4 (.int .i64 (o.n : Int)) rfl).vput 5 (.complex .f64 o.z1 o.z2) rfl) S h
  refine wpAnyH_ready (rs := [11]) (by kernel_rfl) (by simp) ?_
  refine AllReadyH.cons (o := _) rfl (fun K hK => ?_) AllReadyH.nil
  go_simp
  refine hK.out _ _ (And.intro (HO.out _ _ g3.l.l.is).c1 (And.intro (HO.out _ _ g3.l.l.is).c6 (And.intro (HO.out _ _ g3.l.l.is).p0 (And.intro (HO.out _ _ g3.l.l.is).p1 (And.intro (HO.out _ _ g3.l.l.is).p2 (And.intro (HO.out _ _ g3.l.l.is).p3 (And.intro (HO.out _ _ g3.l.l.is).p4 (HO.out _ _ g3.l.l.is).p5))))))) (fun hHeld => ?_)
  clear hK K hHeld g2 q0 q1 q2 q3 q4 q5 f0 f1 f2 f3 f4 f5
  try simp only [Act.put, List.setIfInBounds_toArray, List.set_cons_zero, List.set_cons_succ]
  refine wpAnyH_done (by kernel_rfl) ?_ _
  generalize World.setCell (World.setCell (World.setCell (World.setCell (World.setCell (World.setCell _ _ _) _ _) _ _) _ _) _ _) _ _ = wf at *
  have c11 := (HO.out _ _ g3.l.l.is).c11
  have g4 : Goes (Sep (Sep O (Var rb #[.int .i64 0, .int .i64 0, .int .i64 0, .bool false, .complex .f64 0 0] 41)) (Var ab #[.int .i64 (o.kd : Int), .int .i64 (o.a : Int), .int .i64 (o.b : Int), .int .i64 (o.c : Int), .int .i64 (o.n : Int), .complex .f64 o.z1 o.z2] 26)) S w wf := g3
  have p0 := g4.r.vc 0 (v := .int .i64 (o.kd : Int)) rfl
  have p1 := g4.r.vc 1 (v := .int .i64 (o.a : Int)) rfl
  have p2 := g4.r.vc 2 (v := .int .i64 (o.b : Int)) rfl
  have p3 := g4.r.vc 3 (v := .int .i64 (o.c : Int)) rfl
  have p4 := g4.r.vc 4 (v := .int .i64 (o.n : Int)) rfl
  have p5 := g4.r.vc 5 (v := .complex .f64 o.z1 o.z2) rfl
  have HC := Lib.hid (Does.on (Does.l (HW.out wf (Var rb #[.int .i64 0, .int .i64 0, .int .i64 0, .bool false, .complex .f64 0 0] 41)) (B := Var ab #[.int .i64 (o.kd : Int), .int .i64 (o.a : Int), .int .i64 (o.b : Int), .int .i64 (o.c : Int), .int .i64 (o.n : Int), .complex .f64 o.z1 o.z2] 26)) g4)
  clear g3 g4 HO HW hlt hnx
  go_wp2_with fail
  with_reducible refine HC.out.mono ?_
  rintro e w3 ⟨y, ⟨rfl, hp⟩, hgx⟩
  have hg := hgx.l
  have HP := Lib.hid hp
  clear HC hgx hp c11 p0 p1 p2 p3 p4 p5
  have q0_ := hg.r.vc 0 (v := .int .i64 0) rfl
  have p0_ := hg.r.vf 0
  have q1_ := hg.r.vc 1 (v := .int .i64 0) rfl
  have p1_ := hg.r.vf 1
  have q2_ := hg.r.vc 2 (v := .int .i64 0) rfl
  have p2_ := hg.r.vf 2
  have q3_ := hg.r.vc 3 (v := .bool false) rfl
  have p3_ := hg.r.vf 3
  have q4_ := hg.r.vc 4 (v := .complex .f64 0 0) rfl
  have p4_ := hg.r.vf 4
  have g8_ := hg.then fun S h => goesR (fun S h => (((((Goes.begin h).vput 0 (.int .i64 ((rs y).nx)) rfl).vput 1 (.int .i64 ((rs y).own)) rfl).vput 2 (.int .i64 ((rs y).er)) rfl).vput 3 (.bool ((rs y).r)) rfl).vput 4 (.complex .f64 (rs y).z1 (rs y).z2) rfl) S h
  have k0_ := g8_.r.vc 0 (v := .int .i64 ((rs y).nx)) rfl
  have k1_ := g8_.r.vc 1 (v := .int .i64 ((rs y).own)) rfl
  have k2_ := g8_.r.vc 2 (v := .int .i64 ((rs y).er)) rfl
  have k3_ := g8_.r.vc 3 (v := .bool ((rs y).r)) rfl
  have k4_ := g8_.r.vc 4 (v := .complex .f64 (rs y).z1 (rs y).z2) rfl
  have HF := Lib.hid g8_.l
  clear hg g8_
  go_wp2_with fail
  (try rw [via_ret])
  exact bodyPost_ret (v := .tuple #[.agg #[.int .i64 ((rs y).nx), .int .i64 ((rs y).own), .int .i64 ((rs y).er), .bool ((rs y).r), .complex .f64 (rs y).z1 (rs y).z2], .bool (rs y).d]) (by simp [results, Tryz.results54, go_sem, k0_, k1_, k2_, k3_, k4_]) rfl ⟨y, ⟨rfl, HP.out⟩, HF.out⟩
set_option maxRecDepth 100000 in
theorem act_within8 (hO : ∀ S w, O.at_ S w → WCells b og oo no oc nx 8 o w) (hnx : nx < no)
    (hW : ∀ w, Does Tryz.prog 114 #[.pointer (some ⟨b, 0, none⟩), .pointer (some ⟨A.b, 0, none⟩), .agg (opc o)] w O (fun y e => e = .returned (rs y).v ∧ p y) O') :
    ∀ w, Does Tryz.prog 54 #[.pointer (some ⟨b, 0, none⟩), .pointer (some ⟨A.b, 0, none⟩)] w O (fun y e => e = .returned (rs y).v ∧ p y) O' := by
  intro w S h
  have g0 := (Goes.begin h).moreSt (St.fresh #[.int .i64 0, .int .i64 0, .int .i64 0, .bool false, .complex .f64 0 0] 41)
  generalize hrb : w.heap.size = rb at g0
  have g1 := g0.drew_
  have HO := Lib.hid hO
  have HW := Lib.hid fun w (X : Thing) => (hW w).l (B := X)
  have S1_ := And.intro (HO.out _ _ g1.l.is).c1 (And.intro (HO.out _ _ g1.l.is).c6 (And.intro (HO.out _ _ g1.l.is).p0 (And.intro (HO.out _ _ g1.l.is).p1 (And.intro (HO.out _ _ g1.l.is).p2 (And.intro (HO.out _ _ g1.l.is).p3 (And.intro (HO.out _ _ g1.l.is).p4 (HO.out _ _ g1.l.is).p5))))))
  have hlt : (nx : Int) < (no : Int) := by omega
  unfold Rs.v opc at *
  clear h g0 hO hW
  go_enter Tryz.func54, Tryz.ntmps54
  go_upto_region 1 with fail
  generalize w.alloc _ = w1 at *
  refine wp_region_held_drew (S := fun w' => w'.cell? ⟨b, 1, none⟩ = some (.slice (some ⟨og, oo, none⟩) no oc) ∧ w'.cell? ⟨b, 6, none⟩ = some (.int .i64 (nx : Int)) ∧ w'.cell? ⟨og, oo + nx * 6, none⟩ = some (.int .i64 (o.kd : Int)) ∧ w'.cell? ⟨og, oo + nx * 6 + 1, none⟩ = some (.int .i64 (o.a : Int)) ∧ w'.cell? ⟨og, oo + nx * 6 + 2, none⟩ = some (.int .i64 (o.b : Int)) ∧ w'.cell? ⟨og, oo + nx * 6 + 3, none⟩ = some (.int .i64 (o.c : Int)) ∧ w'.cell? ⟨og, oo + nx * 6 + 4, none⟩ = some (.int .i64 (o.n : Int)) ∧ w'.cell? ⟨og, oo + nx * 6 + 5, none⟩ = some (.complex .f64 o.z1 o.z2)) (by kernel_rfl) S1_ (fun hHeld => ?_)
  generalize w1.drew = wd at *
  refine wpAnyH_take (i := 0) (oi := _) (v := ?_) rfl (by kernel_rfl) (by kernel_rfl) (by kernel_rfl) (fun _ _ _ h => h) (Or.inl ⟨by rfl, ?_⟩) (by assumption) ?_
  rotate_left
  · intro w hSw
    (try dsimp only at hSw)
    go_simp
    with_reducible rfl
  try simp only [Act.put, List.setIfInBounds_toArray, List.set_cons_zero, List.set_cons_succ]
  refine wpAnyH_take (i := 1) (oi := _) (v := ?_) rfl (by kernel_rfl) (by kernel_rfl) (by kernel_rfl) (fun _ _ _ h => h) (Or.inl ⟨by rfl, ?_⟩) (by assumption) ?_
  rotate_left
  · intro w hSw
    (try dsimp only at hSw)
    go_simp
    with_reducible rfl
  try simp only [Act.put, List.setIfInBounds_toArray, List.set_cons_zero, List.set_cons_succ]
  refine wpAnyH_take (i := 2) (oi := _) (v := ?_) rfl (by kernel_rfl) (by kernel_rfl) (by kernel_rfl) (fun _ _ _ h => h) (Or.inl ⟨by rfl, ?_⟩) (by assumption) ?_
  rotate_left
  · intro w hSw
    (try dsimp only at hSw)
    go_simp
    with_reducible rfl
  try simp only [Act.put, List.setIfInBounds_toArray, List.set_cons_zero, List.set_cons_succ]
  refine wpAnyH_take (i := 3) (oi := _) (v := ?_) rfl (by kernel_rfl) (by kernel_rfl) (by kernel_rfl) (fun _ _ _ h => h) (Or.inl ⟨by rfl, ?_⟩) (by assumption) ?_
  rotate_left
  · intro w hSw
    (try dsimp only at hSw)
    go_simp
    with_reducible rfl
  try simp only [Act.put, List.setIfInBounds_toArray, List.set_cons_zero, List.set_cons_succ]
  refine wpAnyH_take (i := 4) (oi := _) (v := ?_) rfl (by kernel_rfl) (by kernel_rfl) (by kernel_rfl) (fun _ _ _ h => h) (Or.inl ⟨by rfl, ?_⟩) (by assumption) ?_
  rotate_left
  · intro w hSw
    (try dsimp only at hSw)
    go_simp
    with_reducible rfl
  try simp only [Act.put, List.setIfInBounds_toArray, List.set_cons_zero, List.set_cons_succ]
  refine wpAnyH_take (i := 5) (oi := _) (v := ?_) rfl (by kernel_rfl) (by kernel_rfl) (by kernel_rfl) (fun _ _ _ h => h) (Or.inl ⟨by rfl, ?_⟩) (by assumption) ?_
  rotate_left
  · intro w hSw
    (try dsimp only at hSw)
    go_simp
    with_reducible rfl
  try simp only [Act.put, List.setIfInBounds_toArray, List.set_cons_zero, List.set_cons_succ]
  refine wpAnyH_take (i := 6) (oi := _) (v := ?_) rfl (by kernel_rfl) (by kernel_rfl) (by kernel_rfl) (fun _ _ _ h => h) (Or.inl ⟨by rfl, ?_⟩) (by assumption) ?_
  rotate_left
  · intro w hSw
    (try dsimp only at hSw)
    go_simp
    with_reducible rfl
  try simp only [Act.put, List.setIfInBounds_toArray, List.set_cons_zero, List.set_cons_succ]
  refine wpAnyH_take (i := 7) (oi := _) (v := ?_) rfl (by kernel_rfl) (by kernel_rfl) (by kernel_rfl) (fun _ _ _ h => h) (Or.inl ⟨by rfl, ?_⟩) (by assumption) ?_
  rotate_left
  · intro w hSw
    (try dsimp only at hSw)
    go_simp
    with_reducible rfl
  try simp only [Act.put, List.setIfInBounds_toArray, List.set_cons_zero, List.set_cons_succ]
  refine wpAnyH_take (i := 8) (oi := _) (v := ?_) rfl (by kernel_rfl) (by kernel_rfl) (by kernel_rfl) (fun _ _ _ h => h) (Or.inl ⟨by rfl, ?_⟩) (by assumption) ?_
  rotate_left
  · intro w hSw
    (try dsimp only at hSw)
    go_simp
    with_reducible rfl
  try simp only [Act.put, List.setIfInBounds_toArray, List.set_cons_zero, List.set_cons_succ]
  refine wpAnyH_take (i := 9) (oi := _) (v := ?_) rfl (by kernel_rfl) (by kernel_rfl) (by kernel_rfl) (fun _ _ _ h => h) (Or.inl ⟨by rfl, ?_⟩) (by assumption) ?_
  rotate_left
  · intro w hSw
    (try dsimp only at hSw)
    go_simp
    with_reducible rfl
  try simp only [Act.put, List.setIfInBounds_toArray, List.set_cons_zero, List.set_cons_succ]
  refine wpAnyH_ready (rs := [10]) (by kernel_rfl) (by simp) ?_
  refine AllReadyH.cons (o := _) rfl (fun K hK => ?_) AllReadyH.nil
  go_simp
  have g2 := g1.moreSt (St.fresh #[.int .i64 0, .int .i64 0, .int .i64 0, .int .i64 0, .int .i64 0, .complex .f64 0 0] 26)
  refine hK.out _ _ (And.intro (HO.out _ _ g2.l.l.is).c1 (And.intro (HO.out _ _ g2.l.l.is).c6 (And.intro (HO.out _ _ g2.l.l.is).p0 (And.intro (HO.out _ _ g2.l.l.is).p1 (And.intro (HO.out _ _ g2.l.l.is).p2 (And.intro (HO.out _ _ g2.l.l.is).p3 (And.intro (HO.out _ _ g2.l.l.is).p4 (HO.out _ _ g2.l.l.is).p5))))))) (fun hHeld => ?_)
  clear hK K S1_ g1
  generalize wd.heap.size = ab at *
  generalize wd.alloc _ = we at *
  try simp only [Act.put, List.setIfInBounds_toArray, List.set_cons_zero, List.set_cons_succ]
  have q0 := g2.r.vc 0 (v := .int .i64 0) rfl
  have f0 := g2.r.vf 0
  have q1 := g2.r.vc 1 (v := .int .i64 0) rfl
  have f1 := g2.r.vf 1
  have q2 := g2.r.vc 2 (v := .int .i64 0) rfl
  have f2 := g2.r.vf 2
  have q3 := g2.r.vc 3 (v := .int .i64 0) rfl
  have f3 := g2.r.vf 3
  have q4 := g2.r.vc 4 (v := .int .i64 0) rfl
  have f4 := g2.r.vf 4
  have q5 := g2.r.vc 5 (v := .complex .f64 0 0) rfl
  have f5 := g2.r.vf 5
  have g3 := g2.then fun S h => goesR (fun S h => ((((((Goes.begin h).vput 0 (.int .i64 (o.kd : Int)) rfl).vput 1 (.int .i64 (o.a : Int)) rfl).vput 2 (.int .i64 (o.b : Int)) rfl).vput 3 (.int .i64 (o.c : Int)) rfl).vput 4 (.int .i64 (o.n : Int)) rfl).vput 5 (.complex .f64 o.z1 o.z2) rfl) S h
  refine wpAnyH_ready (rs := [11]) (by kernel_rfl) (by simp) ?_
  refine AllReadyH.cons (o := _) rfl (fun K hK => ?_) AllReadyH.nil
  go_simp
  refine hK.out _ _ (And.intro (HO.out _ _ g3.l.l.is).c1 (And.intro (HO.out _ _ g3.l.l.is).c6 (And.intro (HO.out _ _ g3.l.l.is).p0 (And.intro (HO.out _ _ g3.l.l.is).p1 (And.intro (HO.out _ _ g3.l.l.is).p2 (And.intro (HO.out _ _ g3.l.l.is).p3 (And.intro (HO.out _ _ g3.l.l.is).p4 (HO.out _ _ g3.l.l.is).p5))))))) (fun hHeld => ?_)
  clear hK K hHeld g2 q0 q1 q2 q3 q4 q5 f0 f1 f2 f3 f4 f5
  try simp only [Act.put, List.setIfInBounds_toArray, List.set_cons_zero, List.set_cons_succ]
  refine wpAnyH_done (by kernel_rfl) ?_ _
  generalize World.setCell (World.setCell (World.setCell (World.setCell (World.setCell (World.setCell _ _ _) _ _) _ _) _ _) _ _) _ _ = wf at *
  have c11 := (HO.out _ _ g3.l.l.is).c11
  have g4 : Goes (Sep (Sep O (Var rb #[.int .i64 0, .int .i64 0, .int .i64 0, .bool false, .complex .f64 0 0] 41)) (Var ab #[.int .i64 (o.kd : Int), .int .i64 (o.a : Int), .int .i64 (o.b : Int), .int .i64 (o.c : Int), .int .i64 (o.n : Int), .complex .f64 o.z1 o.z2] 26)) S w wf := g3
  have p0 := g4.r.vc 0 (v := .int .i64 (o.kd : Int)) rfl
  have p1 := g4.r.vc 1 (v := .int .i64 (o.a : Int)) rfl
  have p2 := g4.r.vc 2 (v := .int .i64 (o.b : Int)) rfl
  have p3 := g4.r.vc 3 (v := .int .i64 (o.c : Int)) rfl
  have p4 := g4.r.vc 4 (v := .int .i64 (o.n : Int)) rfl
  have p5 := g4.r.vc 5 (v := .complex .f64 o.z1 o.z2) rfl
  have HC := Lib.hid (Does.on (Does.l (HW.out wf (Var rb #[.int .i64 0, .int .i64 0, .int .i64 0, .bool false, .complex .f64 0 0] 41)) (B := Var ab #[.int .i64 (o.kd : Int), .int .i64 (o.a : Int), .int .i64 (o.b : Int), .int .i64 (o.c : Int), .int .i64 (o.n : Int), .complex .f64 o.z1 o.z2] 26)) g4)
  clear g3 g4 HO HW hlt hnx
  go_wp2_with fail
  with_reducible refine HC.out.mono ?_
  rintro e w3 ⟨y, ⟨rfl, hp⟩, hgx⟩
  have hg := hgx.l
  have HP := Lib.hid hp
  clear HC hgx hp c11 p0 p1 p2 p3 p4 p5
  have q0_ := hg.r.vc 0 (v := .int .i64 0) rfl
  have p0_ := hg.r.vf 0
  have q1_ := hg.r.vc 1 (v := .int .i64 0) rfl
  have p1_ := hg.r.vf 1
  have q2_ := hg.r.vc 2 (v := .int .i64 0) rfl
  have p2_ := hg.r.vf 2
  have q3_ := hg.r.vc 3 (v := .bool false) rfl
  have p3_ := hg.r.vf 3
  have q4_ := hg.r.vc 4 (v := .complex .f64 0 0) rfl
  have p4_ := hg.r.vf 4
  have g8_ := hg.then fun S h => goesR (fun S h => (((((Goes.begin h).vput 0 (.int .i64 ((rs y).nx)) rfl).vput 1 (.int .i64 ((rs y).own)) rfl).vput 2 (.int .i64 ((rs y).er)) rfl).vput 3 (.bool ((rs y).r)) rfl).vput 4 (.complex .f64 (rs y).z1 (rs y).z2) rfl) S h
  have k0_ := g8_.r.vc 0 (v := .int .i64 ((rs y).nx)) rfl
  have k1_ := g8_.r.vc 1 (v := .int .i64 ((rs y).own)) rfl
  have k2_ := g8_.r.vc 2 (v := .int .i64 ((rs y).er)) rfl
  have k3_ := g8_.r.vc 3 (v := .bool ((rs y).r)) rfl
  have k4_ := g8_.r.vc 4 (v := .complex .f64 (rs y).z1 (rs y).z2) rfl
  have HF := Lib.hid g8_.l
  clear hg g8_
  go_wp2_with fail
  (try rw [via_ret])
  exact bodyPost_ret (v := .tuple #[.agg #[.int .i64 ((rs y).nx), .int .i64 ((rs y).own), .int .i64 ((rs y).er), .bool ((rs y).r), .complex .f64 (rs y).z1 (rs y).z2], .bool (rs y).d]) (by simp [results, Tryz.results54, go_sem, k0_, k1_, k2_, k3_, k4_]) rfl ⟨y, ⟨rfl, HP.out⟩, HF.out⟩
set_option maxRecDepth 100000 in
theorem act_within5 (hO : ∀ S w, O.at_ S w → WCells b og oo no oc nx 5 o w) (hnx : nx < no)
    (hW : ∀ w, Does Tryz.prog 117 #[.pointer (some ⟨b, 0, none⟩), .pointer (some ⟨A.b, 0, none⟩)] w O (fun y e => e = .returned (rs y).v ∧ p y) O') :
    ∀ w, Does Tryz.prog 54 #[.pointer (some ⟨b, 0, none⟩), .pointer (some ⟨A.b, 0, none⟩)] w O (fun y e => e = .returned (rs y).v ∧ p y) O' := by
  intro w S h
  have g0 := (Goes.begin h).moreSt (St.fresh #[.int .i64 0, .int .i64 0, .int .i64 0, .bool false, .complex .f64 0 0] 41)
  generalize hrb : w.heap.size = rb at g0
  have g1 := g0.drew_
  have HO := Lib.hid hO
  have HW := Lib.hid fun w (X : Thing) => (hW w).l (B := X)
  have S1_ := And.intro (HO.out _ _ g1.l.is).c1 (And.intro (HO.out _ _ g1.l.is).c6 (And.intro (HO.out _ _ g1.l.is).p0 (And.intro (HO.out _ _ g1.l.is).p1 (And.intro (HO.out _ _ g1.l.is).p2 (And.intro (HO.out _ _ g1.l.is).p3 (And.intro (HO.out _ _ g1.l.is).p4 (HO.out _ _ g1.l.is).p5))))))
  have hlt : (nx : Int) < (no : Int) := by omega
  unfold Rs.v at *
  clear h g0 hO hW
  go_enter Tryz.func54, Tryz.ntmps54
  go_upto_region 1 with fail
  generalize w.alloc _ = w1 at *
  refine wp_region_held_drew (S := fun w' => w'.cell? ⟨b, 1, none⟩ = some (.slice (some ⟨og, oo, none⟩) no oc) ∧ w'.cell? ⟨b, 6, none⟩ = some (.int .i64 (nx : Int)) ∧ w'.cell? ⟨og, oo + nx * 6, none⟩ = some (.int .i64 (o.kd : Int)) ∧ w'.cell? ⟨og, oo + nx * 6 + 1, none⟩ = some (.int .i64 (o.a : Int)) ∧ w'.cell? ⟨og, oo + nx * 6 + 2, none⟩ = some (.int .i64 (o.b : Int)) ∧ w'.cell? ⟨og, oo + nx * 6 + 3, none⟩ = some (.int .i64 (o.c : Int)) ∧ w'.cell? ⟨og, oo + nx * 6 + 4, none⟩ = some (.int .i64 (o.n : Int)) ∧ w'.cell? ⟨og, oo + nx * 6 + 5, none⟩ = some (.complex .f64 o.z1 o.z2)) (by kernel_rfl) S1_ (fun hHeld => ?_)
  generalize w1.drew = wd at *
  refine wpAnyH_take (i := 0) (oi := _) (v := ?_) rfl (by kernel_rfl) (by kernel_rfl) (by kernel_rfl) (fun _ _ _ h => h) (Or.inl ⟨by rfl, ?_⟩) (by assumption) ?_
  rotate_left
  · intro w hSw
    (try dsimp only at hSw)
    go_simp
    with_reducible rfl
  try simp only [Act.put, List.setIfInBounds_toArray, List.set_cons_zero, List.set_cons_succ]
  refine wpAnyH_take (i := 1) (oi := _) (v := ?_) rfl (by kernel_rfl) (by kernel_rfl) (by kernel_rfl) (fun _ _ _ h => h) (Or.inl ⟨by rfl, ?_⟩) (by assumption) ?_
  rotate_left
  · intro w hSw
    (try dsimp only at hSw)
    go_simp
    with_reducible rfl
  try simp only [Act.put, List.setIfInBounds_toArray, List.set_cons_zero, List.set_cons_succ]
  refine wpAnyH_take (i := 2) (oi := _) (v := ?_) rfl (by kernel_rfl) (by kernel_rfl) (by kernel_rfl) (fun _ _ _ h => h) (Or.inl ⟨by rfl, ?_⟩) (by assumption) ?_
  rotate_left
  · intro w hSw
    (try dsimp only at hSw)
    go_simp
    with_reducible rfl
  try simp only [Act.put, List.setIfInBounds_toArray, List.set_cons_zero, List.set_cons_succ]
  refine wpAnyH_take (i := 3) (oi := _) (v := ?_) rfl (by kernel_rfl) (by kernel_rfl) (by kernel_rfl) (fun _ _ _ h => h) (Or.inl ⟨by rfl, ?_⟩) (by assumption) ?_
  rotate_left
  · intro w hSw
    (try dsimp only at hSw)
    go_simp
    with_reducible rfl
  try simp only [Act.put, List.setIfInBounds_toArray, List.set_cons_zero, List.set_cons_succ]
  refine wpAnyH_take (i := 4) (oi := _) (v := ?_) rfl (by kernel_rfl) (by kernel_rfl) (by kernel_rfl) (fun _ _ _ h => h) (Or.inl ⟨by rfl, ?_⟩) (by assumption) ?_
  rotate_left
  · intro w hSw
    (try dsimp only at hSw)
    go_simp
    with_reducible rfl
  try simp only [Act.put, List.setIfInBounds_toArray, List.set_cons_zero, List.set_cons_succ]
  refine wpAnyH_take (i := 5) (oi := _) (v := ?_) rfl (by kernel_rfl) (by kernel_rfl) (by kernel_rfl) (fun _ _ _ h => h) (Or.inl ⟨by rfl, ?_⟩) (by assumption) ?_
  rotate_left
  · intro w hSw
    (try dsimp only at hSw)
    go_simp
    with_reducible rfl
  try simp only [Act.put, List.setIfInBounds_toArray, List.set_cons_zero, List.set_cons_succ]
  refine wpAnyH_take (i := 6) (oi := _) (v := ?_) rfl (by kernel_rfl) (by kernel_rfl) (by kernel_rfl) (fun _ _ _ h => h) (Or.inl ⟨by rfl, ?_⟩) (by assumption) ?_
  rotate_left
  · intro w hSw
    (try dsimp only at hSw)
    go_simp
    with_reducible rfl
  try simp only [Act.put, List.setIfInBounds_toArray, List.set_cons_zero, List.set_cons_succ]
  refine wpAnyH_take (i := 7) (oi := _) (v := ?_) rfl (by kernel_rfl) (by kernel_rfl) (by kernel_rfl) (fun _ _ _ h => h) (Or.inl ⟨by rfl, ?_⟩) (by assumption) ?_
  rotate_left
  · intro w hSw
    (try dsimp only at hSw)
    go_simp
    with_reducible rfl
  try simp only [Act.put, List.setIfInBounds_toArray, List.set_cons_zero, List.set_cons_succ]
  refine wpAnyH_take (i := 8) (oi := _) (v := ?_) rfl (by kernel_rfl) (by kernel_rfl) (by kernel_rfl) (fun _ _ _ h => h) (Or.inl ⟨by rfl, ?_⟩) (by assumption) ?_
  rotate_left
  · intro w hSw
    (try dsimp only at hSw)
    go_simp
    with_reducible rfl
  try simp only [Act.put, List.setIfInBounds_toArray, List.set_cons_zero, List.set_cons_succ]
  refine wpAnyH_take (i := 9) (oi := _) (v := ?_) rfl (by kernel_rfl) (by kernel_rfl) (by kernel_rfl) (fun _ _ _ h => h) (Or.inl ⟨by rfl, ?_⟩) (by assumption) ?_
  rotate_left
  · intro w hSw
    (try dsimp only at hSw)
    go_simp
    with_reducible rfl
  try simp only [Act.put, List.setIfInBounds_toArray, List.set_cons_zero, List.set_cons_succ]
  refine wpAnyH_ready (rs := [10]) (by kernel_rfl) (by simp) ?_
  refine AllReadyH.cons (o := _) rfl (fun K hK => ?_) AllReadyH.nil
  go_simp
  have g2 := g1.moreSt (St.fresh #[.int .i64 0, .int .i64 0, .int .i64 0, .int .i64 0, .int .i64 0, .complex .f64 0 0] 26)
  refine hK.out _ _ (And.intro (HO.out _ _ g2.l.l.is).c1 (And.intro (HO.out _ _ g2.l.l.is).c6 (And.intro (HO.out _ _ g2.l.l.is).p0 (And.intro (HO.out _ _ g2.l.l.is).p1 (And.intro (HO.out _ _ g2.l.l.is).p2 (And.intro (HO.out _ _ g2.l.l.is).p3 (And.intro (HO.out _ _ g2.l.l.is).p4 (HO.out _ _ g2.l.l.is).p5))))))) (fun hHeld => ?_)
  clear hK K S1_ g1
  generalize wd.heap.size = ab at *
  generalize wd.alloc _ = we at *
  try simp only [Act.put, List.setIfInBounds_toArray, List.set_cons_zero, List.set_cons_succ]
  have q0 := g2.r.vc 0 (v := .int .i64 0) rfl
  have f0 := g2.r.vf 0
  have q1 := g2.r.vc 1 (v := .int .i64 0) rfl
  have f1 := g2.r.vf 1
  have q2 := g2.r.vc 2 (v := .int .i64 0) rfl
  have f2 := g2.r.vf 2
  have q3 := g2.r.vc 3 (v := .int .i64 0) rfl
  have f3 := g2.r.vf 3
  have q4 := g2.r.vc 4 (v := .int .i64 0) rfl
  have f4 := g2.r.vf 4
  have q5 := g2.r.vc 5 (v := .complex .f64 0 0) rfl
  have f5 := g2.r.vf 5
  have g3 := g2.then fun S h => goesR (fun S h => ((((((Goes.begin h).vput 0 (.int .i64 (o.kd : Int)) rfl).vput 1 (.int .i64 (o.a : Int)) rfl).vput 2 (.int .i64 (o.b : Int)) rfl).vput 3 (.int .i64 (o.c : Int)) rfl).vput 4 (.int .i64 (o.n : Int)) rfl).vput 5 (.complex .f64 o.z1 o.z2) rfl) S h
  refine wpAnyH_ready (rs := [11]) (by kernel_rfl) (by simp) ?_
  refine AllReadyH.cons (o := _) rfl (fun K hK => ?_) AllReadyH.nil
  go_simp
  refine hK.out _ _ (And.intro (HO.out _ _ g3.l.l.is).c1 (And.intro (HO.out _ _ g3.l.l.is).c6 (And.intro (HO.out _ _ g3.l.l.is).p0 (And.intro (HO.out _ _ g3.l.l.is).p1 (And.intro (HO.out _ _ g3.l.l.is).p2 (And.intro (HO.out _ _ g3.l.l.is).p3 (And.intro (HO.out _ _ g3.l.l.is).p4 (HO.out _ _ g3.l.l.is).p5))))))) (fun hHeld => ?_)
  clear hK K hHeld g2 q0 q1 q2 q3 q4 q5 f0 f1 f2 f3 f4 f5
  try simp only [Act.put, List.setIfInBounds_toArray, List.set_cons_zero, List.set_cons_succ]
  refine wpAnyH_done (by kernel_rfl) ?_ _
  generalize World.setCell (World.setCell (World.setCell (World.setCell (World.setCell (World.setCell _ _ _) _ _) _ _) _ _) _ _) _ _ = wf at *
  have c11 := (HO.out _ _ g3.l.l.is).c11
  have g4 : Goes (Sep (Sep O (Var rb #[.int .i64 0, .int .i64 0, .int .i64 0, .bool false, .complex .f64 0 0] 41)) (Var ab #[.int .i64 (o.kd : Int), .int .i64 (o.a : Int), .int .i64 (o.b : Int), .int .i64 (o.c : Int), .int .i64 (o.n : Int), .complex .f64 o.z1 o.z2] 26)) S w wf := g3
  have p0 := g4.r.vc 0 (v := .int .i64 (o.kd : Int)) rfl
  have p1 := g4.r.vc 1 (v := .int .i64 (o.a : Int)) rfl
  have p2 := g4.r.vc 2 (v := .int .i64 (o.b : Int)) rfl
  have p3 := g4.r.vc 3 (v := .int .i64 (o.c : Int)) rfl
  have p4 := g4.r.vc 4 (v := .int .i64 (o.n : Int)) rfl
  have p5 := g4.r.vc 5 (v := .complex .f64 o.z1 o.z2) rfl
  have HC := Lib.hid (Does.on (Does.l (HW.out wf (Var rb #[.int .i64 0, .int .i64 0, .int .i64 0, .bool false, .complex .f64 0 0] 41)) (B := Var ab #[.int .i64 (o.kd : Int), .int .i64 (o.a : Int), .int .i64 (o.b : Int), .int .i64 (o.c : Int), .int .i64 (o.n : Int), .complex .f64 o.z1 o.z2] 26)) g4)
  clear g3 g4 HO HW hlt hnx
  go_wp2_with fail
  with_reducible refine HC.out.mono ?_
  rintro e w3 ⟨y, ⟨rfl, hp⟩, hgx⟩
  have hg := hgx.l
  have HP := Lib.hid hp
  clear HC hgx hp c11 p0 p1 p2 p3 p4 p5
  have q0_ := hg.r.vc 0 (v := .int .i64 0) rfl
  have p0_ := hg.r.vf 0
  have q1_ := hg.r.vc 1 (v := .int .i64 0) rfl
  have p1_ := hg.r.vf 1
  have q2_ := hg.r.vc 2 (v := .int .i64 0) rfl
  have p2_ := hg.r.vf 2
  have q3_ := hg.r.vc 3 (v := .bool false) rfl
  have p3_ := hg.r.vf 3
  have q4_ := hg.r.vc 4 (v := .complex .f64 0 0) rfl
  have p4_ := hg.r.vf 4
  have g8_ := hg.then fun S h => goesR (fun S h => (((((Goes.begin h).vput 0 (.int .i64 ((rs y).nx)) rfl).vput 1 (.int .i64 ((rs y).own)) rfl).vput 2 (.int .i64 ((rs y).er)) rfl).vput 3 (.bool ((rs y).r)) rfl).vput 4 (.complex .f64 (rs y).z1 (rs y).z2) rfl) S h
  have k0_ := g8_.r.vc 0 (v := .int .i64 ((rs y).nx)) rfl
  have k1_ := g8_.r.vc 1 (v := .int .i64 ((rs y).own)) rfl
  have k2_ := g8_.r.vc 2 (v := .int .i64 ((rs y).er)) rfl
  have k3_ := g8_.r.vc 3 (v := .bool ((rs y).r)) rfl
  have k4_ := g8_.r.vc 4 (v := .complex .f64 (rs y).z1 (rs y).z2) rfl
  have HF := Lib.hid g8_.l
  clear hg g8_
  go_wp2_with fail
  (try rw [via_ret])
  exact bodyPost_ret (v := .tuple #[.agg #[.int .i64 ((rs y).nx), .int .i64 ((rs y).own), .int .i64 ((rs y).er), .bool ((rs y).r), .complex .f64 (rs y).z1 (rs y).z2], .bool (rs y).d]) (by simp [results, Tryz.results54, go_sem, k0_, k1_, k2_, k3_, k4_]) rfl ⟨y, ⟨rfl, HP.out⟩, HF.out⟩
set_option maxRecDepth 100000 in
theorem act_within6 (hO : ∀ S w, O.at_ S w → WCells b og oo no oc nx 6 o w) (hnx : nx < no)
    (hW : ∀ w, Does Tryz.prog 117 #[.pointer (some ⟨b, 0, none⟩), .pointer (some ⟨A.b, 0, none⟩)] w O (fun y e => e = .returned (rs y).v ∧ p y) O') :
    ∀ w, Does Tryz.prog 54 #[.pointer (some ⟨b, 0, none⟩), .pointer (some ⟨A.b, 0, none⟩)] w O (fun y e => e = .returned (rs y).v ∧ p y) O' := by
  intro w S h
  have g0 := (Goes.begin h).moreSt (St.fresh #[.int .i64 0, .int .i64 0, .int .i64 0, .bool false, .complex .f64 0 0] 41)
  generalize hrb : w.heap.size = rb at g0
  have g1 := g0.drew_
  have HO := Lib.hid hO
  have HW := Lib.hid fun w (X : Thing) => (hW w).l (B := X)
  have S1_ := And.intro (HO.out _ _ g1.l.is).c1 (And.intro (HO.out _ _ g1.l.is).c6 (And.intro (HO.out _ _ g1.l.is).p0 (And.intro (HO.out _ _ g1.l.is).p1 (And.intro (HO.out _ _ g1.l.is).p2 (And.intro (HO.out _ _ g1.l.is).p3 (And.intro (HO.out _ _ g1.l.is).p4 (HO.out _ _ g1.l.is).p5))))))
  have hlt : (nx : Int) < (no : Int) := by omega
  unfold Rs.v at *
  clear h g0 hO hW
  go_enter Tryz.func54, Tryz.ntmps54
  go_upto_region 1 with fail
  generalize w.alloc _ = w1 at *
  refine wp_region_held_drew (S := fun w' => w'.cell? ⟨b, 1, none⟩ = some (.slice (some ⟨og, oo, none⟩) no oc) ∧ w'.cell? ⟨b, 6, none⟩ = some (.int .i64 (nx : Int)) ∧ w'.cell? ⟨og, oo + nx * 6, none⟩ = some (.int .i64 (o.kd : Int)) ∧ w'.cell? ⟨og, oo + nx * 6 + 1, none⟩ = some (.int .i64 (o.a : Int)) ∧ w'.cell? ⟨og, oo + nx * 6 + 2, none⟩ = some (.int .i64 (o.b : Int)) ∧ w'.cell? ⟨og, oo + nx * 6 + 3, none⟩ = some (.int .i64 (o.c : Int)) ∧ w'.cell? ⟨og, oo + nx * 6 + 4, none⟩ = some (.int .i64 (o.n : Int)) ∧ w'.cell? ⟨og, oo + nx * 6 + 5, none⟩ = some (.complex .f64 o.z1 o.z2)) (by kernel_rfl) S1_ (fun hHeld => ?_)
  generalize w1.drew = wd at *
  refine wpAnyH_take (i := 0) (oi := _) (v := ?_) rfl (by kernel_rfl) (by kernel_rfl) (by kernel_rfl) (fun _ _ _ h => h) (Or.inl ⟨by rfl, ?_⟩) (by assumption) ?_
  rotate_left
  · intro w hSw
    (try dsimp only at hSw)
    go_simp
    with_reducible rfl
  try simp only [Act.put, List.setIfInBounds_toArray, List.set_cons_zero, List.set_cons_succ]
  refine wpAnyH_take (i := 1) (oi := _) (v := ?_) rfl (by kernel_rfl) (by kernel_rfl) (by kernel_rfl) (fun _ _ _ h => h) (Or.inl ⟨by rfl, ?_⟩) (by assumption) ?_
  rotate_left
  · intro w hSw
    (try dsimp only at hSw)
    go_simp
    with_reducible rfl
  try simp only [Act.put, List.setIfInBounds_toArray, List.set_cons_zero, List.set_cons_succ]
  refine wpAnyH_take (i := 2) (oi := _) (v := ?_) rfl (by kernel_rfl) (by kernel_rfl) (by kernel_rfl) (fun _ _ _ h => h) (Or.inl ⟨by rfl, ?_⟩) (by assumption) ?_
  rotate_left
  · intro w hSw
    (try dsimp only at hSw)
    go_simp
    with_reducible rfl
  try simp only [Act.put, List.setIfInBounds_toArray, List.set_cons_zero, List.set_cons_succ]
  refine wpAnyH_take (i := 3) (oi := _) (v := ?_) rfl (by kernel_rfl) (by kernel_rfl) (by kernel_rfl) (fun _ _ _ h => h) (Or.inl ⟨by rfl, ?_⟩) (by assumption) ?_
  rotate_left
  · intro w hSw
    (try dsimp only at hSw)
    go_simp
    with_reducible rfl
  try simp only [Act.put, List.setIfInBounds_toArray, List.set_cons_zero, List.set_cons_succ]
  refine wpAnyH_take (i := 4) (oi := _) (v := ?_) rfl (by kernel_rfl) (by kernel_rfl) (by kernel_rfl) (fun _ _ _ h => h) (Or.inl ⟨by rfl, ?_⟩) (by assumption) ?_
  rotate_left
  · intro w hSw
    (try dsimp only at hSw)
    go_simp
    with_reducible rfl
  try simp only [Act.put, List.setIfInBounds_toArray, List.set_cons_zero, List.set_cons_succ]
  refine wpAnyH_take (i := 5) (oi := _) (v := ?_) rfl (by kernel_rfl) (by kernel_rfl) (by kernel_rfl) (fun _ _ _ h => h) (Or.inl ⟨by rfl, ?_⟩) (by assumption) ?_
  rotate_left
  · intro w hSw
    (try dsimp only at hSw)
    go_simp
    with_reducible rfl
  try simp only [Act.put, List.setIfInBounds_toArray, List.set_cons_zero, List.set_cons_succ]
  refine wpAnyH_take (i := 6) (oi := _) (v := ?_) rfl (by kernel_rfl) (by kernel_rfl) (by kernel_rfl) (fun _ _ _ h => h) (Or.inl ⟨by rfl, ?_⟩) (by assumption) ?_
  rotate_left
  · intro w hSw
    (try dsimp only at hSw)
    go_simp
    with_reducible rfl
  try simp only [Act.put, List.setIfInBounds_toArray, List.set_cons_zero, List.set_cons_succ]
  refine wpAnyH_take (i := 7) (oi := _) (v := ?_) rfl (by kernel_rfl) (by kernel_rfl) (by kernel_rfl) (fun _ _ _ h => h) (Or.inl ⟨by rfl, ?_⟩) (by assumption) ?_
  rotate_left
  · intro w hSw
    (try dsimp only at hSw)
    go_simp
    with_reducible rfl
  try simp only [Act.put, List.setIfInBounds_toArray, List.set_cons_zero, List.set_cons_succ]
  refine wpAnyH_take (i := 8) (oi := _) (v := ?_) rfl (by kernel_rfl) (by kernel_rfl) (by kernel_rfl) (fun _ _ _ h => h) (Or.inl ⟨by rfl, ?_⟩) (by assumption) ?_
  rotate_left
  · intro w hSw
    (try dsimp only at hSw)
    go_simp
    with_reducible rfl
  try simp only [Act.put, List.setIfInBounds_toArray, List.set_cons_zero, List.set_cons_succ]
  refine wpAnyH_take (i := 9) (oi := _) (v := ?_) rfl (by kernel_rfl) (by kernel_rfl) (by kernel_rfl) (fun _ _ _ h => h) (Or.inl ⟨by rfl, ?_⟩) (by assumption) ?_
  rotate_left
  · intro w hSw
    (try dsimp only at hSw)
    go_simp
    with_reducible rfl
  try simp only [Act.put, List.setIfInBounds_toArray, List.set_cons_zero, List.set_cons_succ]
  refine wpAnyH_ready (rs := [10]) (by kernel_rfl) (by simp) ?_
  refine AllReadyH.cons (o := _) rfl (fun K hK => ?_) AllReadyH.nil
  go_simp
  have g2 := g1.moreSt (St.fresh #[.int .i64 0, .int .i64 0, .int .i64 0, .int .i64 0, .int .i64 0, .complex .f64 0 0] 26)
  refine hK.out _ _ (And.intro (HO.out _ _ g2.l.l.is).c1 (And.intro (HO.out _ _ g2.l.l.is).c6 (And.intro (HO.out _ _ g2.l.l.is).p0 (And.intro (HO.out _ _ g2.l.l.is).p1 (And.intro (HO.out _ _ g2.l.l.is).p2 (And.intro (HO.out _ _ g2.l.l.is).p3 (And.intro (HO.out _ _ g2.l.l.is).p4 (HO.out _ _ g2.l.l.is).p5))))))) (fun hHeld => ?_)
  clear hK K S1_ g1
  generalize wd.heap.size = ab at *
  generalize wd.alloc _ = we at *
  try simp only [Act.put, List.setIfInBounds_toArray, List.set_cons_zero, List.set_cons_succ]
  have q0 := g2.r.vc 0 (v := .int .i64 0) rfl
  have f0 := g2.r.vf 0
  have q1 := g2.r.vc 1 (v := .int .i64 0) rfl
  have f1 := g2.r.vf 1
  have q2 := g2.r.vc 2 (v := .int .i64 0) rfl
  have f2 := g2.r.vf 2
  have q3 := g2.r.vc 3 (v := .int .i64 0) rfl
  have f3 := g2.r.vf 3
  have q4 := g2.r.vc 4 (v := .int .i64 0) rfl
  have f4 := g2.r.vf 4
  have q5 := g2.r.vc 5 (v := .complex .f64 0 0) rfl
  have f5 := g2.r.vf 5
  have g3 := g2.then fun S h => goesR (fun S h => ((((((Goes.begin h).vput 0 (.int .i64 (o.kd : Int)) rfl).vput 1 (.int .i64 (o.a : Int)) rfl).vput 2 (.int .i64 (o.b : Int)) rfl).vput 3 (.int .i64 (o.c : Int)) rfl).vput 4 (.int .i64 (o.n : Int)) rfl).vput 5 (.complex .f64 o.z1 o.z2) rfl) S h
  refine wpAnyH_ready (rs := [11]) (by kernel_rfl) (by simp) ?_
  refine AllReadyH.cons (o := _) rfl (fun K hK => ?_) AllReadyH.nil
  go_simp
  refine hK.out _ _ (And.intro (HO.out _ _ g3.l.l.is).c1 (And.intro (HO.out _ _ g3.l.l.is).c6 (And.intro (HO.out _ _ g3.l.l.is).p0 (And.intro (HO.out _ _ g3.l.l.is).p1 (And.intro (HO.out _ _ g3.l.l.is).p2 (And.intro (HO.out _ _ g3.l.l.is).p3 (And.intro (HO.out _ _ g3.l.l.is).p4 (HO.out _ _ g3.l.l.is).p5))))))) (fun hHeld => ?_)
  clear hK K hHeld g2 q0 q1 q2 q3 q4 q5 f0 f1 f2 f3 f4 f5
  try simp only [Act.put, List.setIfInBounds_toArray, List.set_cons_zero, List.set_cons_succ]
  refine wpAnyH_done (by kernel_rfl) ?_ _
  generalize World.setCell (World.setCell (World.setCell (World.setCell (World.setCell (World.setCell _ _ _) _ _) _ _) _ _) _ _) _ _ = wf at *
  have c11 := (HO.out _ _ g3.l.l.is).c11
  have g4 : Goes (Sep (Sep O (Var rb #[.int .i64 0, .int .i64 0, .int .i64 0, .bool false, .complex .f64 0 0] 41)) (Var ab #[.int .i64 (o.kd : Int), .int .i64 (o.a : Int), .int .i64 (o.b : Int), .int .i64 (o.c : Int), .int .i64 (o.n : Int), .complex .f64 o.z1 o.z2] 26)) S w wf := g3
  have p0 := g4.r.vc 0 (v := .int .i64 (o.kd : Int)) rfl
  have p1 := g4.r.vc 1 (v := .int .i64 (o.a : Int)) rfl
  have p2 := g4.r.vc 2 (v := .int .i64 (o.b : Int)) rfl
  have p3 := g4.r.vc 3 (v := .int .i64 (o.c : Int)) rfl
  have p4 := g4.r.vc 4 (v := .int .i64 (o.n : Int)) rfl
  have p5 := g4.r.vc 5 (v := .complex .f64 o.z1 o.z2) rfl
  have HC := Lib.hid (Does.on (Does.l (HW.out wf (Var rb #[.int .i64 0, .int .i64 0, .int .i64 0, .bool false, .complex .f64 0 0] 41)) (B := Var ab #[.int .i64 (o.kd : Int), .int .i64 (o.a : Int), .int .i64 (o.b : Int), .int .i64 (o.c : Int), .int .i64 (o.n : Int), .complex .f64 o.z1 o.z2] 26)) g4)
  clear g3 g4 HO HW hlt hnx
  go_wp2_with fail
  with_reducible refine HC.out.mono ?_
  rintro e w3 ⟨y, ⟨rfl, hp⟩, hgx⟩
  have hg := hgx.l
  have HP := Lib.hid hp
  clear HC hgx hp c11 p0 p1 p2 p3 p4 p5
  have q0_ := hg.r.vc 0 (v := .int .i64 0) rfl
  have p0_ := hg.r.vf 0
  have q1_ := hg.r.vc 1 (v := .int .i64 0) rfl
  have p1_ := hg.r.vf 1
  have q2_ := hg.r.vc 2 (v := .int .i64 0) rfl
  have p2_ := hg.r.vf 2
  have q3_ := hg.r.vc 3 (v := .bool false) rfl
  have p3_ := hg.r.vf 3
  have q4_ := hg.r.vc 4 (v := .complex .f64 0 0) rfl
  have p4_ := hg.r.vf 4
  have g8_ := hg.then fun S h => goesR (fun S h => (((((Goes.begin h).vput 0 (.int .i64 ((rs y).nx)) rfl).vput 1 (.int .i64 ((rs y).own)) rfl).vput 2 (.int .i64 ((rs y).er)) rfl).vput 3 (.bool ((rs y).r)) rfl).vput 4 (.complex .f64 (rs y).z1 (rs y).z2) rfl) S h
  have k0_ := g8_.r.vc 0 (v := .int .i64 ((rs y).nx)) rfl
  have k1_ := g8_.r.vc 1 (v := .int .i64 ((rs y).own)) rfl
  have k2_ := g8_.r.vc 2 (v := .int .i64 ((rs y).er)) rfl
  have k3_ := g8_.r.vc 3 (v := .bool ((rs y).r)) rfl
  have k4_ := g8_.r.vc 4 (v := .complex .f64 (rs y).z1 (rs y).z2) rfl
  have HF := Lib.hid g8_.l
  clear hg g8_
  go_wp2_with fail
  (try rw [via_ret])
  exact bodyPost_ret (v := .tuple #[.agg #[.int .i64 ((rs y).nx), .int .i64 ((rs y).own), .int .i64 ((rs y).er), .bool ((rs y).r), .complex .f64 (rs y).z1 (rs y).z2], .bool (rs y).d]) (by simp [results, Tryz.results54, go_sem, k0_, k1_, k2_, k3_, k4_]) rfl ⟨y, ⟨rfl, HP.out⟩, HF.out⟩
end
end Go.Proofs.YtnkgnhpapcnebaaGreat
