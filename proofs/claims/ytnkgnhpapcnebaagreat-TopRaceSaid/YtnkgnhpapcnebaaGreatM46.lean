/- A step of the machine: a thread. -/
import Derived.Test.YtnkgnhpapcnebaaGreatM44
import Derived.Test.YtnkgnhpapcnebaaGreatM45
set_option linter.unusedVariables false
set_option linter.unusedSimpArgs false
set_option maxHeartbeats 8000000
namespace Go.Proofs.YtnkgnhpapcnebaaGreat
open Go.RowKit
attribute [local go_sem] run_store_complex via_ret via_normal via_exit via_panic
section
variable {S : Nat → Prop} {w w' : World} {c : Cf} {A : CA} {q : Q} {yb hb n : Nat} {y : Yc} {K : Thing} {sv : Value} {fa : Nat → TA} {no : Nat → Nat} {sc : Nat → Nat → Opn} {steps : Int} {p : Nat → P}
set_option maxRecDepth 100000 in
theorem hp_step_thr {t : Nat} {Kt : Thing} {R : Rs → Q → P → Prop} (hn : n ≤ 16) (ht : t < n) (hs : StepDoes A c q (fa t) t c.locals (no t) (sc t) (p t) R) (h : (Hp A c q yb y Kt hb sv n fa no sc steps p).at_ S w) :
    Calls Tryz.prog 7 #[.pointer (some ⟨hb, 0, none⟩), .int .i64 ((t : Int) + 1)] w fun e w' => ∃ z : Rs × Q × P, (e = .returned (tkV ((t : Int) + 1) z.1) ∧ R z.1 z.2.1 z.2.2) ∧ Goes (Hp A c z.2.1 yb y Kt hb sv n fa no sc (wrap64 (steps + 1)) (updP p t z.2.2)) S w w' := by
  obtain ⟨sg, so, scap, hsv, _, _⟩ := seq_form (Goes.begin h).l.r.is
  have g0 := ((Goes.begin h).moreSt (St.fresh (tkCells 0 rs0) 43)).moreSt (St.fresh (tkCells ((t : Int) + 1) rs0) 43)
  rw [World.size_alloc] at g0
  obtain ⟨rb, hrb⟩ : ∃ k, w.heap.size = k := ⟨_, rfl⟩
  obtain ⟨xb, hxb⟩ : ∃ k, rb + 1 = k := ⟨_, rfl⟩
  rw [hrb, hxb] at g0
  have c2 := g0.l.l.l.l.vc 2 (v := sv) rfl
  rw [hsv] at c2
  have c3 := g0.l.l.l.l.vc 3 (v := .int .i64 steps) rfl
  have f3 := g0.l.l.l.l.vf 3
  have g1 : Goes (Sep (Sep (Hp A c q yb y Kt hb sv n fa no sc (wrap64 (steps + 1)) p) (Var rb (tkCells 0 rs0) 43)) (Var xb (tkCells ((t : Int) + 1) rs0) 43)) S w _ := g0.then fun S h => goesL (fun S h => goesL (fun S h => goesL (fun S h => goesL (fun S h => (Goes.begin h).vput 3 (.int .i64 (wrap64 (steps + 1))) (cs' := hpCells A.b yb sv (wrap64 (steps + 1))) rfl) S h) S h) S h) S h
  have HSV := Lib.hid hsv
  have HPT := Lib.hid (show (tptrs fa n)[t]? = some (.pointer (some ⟨(fa t).b, 0, none⟩)) by unfold tptrs ptrs; simp [ht])
  have g2 := g1.drew_
  have HL := Lib.hid ((((ths_step (yb := yb) (y := y) (K := Kt) ht hs _).r (B := Sep (Var hb (hpCells A.b yb sv (wrap64 (steps + 1))) 53) (Seq 1 sv n (tptrs fa n)))).lX' (Var rb (tkCells 0 rs0) 43) (Var xb (tkCells ((t : Int) + 1) rs0) 43)).on g2)
  have d0 : decide ((t : Int) + 1 < 0) = false := by simp; omega
  have d1 : decide ((t : Int) + 1 > (n : Int)) = false := by simp; omega
  have d2 : decide ((t : Int) + 1 = 0) = false := by simp; omega
  have e1 : IntKind.i64.wrap (t : Int) = (t : Int) := (by decide : ∀ k : Fin 16, IntKind.i64.wrap (k.val : Int) = k.val) ⟨t, by omega⟩
  have hlt : (t : Int) < (n : Int) := by omega
  unfold tkV
  simp only [tkCells, rs0] at *
  unfold Rs.v at HL
  clear h hsv g0 g1 hs
  go_enter Tryz.func7, Tryz.ntmps7
  go_upto_region 4 with fail
  generalize (w.alloc _).alloc _ = w1 at *
  go_upto_region 5 with fail
  generalize World.setCell _ _ _ = w2 at *
  clear c2 c3 f3
  go_upto_region 8 with fail
  refine wp_region_held_drew (S := fun w' => w'.cell? ⟨hb, 2, none⟩ = some (.slice (some ⟨sg, so, none⟩) n scap) ∧ w'.cell? ⟨hb, 0, none⟩ = some (.pointer (some ⟨A.b, 0, none⟩)) ∧ w'.cell? ⟨sg, so + t, none⟩ = some (.pointer (some ⟨(fa t).b, 0, none⟩))) (by kernel_rfl) ⟨by have := g2.l.l.l.l.vc 2 (v := sv) rfl; rw [HSV.out] at this; exact this, g2.l.l.l.l.vc 0 (v := .pointer (some ⟨A.b, 0, none⟩)) rfl, by have := g2.l.l.l.r; rw [HSV.out] at this; exact this.seq HPT.out⟩ (fun hHeld => ?_)
  generalize w2.drew = wd at *
  clear d0 d1 d2
  refine wpAnyH_take (i := 0) (oi := _) (v := ?_) rfl (by kernel_rfl) (by kernel_rfl) (by kernel_rfl) (fun _ _ _ h => h) (Or.inl ⟨by rfl, ?_⟩) (by assumption) ?_
  rotate_left
  · intro w hSw
    (try dsimp only at hSw)
    go_simp
    with_reducible rfl
  try simp only [Act.put, List.setIfInBounds_toArray, List.set_cons_zero, List.set_cons_succ]
  refine wpAnyH_take (i := 1) (oi := _) (v := ?_) rfl (by kernel_rfl) (by kernel_rfl) (by kernel_rfl) (fun _ _ _ h => h) (Or.inl ⟨by rfl, ?_⟩) (by assumption) ?_
  rotate_left
  · intro w hSw
    (try dsimp only at hSw)
    go_simp
    with_reducible rfl
  try simp only [Act.put, List.setIfInBounds_toArray, List.set_cons_zero, List.set_cons_succ]
  refine wpAnyH_take (i := 2) (oi := _) (v := ?_) rfl (by kernel_rfl) (by kernel_rfl) (by kernel_rfl) (fun _ _ _ h => h) (Or.inl ⟨by rfl, ?_⟩) (by assumption) ?_
  rotate_left
  · intro w hSw
    (try dsimp only at hSw)
    go_simp
    with_reducible rfl
  try simp only [Act.put, List.setIfInBounds_toArray, List.set_cons_zero, List.set_cons_succ]
  refine wpAnyH_take (i := 3) (oi := _) (v := ?_) rfl (by kernel_rfl) (by kernel_rfl) (by kernel_rfl) (fun _ _ _ h => h) (Or.inl ⟨by rfl, ?_⟩) (by assumption) ?_
  rotate_left
  · intro w hSw
    (try dsimp only at hSw)
    go_simp
    with_reducible rfl
  try simp only [Act.put, List.setIfInBounds_toArray, List.set_cons_zero, List.set_cons_succ]
  refine wpAnyH_take (i := 4) (oi := _) (v := ?_) rfl (by kernel_rfl) (by kernel_rfl) (by kernel_rfl) (fun _ _ _ h => h) (Or.inl ⟨by rfl, ?_⟩) (by assumption) ?_
  rotate_left
  · intro w hSw
    (try dsimp only at hSw)
    go_simp
    with_reducible rfl
  try simp only [Act.put, List.setIfInBounds_toArray, List.set_cons_zero, List.set_cons_succ]
  refine wpAnyH_take (i := 5) (oi := _) (v := ?_) rfl (by kernel_rfl) (by kernel_rfl) (by kernel_rfl) (fun _ _ _ h => h) (Or.inl ⟨by rfl, ?_⟩) (by assumption) ?_
  rotate_left
  · intro w hSw
    (try dsimp only at hSw)
    go_simp
    with_reducible rfl
  try simp only [Act.put, List.setIfInBounds_toArray, List.set_cons_zero, List.set_cons_succ]
  refine wpAnyH_take (i := 6) (oi := _) (v := ?_) rfl (by kernel_rfl) (by kernel_rfl) (by kernel_rfl) (fun _ _ _ h => h) (Or.inl ⟨by rfl, ?_⟩) (by assumption) ?_
  rotate_left
  · intro w hSw
    (try dsimp only at hSw)
    go_simp
    with_reducible rfl
  try simp only [Act.put, List.setIfInBounds_toArray, List.set_cons_zero, List.set_cons_succ]
  refine wpAnyH_take (i := 7) (oi := _) (v := ?_) rfl (by kernel_rfl) (by kernel_rfl) (by kernel_rfl) (fun _ _ _ h => h) (Or.inl ⟨by rfl, ?_⟩) (by assumption) ?_
  rotate_left
  · intro w hSw
    (try dsimp only at hSw)
    go_simp
    with_reducible rfl
  try simp only [Act.put, List.setIfInBounds_toArray, List.set_cons_zero, List.set_cons_succ]
  refine wpAnyH_take (i := 8) (oi := _) (v := ?_) rfl (by kernel_rfl) (by kernel_rfl) (by kernel_rfl) (fun _ _ _ h => h) (Or.inl ⟨by rfl, ?_⟩) (by assumption) ?_
  rotate_left
  · intro w hSw
    (try dsimp only at hSw)
    go_simp
    with_reducible rfl
  try simp only [Act.put, List.setIfInBounds_toArray, List.set_cons_zero, List.set_cons_succ]
  refine wpAnyH_take (i := 9) (oi := _) (v := ?_) rfl (by kernel_rfl) (by kernel_rfl) (by kernel_rfl) (fun _ _ _ h => h) (Or.inl ⟨by rfl, ?_⟩) (by assumption) ?_
  rotate_left
  · intro w hSw
    (try dsimp only at hSw)
    go_simp
    with_reducible rfl
  try simp only [Act.put, List.setIfInBounds_toArray, List.set_cons_zero, List.set_cons_succ]
  refine wpAnyH_take (i := 10) (oi := _) (v := ?_) rfl (by kernel_rfl) (by kernel_rfl) (by kernel_rfl) (fun _ _ _ h => h) (Or.inl ⟨by rfl, ?_⟩) (by assumption) ?_
  rotate_left
  · intro w hSw
    (try dsimp only at hSw)
    go_simp
    with_reducible rfl
  try simp only [Act.put, List.setIfInBounds_toArray, List.set_cons_zero, List.set_cons_succ]
  refine wpAnyH_take (i := 11) (oi := _) (v := ?_) rfl (by kernel_rfl) (by kernel_rfl) (by kernel_rfl) (fun _ _ _ h => h) (Or.inl ⟨by rfl, ?_⟩) (by assumption) ?_
  rotate_left
  · intro w hSw
    (try dsimp only at hSw)
    go_simp
    with_reducible rfl
  try simp only [Act.put, List.setIfInBounds_toArray, List.set_cons_zero, List.set_cons_succ]
  clear g2 hHeld
  refine wpAnyH_ready (rs := [12]) (by kernel_rfl) (by simp) ?_
  refine AllReadyH.cons (o := _) rfl (fun K hK => ?_) AllReadyH.nil
  go_simp
  with_reducible refine HL.out.mono ?_
  rintro e w4 ⟨z, ⟨rfl, hR⟩, hgx⟩
  have hg : Goes (Sep (Sep (Hp A c z.2.1 yb y Kt hb sv n fa no sc (wrap64 (steps + 1)) (updP p t z.2.2)) (Var rb #[.int .i64 0, .bool false, .int .i64 0, .int .i64 0, .int .i64 0, .bool false, .complex .f64 0 0] 43)) (Var xb #[.int .i64 ((t : Int) + 1), .bool false, .int .i64 0, .int .i64 0, .int .i64 0, .bool false, .complex .f64 0 0] 43)) S w w4 := hgx
  have HR := Lib.hid hR
  clear HL hgx hR
  go_wp2_with fail
  refine hK.out _ _ (⟨by have := hg.l.l.l.l.vc 2 (v := sv) rfl; rw [HSV.out] at this; exact this, hg.l.l.l.l.vc 0 (v := .pointer (some ⟨A.b, 0, none⟩)) rfl, by have := hg.l.l.l.r; rw [HSV.out] at this; exact this.seq HPT.out⟩) (fun hHeld => ?_)
  clear hK K
  try simp only [Act.put, List.getElem_toArray, List.getElem_cons_zero, List.getElem_cons_succ, List.setIfInBounds_toArray, List.set_cons_zero, List.set_cons_succ]
  refine wpAnyH_take (i := 13) (oi := _) (v := ?_) rfl (by kernel_rfl) (by kernel_rfl) (by kernel_rfl) (fun _ _ _ h => h) (Or.inl ⟨by rfl, ?_⟩) (by assumption) ?_
  rotate_left
  · intro w hSw
    (try dsimp only at hSw)
    go_simp
    with_reducible rfl
  try simp only [Act.put, List.getElem_toArray, List.getElem_cons_zero, List.getElem_cons_succ, List.setIfInBounds_toArray, List.set_cons_zero, List.set_cons_succ]
  refine wpAnyH_take (i := 14) (oi := _) (v := ?_) rfl (by kernel_rfl) (by kernel_rfl) (by kernel_rfl) (fun _ _ _ h => h) (Or.inl ⟨by rfl, ?_⟩) (by assumption) ?_
  rotate_left
  · intro w hSw
    (try dsimp only at hSw)
    go_simp
    with_reducible rfl
  try simp only [Act.put, List.getElem_toArray, List.getElem_cons_zero, List.getElem_cons_succ, List.setIfInBounds_toArray, List.set_cons_zero, List.set_cons_succ]
  refine wpAnyH_take (i := 15) (oi := _) (v := ?_) rfl (by kernel_rfl) (by kernel_rfl) (by kernel_rfl) (fun _ _ _ h => h) (Or.inl ⟨by rfl, ?_⟩) (by assumption) ?_
  rotate_left
  · intro w hSw
    (try dsimp only at hSw)
    go_simp
    with_reducible rfl
  try simp only [Act.put, List.getElem_toArray, List.getElem_cons_zero, List.getElem_cons_succ, List.setIfInBounds_toArray, List.set_cons_zero, List.set_cons_succ]
  refine wpAnyH_take (i := 16) (oi := _) (v := ?_) rfl (by kernel_rfl) (by kernel_rfl) (by kernel_rfl) (fun _ _ _ h => h) (Or.inl ⟨by rfl, ?_⟩) (by assumption) ?_
  rotate_left
  · intro w hSw
    (try dsimp only at hSw)
    go_simp
    with_reducible rfl
  try simp only [Act.put, List.getElem_toArray, List.getElem_cons_zero, List.getElem_cons_succ, List.setIfInBounds_toArray, List.set_cons_zero, List.set_cons_succ]
  have x0 := hg.r.vc 0 (v := .int .i64 ((t : Int) + 1)) rfl
  have f0 := hg.r.vf 0
  have x1 := hg.r.vc 1 (v := .bool false) rfl
  have f1 := hg.r.vf 1
  have x2 := hg.r.vc 2 (v := .int .i64 0) rfl
  have f2 := hg.r.vf 2
  have x3 := hg.r.vc 3 (v := .int .i64 0) rfl
  have f3 := hg.r.vf 3
  have x4 := hg.r.vc 4 (v := .int .i64 0) rfl
  have f4 := hg.r.vf 4
  have x5 := hg.r.vc 5 (v := .bool false) rfl
  have f5 := hg.r.vf 5
  have x6 := hg.r.vc 6 (v := .complex .f64 0 0) rfl
  have f6 := hg.r.vf 6
  have gA : Goes (Sep (Sep (Hp A c z.2.1 yb y Kt hb sv n fa no sc (wrap64 (steps + 1)) (updP p t z.2.2)) (Var rb #[.int .i64 0, .bool false, .int .i64 0, .int .i64 0, .int .i64 0, .bool false, .complex .f64 0 0] 43)) (Var xb #[.int .i64 ((t : Int) + 1), .bool false, .int .i64 z.1.nx, .int .i64 z.1.own, .int .i64 z.1.er, .bool z.1.r, .complex .f64 z.1.z1 z.1.z2] 43)) S w _ := hg.then fun S h => goesR (fun S h => (((((Goes.begin h).vput 2 (.int .i64 z.1.nx) (cs' := #[.int .i64 ((t : Int) + 1), .bool false, .int .i64 z.1.nx, .int .i64 0, .int .i64 0, .bool false, .complex .f64 0 0]) rfl).vput 3 (.int .i64 z.1.own) (cs' := #[.int .i64 ((t : Int) + 1), .bool false, .int .i64 z.1.nx, .int .i64 z.1.own, .int .i64 0, .bool false, .complex .f64 0 0]) rfl).vput 4 (.int .i64 z.1.er) (cs' := #[.int .i64 ((t : Int) + 1), .bool false, .int .i64 z.1.nx, .int .i64 z.1.own, .int .i64 z.1.er, .bool false, .complex .f64 0 0]) rfl).vput 5 (.bool z.1.r) (cs' := #[.int .i64 ((t : Int) + 1), .bool false, .int .i64 z.1.nx, .int .i64 z.1.own, .int .i64 z.1.er, .bool z.1.r, .complex .f64 0 0]) rfl).vput 6 (.complex .f64 z.1.z1 z.1.z2) (cs' := #[.int .i64 ((t : Int) + 1), .bool false, .int .i64 z.1.nx, .int .i64 z.1.own, .int .i64 z.1.er, .bool z.1.r, .complex .f64 z.1.z1 z.1.z2]) rfl) S h
  clear hHeld
  refine wpAnyH_ready (rs := [17]) (by kernel_rfl) (by simp) ?_
  refine AllReadyH.cons (o := _) rfl (fun K hK => ?_) AllReadyH.nil
  go_simp
  go_wp2_with fail
  refine hK.out _ _ (⟨by have := gA.l.l.l.l.vc 2 (v := sv) rfl; rw [HSV.out] at this; exact this, gA.l.l.l.l.vc 0 (v := .pointer (some ⟨A.b, 0, none⟩)) rfl, by have := gA.l.l.l.r; rw [HSV.out] at this; exact this.seq HPT.out⟩) (fun hHeld => ?_)
  clear hK K
  try simp only [Act.put, List.getElem_toArray, List.getElem_cons_zero, List.getElem_cons_succ, List.setIfInBounds_toArray, List.set_cons_zero, List.set_cons_succ]
  refine wpAnyH_take (i := 18) (oi := _) (v := ?_) rfl (by kernel_rfl) (by kernel_rfl) (by kernel_rfl) (fun _ _ _ h => h) (Or.inl ⟨by rfl, ?_⟩) (by assumption) ?_
  rotate_left
  · intro w hSw
    (try dsimp only at hSw)
    go_simp
    with_reducible rfl
  try simp only [Act.put, List.getElem_toArray, List.getElem_cons_zero, List.getElem_cons_succ, List.setIfInBounds_toArray, List.set_cons_zero, List.set_cons_succ]
  clear x0 x1 x2 x3 x4 x5 x6 f0 f1 f2 f3 f4 f5 f6 hg
  have x1 := gA.r.vc 1 (v := .bool false) rfl
  have f1 := gA.r.vf 1
  have gB : Goes (Sep (Sep (Hp A c z.2.1 yb y Kt hb sv n fa no sc (wrap64 (steps + 1)) (updP p t z.2.2)) (Var rb #[.int .i64 0, .bool false, .int .i64 0, .int .i64 0, .int .i64 0, .bool false, .complex .f64 0 0] 43)) (Var xb #[.int .i64 ((t : Int) + 1), .bool z.1.d, .int .i64 z.1.nx, .int .i64 z.1.own, .int .i64 z.1.er, .bool z.1.r, .complex .f64 z.1.z1 z.1.z2] 43)) S w _ := gA.then fun S h => goesR (fun S h => (Goes.begin h).vput 1 (.bool z.1.d) rfl) S h
  clear hHeld
  refine wpAnyH_ready (rs := [19]) (by kernel_rfl) (by simp) ?_
  refine AllReadyH.cons (o := _) rfl (fun K hK => ?_) AllReadyH.nil
  go_simp
  go_wp2_with fail
  refine hK.out _ _ (⟨by have := gB.l.l.l.l.vc 2 (v := sv) rfl; rw [HSV.out] at this; exact this, gB.l.l.l.l.vc 0 (v := .pointer (some ⟨A.b, 0, none⟩)) rfl, by have := gB.l.l.l.r; rw [HSV.out] at this; exact this.seq HPT.out⟩) (fun hHeld => ?_)
  clear hK K
  try simp only [Act.put, List.getElem_toArray, List.getElem_cons_zero, List.getElem_cons_succ, List.setIfInBounds_toArray, List.set_cons_zero, List.set_cons_succ]
  refine wpAnyH_done (by kernel_rfl) ?_ _
  clear hHeld gA x1 f1
  have HB := Lib.hid gB
  clear gB
  generalize World.setCell _ _ _ = w6 at *
  have gB := HB.out
  clear HB
  have x0 := gB.r.vc 0 (v := .int .i64 ((t : Int) + 1)) rfl
  have r0 := gB.l.r.vc 0 (v := .int .i64 0) rfl
  have f0 := gB.l.r.vf 0
  have x1 := gB.r.vc 1 (v := .bool z.1.d) rfl
  have r1 := gB.l.r.vc 1 (v := .bool false) rfl
  have f1 := gB.l.r.vf 1
  have x2 := gB.r.vc 2 (v := .int .i64 z.1.nx) rfl
  have r2 := gB.l.r.vc 2 (v := .int .i64 0) rfl
  have f2 := gB.l.r.vf 2
  have x3 := gB.r.vc 3 (v := .int .i64 z.1.own) rfl
  have r3 := gB.l.r.vc 3 (v := .int .i64 0) rfl
  have f3 := gB.l.r.vf 3
  have x4 := gB.r.vc 4 (v := .int .i64 z.1.er) rfl
  have r4 := gB.l.r.vc 4 (v := .int .i64 0) rfl
  have f4 := gB.l.r.vf 4
  have x5 := gB.r.vc 5 (v := .bool z.1.r) rfl
  have r5 := gB.l.r.vc 5 (v := .bool false) rfl
  have f5 := gB.l.r.vf 5
  have x6 := gB.r.vc 6 (v := .complex .f64 z.1.z1 z.1.z2) rfl
  have r6 := gB.l.r.vc 6 (v := .complex .f64 0 0) rfl
  have f6 := gB.l.r.vf 6
  have gz := gB.then fun S h => goesL (fun S h => goesR (fun S h => (((((((Goes.begin h).vput 0 (.int .i64 ((t : Int) + 1)) (cs' := #[.int .i64 ((t : Int) + 1), .bool false, .int .i64 0, .int .i64 0, .int .i64 0, .bool false, .complex .f64 0 0]) rfl).vput 1 (.bool z.1.d) (cs' := #[.int .i64 ((t : Int) + 1), .bool z.1.d, .int .i64 0, .int .i64 0, .int .i64 0, .bool false, .complex .f64 0 0]) rfl).vput 2 (.int .i64 z.1.nx) (cs' := #[.int .i64 ((t : Int) + 1), .bool z.1.d, .int .i64 z.1.nx, .int .i64 0, .int .i64 0, .bool false, .complex .f64 0 0]) rfl).vput 3 (.int .i64 z.1.own) (cs' := #[.int .i64 ((t : Int) + 1), .bool z.1.d, .int .i64 z.1.nx, .int .i64 z.1.own, .int .i64 0, .bool false, .complex .f64 0 0]) rfl).vput 4 (.int .i64 z.1.er) (cs' := #[.int .i64 ((t : Int) + 1), .bool z.1.d, .int .i64 z.1.nx, .int .i64 z.1.own, .int .i64 z.1.er, .bool false, .complex .f64 0 0]) rfl).vput 5 (.bool z.1.r) (cs' := #[.int .i64 ((t : Int) + 1), .bool z.1.d, .int .i64 z.1.nx, .int .i64 z.1.own, .int .i64 z.1.er, .bool z.1.r, .complex .f64 0 0]) rfl).vput 6 (.complex .f64 z.1.z1 z.1.z2) (cs' := #[.int .i64 ((t : Int) + 1), .bool z.1.d, .int .i64 z.1.nx, .int .i64 z.1.own, .int .i64 z.1.er, .bool z.1.r, .complex .f64 z.1.z1 z.1.z2]) rfl) S h) S h
  have k0 := gz.l.r.vc 0 (v := .int .i64 ((t : Int) + 1)) rfl
  have k1 := gz.l.r.vc 1 (v := .bool z.1.d) rfl
  have k2 := gz.l.r.vc 2 (v := .int .i64 z.1.nx) rfl
  have k3 := gz.l.r.vc 3 (v := .int .i64 z.1.own) rfl
  have k4 := gz.l.r.vc 4 (v := .int .i64 z.1.er) rfl
  have k5 := gz.l.r.vc 5 (v := .bool z.1.r) rfl
  have k6 := gz.l.r.vc 6 (v := .complex .f64 z.1.z1 z.1.z2) rfl
  have HF := Lib.hid gz.l.l
  clear gz gB
  go_wp2_with fail
  (try rw [via_ret])
  exact bodyPost_ret (v := .agg #[.int .i64 ((t : Int) + 1), .bool z.1.d, .int .i64 z.1.nx, .int .i64 z.1.own, .int .i64 z.1.er, .bool z.1.r, .complex .f64 z.1.z1 z.1.z2]) (by simp [results, Tryz.results7, go_sem, k0, k1, k2, k3, k4, k5, k6]) rfl ⟨z, ⟨rfl, HR.out⟩, HF.out⟩
end
end Go.Proofs.YtnkgnhpapcnebaaGreat
/- A small heap goes as it must. -/
namespace Go.Proofs.YtnkgnhpapcnebaaGreat
open Go.RowKit
attribute [local go_sem] run_store_complex via_ret via_normal via_exit via_panic
/-- The small one's configuration. -/
def cK : Cf := ⟨4, 0, 0, 1, 1, 1, 0, [(false, [])]⟩
set_option maxRecDepth 100000 in
theorem cK_ok : cK.ok := ⟨by decide, by decide, by decide, by decide, by decide, by decide, by decide, by decide, fun s hs => by simp [cK] at hs; subst hs; simp⟩
set_option maxRecDepth 100000 in
theorem cK_z : CfZ cK 11 := ⟨cK_ok, rfl, by decide, rfl, .inr rfl⟩
set_option maxRecDepth 100000 in
theorem gi0 {c : Cf} : Gi c q0 := ⟨by decide, by decide, by decide, by decide, fun h => by simp [q0] at h, fun h => by simp [q0] at h, fun _ => ⟨rfl, rfl⟩⟩
set_option maxRecDepth 100000 in
theorem loc0 (F n : Nat) : LocOk F n lc0 := ⟨fun _ _ => ⟨Nat.zero_le _, Nat.zero_le _⟩, fun _ _ _ => rfl, fun h => by simp [lc0] at h⟩
set_option maxRecDepth 100000 in
theorem j00 (c : Cf) (k : Nat) : J0 c k q0 p0 where
  nx := Nat.zero_le _
  loc := loc0 _ _
  lref := fun h => by simp [p0, lc0] at h
  hw := fun h => by simp [p0, holds, lc0] at h
  pb := fun _ => rfl
  zero := fun _ _ => ⟨rfl, rfl⟩
  bz := fun _ => rfl
  end4 := fun h => absurd h (by show ¬ (0 : Int) = 4; decide)
  out := fun _ => rfl
  here := fun h => by have h' : (0 : Int) = 1 ∨ (0 : Int) = 2 := h; omega
  at0 := .out rfl rfl rfl
set_option maxRecDepth 100000 in
theorem rank_zero {c : Cf} {k : Nat} {q : Q} {p : P} (j : J0 c k q p) (h : rank q.m.wr p.x = 0) : p.x.ph = 4 := by
  rcases j.at0 with ⟨h1, _⟩ | ⟨h1, h2, _⟩ | ⟨h1, h2, _⟩ | ⟨h1, h2, _⟩ | ⟨h1, h2, _⟩ | ⟨h1, h2, _⟩ | ⟨h1, h2, h3, h4⟩ | ⟨r, h1, h2, h3, h4, h5, h6⟩ | ⟨h1, h2, h3, h4, h5⟩ | ⟨h1, h2, h3, h4, _⟩ | ⟨h1, h2, h3, h4, _⟩ | ⟨h1, _⟩
  · simp [rank, h1] at h
  · simp [rank, h1, h2] at h
    split at h
    · omega
    · split at h <;> omega
  · simp [rank, h1, h2] at h
  · simp [rank, h1, h2] at h
  · simp [rank, h1, h2] at h
  · simp [rank, h1, h2] at h
  · have e : p.x.nx = 0 ∨ p.x.nx = 1 := by omega
    rcases e with e | e <;> simp [rank, h1, e, h4] at h
  · simp [rank, h1, h2, h4] at h; omega
  · simp [rank, h1, h2, h4] at h
  · simp [rank, h1, h2, h4] at h
  · simp [rank, h1, h2, h4] at h
  · exact h1
section
variable {S : Nat → Prop} {w w' : World}
set_option maxRecDepth 100000 in
/-- A configuration's shapes, of one block. -/
theorem confK {sb : Nat} {S : Nat → Prop} {w : World} (h : (Var sb #[.bool false, .slice none 0 0] 57).at_ S w) : (Conf cK sb 1).at_ S w := by
  obtain ⟨h1, h2, h3⟩ := h
  refine ⟨_, _, h1, h2, by decide, by unfold maxLen; omega, fun i s hi => ?_, fun k hk => by rw [h3 k hk]; exact h1.lt⟩
  match i, hi with
  | 0, hi => simp [cK] at hi; subst hi; exact ⟨.slice none 0 0, rfl, rfl, .inl ⟨rfl, rfl⟩⟩
  | i + 1, hi => simp [cK] at hi
set_option maxRecDepth 100000 in
/-- The operations' cells. -/
theorem opsSeq {ob n cap : Nat} {o : Nat → Opn} {cs : Array Value} {t : TypeId} {S : Nat → Prop} {w : World} (hc : cs.toList = opL o n) (hn : n ≤ cap) (hcap : cap ≤ maxLen) (h : (Var ob cs t).at_ S w) : (Seq 6 (.slice (some ⟨ob, 0, none⟩) n cap) n (opL o n)).at_ S w := by
  obtain ⟨h1, h2, h3⟩ := h
  refine ⟨ob, 0, cap, cs, t, rfl, hn, hcap, opL_len _ _, h1, h2, fun i x hx => ?_, fun k hk => by rw [h3 k hk]; exact h1.lt⟩
  rw [← hc] at hx
  rw [Nat.zero_add]
  simpa using hx
def opsK : Array Value := #[.int .i64 1, .int .i64 0, .int .i64 0, .int .i64 0, .int .i64 0, .complex .f64 0 0, .int .i64 11, .int .i64 0, .int .i64 0, .int .i64 0, .int .i64 0, .complex .f64 0 0]
/-- What known has laid down. -/
def OK_ (sb cb ob gb : Nat) : Thing := Sep (Sep (Sep (Sep Emp (Conf cK sb 1)) (Var cb (cfCells cK (.slice (some ⟨sb, 0, none⟩) 1 1)) 36)) (Var ob opsK 26)) (Var gb #[.slice (some ⟨ob, 0, none⟩) 2 2] 27)
set_option maxRecDepth 100000 in
theorem opsInK {sb cb ob gb : Nat} : OpsIn (OK_ sb cb ob gb) gb 0 1 (fun _ => .slice (some ⟨ob, 0, none⟩) 2 2) (fun _ => 2) (fun _ => o0 11) where
  cell := fun S w h t ht => by
    obtain rfl : t = 0 := by omega
    exact (Goes.begin h).r.vc 0 rfl
  seq := fun S w h t ht => by
    obtain ⟨S', h1, _⟩ := sepAt.r (Goes.begin h).l.is
    exact ⟨S', opsSeq (by rfl) (by omega) (by unfold maxLen; omega) h1⟩
  len := fun t ht => ⟨by omega, by omega⟩
set_option maxRecDepth 100000 in
theorem confInK {sb cb ob gb : Nat} {S : Nat → Prop} {w : World} (h : (OK_ sb cb ob gb).at_ S w) : ∃ S', (Conf cK sb 1).at_ S' w := by
  obtain ⟨S1, h1, _⟩ := sepAt.l h
  obtain ⟨S2, h2, _⟩ := sepAt.l h1
  obtain ⟨S3, h3, _⟩ := sepAt.l h2
  obtain ⟨S4, h4, _⟩ := sepAt.r h3
  exact ⟨S4, h4⟩
set_option maxRecDepth 100000 in
theorem known_true (w : World) : Calls Tryz.prog 4 #[] w fun e w' => e = .returned (.bool true) ∧ Below w.heap.size w w' := by
  have g0 : Goes Emp (fun _ => False) w w := Goes.begin (fun _ h => h)
  have g1 := ((g0.moreSt (St.fresh #[.bool false, .slice none 0 0] 57)).conv fun S w h => sepAt.monoR (fun _ h => confK h) h).moreSt (St.fresh #[.int .i64 4, .int .i64 0, .int .i64 0, .int .i64 1, .int .i64 1, .int .i64 0, .int .i64 1, .int .i64 0, .slice (some ⟨w.heap.size, 0, none⟩) 1 1] 36)
  rw [World.size_alloc] at g1
  obtain ⟨sb, hsb⟩ : ∃ k, w.heap.size = k := ⟨_, rfl⟩
  obtain ⟨cb, hcb⟩ : ∃ k, sb + 1 = k := ⟨_, rfl⟩
  rw [hsb, hcb] at g1
  go_enter Tryz.func4, Tryz.ntmps4
  go_upto_region 2 with fail
  generalize (w.alloc _).alloc _ = w1 at *
  have d0 := g1.r.vc 0 (v := .int .i64 4) rfl
  have d1 := g1.r.vc 1 (v := .int .i64 0) rfl
  have d2 := g1.r.vc 2 (v := .int .i64 0) rfl
  have d3 := g1.r.vc 3 (v := .int .i64 1) rfl
  have d4 := g1.r.vc 4 (v := .int .i64 1) rfl
  have d5 := g1.r.vc 5 (v := .int .i64 0) rfl
  have d6 := g1.r.vc 6 (v := .int .i64 1) rfl
  have d7 := g1.r.vc 7 (v := .int .i64 0) rfl
  have d8 := g1.r.vc 8 (v := .slice (some ⟨sb, 0, none⟩) 1 1) rfl
  have g2 := (g1.moreSt (St.fresh opsK 26)).moreSt (St.fresh #[.slice (some ⟨w1.heap.size, 0, none⟩) 2 2] 27)
  rw [World.size_alloc] at g2
  obtain ⟨ob, hob⟩ : ∃ k, w1.heap.size = k := ⟨_, rfl⟩
  obtain ⟨gb, hgb⟩ : ∃ k, ob + 1 = k := ⟨_, rfl⟩
  rw [hob, hgb] at g2
  have g3 : Goes (OK_ sb cb ob gb) (fun _ => False) w _ := g2
  have HN := Lib.hid (Does.on (fun S h => (heap_new (c := cK) (g := sb) (cap := 1) (gb := gb) (go := 0) (n := 1) (capn := 1) cK_ok (fun S w h => confInK h) opsInK rfl h).mono fun e w' ⟨A, yb, hb, sv, fa, he, hg⟩ => ⟨(A, yb, hb, sv, fa), he, hg⟩ : Does Tryz.prog 5 #[cfV cK sb 1, .slice (some ⟨gb, 0, none⟩) 1 1] _ (OK_ sb cb ob gb) (fun (v : CA × Nat × Nat × Value × (Nat → TA)) e => e = .returned (.tuple #[.pointer (some ⟨v.2.2.1, 0, none⟩), .int .i64 0])) (fun v => Sep (OK_ sb cb ob gb) (Hp v.1 cK q0 v.2.1 y0 Emp v.2.2.1 v.2.2.2.1 1 v.2.2.2.2 (fun _ => 2) (fun _ => o0 11) 0 fun _ => p0))) g3)
  rw [show cfV cK sb 1 = .agg #[.int .i64 4, .int .i64 0, .int .i64 0, .int .i64 1, .int .i64 1, .int .i64 0, .int .i64 1, .int .i64 0, .slice (some ⟨sb, 0, none⟩) 1 1] from rfl] at HN
  simp only [opsK] at HN
  clear g0 g1 g2 g3
  go_wp2_with fail
  with_reducible refine HN.out.mono ?_
  rintro e w2 ⟨⟨A, yb, hb, sv, fa⟩, rfl, hgx⟩
  have hg : Goes (Sep (OK_ sb cb ob gb) (Hp A cK q0 yb y0 Emp hb sv 1 fa (fun _ => 2) (fun _ => o0 11) 0 fun _ => p0)) (fun _ => False) w w2 := hgx
  clear HN hgx d0 d1 d2 d3 d4 d5 d6 d7 d8 hob hgb hsb hcb
  have HG := Lib.hid hg
  clear hg
  simp only
  go_wp2_with fail
  go_loopw [4, 5, 6] (fun d i _ wr => ∃ (k : Nat) (q : Q) (steps : Int) (p : Nat → P), k ≤ 20 ∧ i = .int .i64 k ∧ d = .int .i64 ((p 0).x.nx : Int) ∧ Gi cK q ∧ J0 cK 11 q (p 0) ∧ Quiet q (p 0).x ∧ rank q.m.wr (p 0).x = 17 - k ∧ Goes (Sep (OK_ sb cb ob gb) (Hp A cK q yb y0 Emp hb sv 1 fa (fun _ => 2) (fun _ => o0 11) steps p)) (fun _ => False) w wr) (fun _ i _ _ => 20 - (intOf i).toNat)
  case atStart => exact ⟨0, q0, 0, fun _ => p0, Nat.zero_le _, rfl, rfl, gi0, j00 _ _, ⟨fun h => by have h' : (0 : Int) = 1 ∨ (0 : Int) = 2 := h; omega, fun h => absurd h (by show ¬ (0 : Int) = 1; decide)⟩, rfl, HG.out⟩
  case round =>
    clear HG
    obtain ⟨k, q, steps, p, hk, rfl, rfl, gi, j, hq, hr, hg⟩ := hrel
    by_cases hlt : k < 20
    · have hnx := j.nx
      have HST := Lib.hid (Does.on (Does.r (B := OK_ sb cb ob gb) (fun S h => hp_step_thr (t := 0) (by omega) (by omega) (st0 (a := fa 0) (A := A) cK_z gi j) h : Does Tryz.prog 7 #[.pointer (some ⟨hb, 0, none⟩), .int .i64 (((0 : Nat) : Int) + 1)] _ (Hp A cK q yb y0 Emp hb sv 1 fa (fun _ => 2) (fun _ => o0 11) steps p) (fun (z : Rs × Q × P) e => e = .returned (tkV (((0 : Nat) : Int) + 1) z.1) ∧ Rel0 cK 11 q (p 0) z.1 z.2.1 z.2.2) (fun z => Hp A cK z.2.1 yb y0 Emp hb sv 1 fa (fun _ => 2) (fun _ => o0 11) (wrap64 (steps + 1)) (updP p 0 z.2.2)))) hg)
      rw [show (((0 : Nat) : Int) + 1) = 1 from rfl] at HST
      unfold tkV at HST
      simp only [tkCells] at HST
      have HQ := Lib.hid hq
      have HR := Lib.hid hr
      clear hg hq hr gi j
      have hlti : (k : Int) < 20 := by omega
      go_wp2_with fail
      with_reducible refine HST.out.mono ?_
      rintro e w3 ⟨z, ⟨rfl, rel⟩, hg⟩
      obtain ⟨zd, hzd⟩ : ∃ d, z.1.d = d := ⟨_, rfl⟩
      have g4 := hg.moreSt (St.fresh #[.int .i64 1, .bool zd, .int .i64 z.1.nx, .int .i64 z.1.own, .int .i64 z.1.er, .bool z.1.r, .complex .f64 z.1.z1 z.1.z2] 43)
      have hrk := rel.rk rfl HQ.out
      have hrel2 := rel.d
      have x1 := g4.r.vc 1 (v := .bool zd) rfl
      have HG4 := Lib.hid g4.l
      have HRL := Lib.hid rel
      have HRK := Lib.hid hrk
      clear HST hg g4 rel hrk
      have hnx2 : z.2.2.x.nx ≤ 2 := HRL.out.j.nx
      rw [hzd] at hrel2
      have HD := Lib.hid hrel2
      have HNX := Lib.hid hnx
      clear hrel2 hnx
      go_upto_region 10 with fail
      generalize w3.heap.size = tb at *
      generalize w3.alloc _ = w4 at *
      clear hnx2
      cases zd with
      | false =>
        have hnn : z.2.2.x.nx = (p 0).x.nx := by rcases HD.out with ⟨_, h⟩ | ⟨h, _⟩; exact h; simp at h
        go_wp2_with fail
        go_round
        case rel =>
          refine ⟨k + 1, z.2.1, wrap64 (steps + 1), updP p 0 z.2.2, by omega, by go_num, ?_, HRL.out.g, HRL.out.j, HRK.out.2, ?_, HG4.out⟩
          · show _ = Value.int .i64 (z.2.2.x.nx : Int); rw [hnn]
          · show rank z.2.1.m.wr z.2.2.x = _; rw [HRK.out.1, HR.out]; omega
        case measure => simp [intOf]; omega
      | true =>
        have hnn : z.2.2.x.nx = (p 0).x.nx + 1 := by rcases HD.out with ⟨h, _⟩ | ⟨_, h⟩; simp at h; exact h
        have hnx3 : ((p 0).x.nx : Int) ≤ 2 := by have := HNX.out; omega
        have hnx4 : (0 : Int) ≤ ((p 0).x.nx : Int) := by omega
        go_wp2_with fail
        go_round
        case rel =>
          refine ⟨k + 1, z.2.1, wrap64 (steps + 1), updP p 0 z.2.2, by omega, by go_num, ?_, HRL.out.g, HRL.out.j, HRK.out.2, ?_, HG4.out⟩
          · show _ = Value.int .i64 (z.2.2.x.nx : Int)
            rw [hnn]
            go_num
          · show rank z.2.1.m.wr z.2.2.x = _; rw [HRK.out.1, HR.out]; omega
        case measure => simp [intOf]; omega
    · obtain rfl : k = 20 := by omega
      have hph := rank_zero j (by rw [hr])
      have hnx := j.end4 hph
      have hall : ∀ t, t < 1 → (p t).x.ph = 4 := fun t ht => by obtain rfl : t = 0 := by omega
                                                                exact hph
      have HTH := Lib.hid (Does.on (Does.r (B := OK_ sb cb ob gb) (fun S h => hp_thread (t := 0) (by omega) (by omega) cK_ok.locals h : Does Tryz.prog 10 #[.pointer (some ⟨hb, 0, none⟩), .int .i64 ((0 : Nat) : Int)] _ (Hp A cK q yb y0 Emp hb sv 1 fa (fun _ => 2) (fun _ => o0 11) steps p) (fun (v : Option Addr × Nat × Nat) e => e = .returned (.tuple #[.int .i64 (p 0).x.ph, .int .i64 (p 0).x.st, .slice v.1 v.2.1 v.2.2])) (fun _ => Hp A cK q yb y0 Emp hb sv 1 fa (fun _ => 2) (fun _ => o0 11) steps p))) hg)
      have HSO := Lib.hid fun w5 (gg : Goes (Sep (OK_ sb cb ob gb) (Hp A cK q yb y0 Emp hb sv 1 fa (fun _ => 2) (fun _ => o0 11) steps p)) (fun _ => False) w w5) => gg.call (sepR fun S h => aud_sound cK_ok rfl rfl hall h)
      rw [hph, show ((0 : Nat) : Int) = 0 from rfl] at HTH
      rw [hnx]
      clear hg hq hr gi j hph hnx hall
      go_wp2_with fail
      with_reducible refine HTH.out.mono ?_
      rintro e w5 ⟨v, rfl, hg⟩
      have HSC := Lib.hid (HSO.out _ hg)
      clear HTH HSO hg
      go_wp2_with fail
      with_reducible refine HSC.out.mono ?_
      rintro e w6 ⟨rfl, hg⟩
      have HF := Lib.hid (hg.turned.below (Nat.le_refl _) fun _ h => h.elim)
      clear HSC hg
      go_wp2_with fail
      go_ret
      exact ⟨rfl, HF.out⟩
end
end Go.Proofs.YtnkgnhpapcnebaaGreat
/- The law: a number is itself; the configuration. -/
namespace Go.Proofs.YtnkgnhpapcnebaaGreat
open Go.RowKit
attribute [local go_sem] run_store_complex via_ret via_normal via_exit via_panic
set_option maxRecDepth 100000 in
theorem part_fl (k : Nat) (hk : k ≤ 17) : decide ((18437736874454810624 : Int) < IntKind.u64.wrap (((fl k : Nat) : Int) * 2)) = false := by
  have := all17 (p := fun k => !decide ((18437736874454810624 : Int) < IntKind.u64.wrap (((fl k : Nat) : Int) * 2))) (by kernel_rfl) k hk
  simpa using this
set_option maxRecDepth 100000 in
theorem ref_word (k i : Nat) (w : World) (hk : k ≤ 17) (hi : i ≤ 17) : Calls Tryz.prog 8 #[.complex .f64 (fl k) (fl i), .complex .f64 (fl k) (fl i)] w fun e w' => e = .returned (.bool true) ∧ w = w' := by
  have H1 := Lib.hid fun w => ref_part (fl k) w (part_fl k hk)
  have H2 := Lib.hid fun w => ref_part (fl i) w (part_fl i hi)
  generalize fl k = x at *
  generalize fl i = y at *
  go_enter Tryz.func8, Tryz.ntmps8
  go_wp2_with fail
  with_reducible refine (H1.out _).mono ?_
  rintro e w' ⟨rfl, rfl⟩
  go_wp2_with fail
  with_reducible refine (H1.out _).mono ?_
  rintro e w' ⟨rfl, rfl⟩
  go_wp2_with fail
  with_reducible refine (H2.out _).mono ?_
  rintro e w' ⟨rfl, rfl⟩
  go_wp2_with fail
  with_reducible refine (H2.out _).mono ?_
  rintro e w' ⟨rfl, rfl⟩
  go_wp2_with fail
  go_ret
  exact ⟨rfl, rfl⟩
/-- The law's configuration. -/
def cT (n : Nat) : Cf := ⟨8, 60, 2, n, 4, 2, 8, [(false, l3), (true, [true]), (true, [false])]⟩
set_option maxRecDepth 100000 in
theorem cT_ok {n : Nat} (h1 : 1 ≤ n) (h2 : n ≤ 16) : (cT n).ok := ⟨by simp [cT], by simp [cT], by simp [cT], ⟨h1, h2⟩, by simp [cT], by simp [cT], by simp [cT], by simp [cT], fun s hs => by
  simp [cT] at hs
  rcases hs with rfl | rfl | rfl <;> simp [l3]⟩
set_option maxRecDepth 100000 in
theorem cT_z {n : Nat} (h1 : 1 ≤ n) (h2 : n ≤ 16) : CfZ (cT n) 8 := ⟨cT_ok h1 h2, rfl, by show 7 ≤ 16; omega, rfl, .inl ⟨rfl, by show 0 < 2; omega⟩⟩
set_option maxRecDepth 100000 in
theorem cT_r {n : Nat} (h1 : 1 ≤ n) (h2 : n ≤ 16) : CfR (cT n) := ⟨cT_ok h1 h2, rfl, rfl, by show 7 ≤ 16; omega, rfl, by show 0 < 2; omega⟩
section
variable {S : Nat → Prop} {w w' : World}
set_option maxRecDepth 100000 in
/-- A configuration's shapes, of four blocks. -/
theorem confT {n b1 b2 b3 sb : Nat} (h : (Sep (Sep (Sep (Var b1 #[.bool true, .bool true, .bool false] 4) (Var b2 #[.bool true] 4)) (Var b3 #[.bool false] 4)) (Var sb #[.bool false, .slice (some ⟨b1, 0, none⟩) 3 3, .bool true, .slice (some ⟨b2, 0, none⟩) 1 1, .bool true, .slice (some ⟨b3, 0, none⟩) 1 1] 57)).at_ S w) : (Conf (cT n) sb 3).at_ S w := by
  have hlt := Thing.lt _ h
  obtain ⟨S1, T1, ⟨S2, T2, ⟨S3, T3, ⟨x1, x2, x3⟩, ⟨y1, y2, y3⟩, _, u1, u2, u3⟩, ⟨z1, z2, z3⟩, _, v1, v2, v3⟩, ⟨s1, s2, s3⟩, _, t1, t2, t3⟩ := h
  refine ⟨_, _, s1, t2 _ s2, Nat.le_refl 3, by unfold maxLen; omega, fun i s hi => ?_, hlt⟩
  match i, hi with
  | 0, hi => simp [cT] at hi; subst hi; exact ⟨_, rfl, rfl, .inr ⟨b1, 3, _, _, by simp [l3], rfl, by simp [l3], by unfold maxLen; omega, t1 _ (v1 _ (u1 _ x2)), x1, fun j b hj => by
      match j, hj with
      | 0, hj => simp [l3] at hj; subst hj; rfl
      | 1, hj => simp [l3] at hj; subst hj; rfl
      | 2, hj => simp [l3] at hj; subst hj; rfl
      | j + 3, hj => simp [l3] at hj⟩⟩
  | 1, hi => simp [cT] at hi; subst hi; exact ⟨_, rfl, rfl, .inr ⟨b2, 1, _, _, by simp, rfl, by simp, by unfold maxLen; omega, t1 _ (v1 _ (u2 _ y2)), y1, fun j b hj => by
      match j, hj with
      | 0, hj => simp at hj; subst hj; rfl
      | j + 1, hj => simp at hj⟩⟩
  | 2, hi => simp [cT] at hi; subst hi; exact ⟨_, rfl, rfl, .inr ⟨b3, 1, _, _, by simp, rfl, by simp, by unfold maxLen; omega, t1 _ (v2 _ z2), z1, fun j b hj => by
      match j, hj with
      | 0, hj => simp at hj; subst hj; rfl
      | j + 1, hj => simp at hj⟩⟩
  | i + 3, hi => simp [cT] at hi
set_option maxRecDepth 100000 in
theorem plain_new (n : Nat) (w : World) : Calls Tryz.prog 6 #[.int .i64 (n : Int), .int .i64 8, .int .i64 8] w fun e w' => ∃ g, e = .returned (cfV (cT n) g 3) ∧ St w (Conf (cT n) g 3) w' := by
  have t0 : St w (Var w.heap.size zeroConf 36) (w.alloc (.cells zeroConf 36)) := St.fresh zeroConf 36
  simp only [zeroConf] at t0
  obtain ⟨rb, hrb⟩ : ∃ k, w.heap.size = k := ⟨_, rfl⟩
  rw [hrb] at t0
  go_enter Tryz.func6, Tryz.ntmps6
  go_upto_region 1 with fail
  generalize w.alloc _ = w1 at *
  obtain ⟨b1, hb1⟩ : ∃ k, w1.heap.size = k := ⟨_, rfl⟩
  obtain ⟨b2, hb2⟩ : ∃ k, b1 + 1 = k := ⟨_, rfl⟩
  obtain ⟨b3, hb3⟩ : ∃ k, b2 + 1 = k := ⟨_, rfl⟩
  obtain ⟨sb, hsb⟩ : ∃ k, b3 + 1 = k := ⟨_, rfl⟩
  have t1 := (((t0.var #[.bool true, .bool true, .bool false] 4).var #[.bool true] 4).var #[.bool false] 4).var #[.bool false, .slice (some ⟨b1, 0, none⟩) 3 3, .bool true, .slice (some ⟨b2, 0, none⟩) 1 1, .bool true, .slice (some ⟨b3, 0, none⟩) 1 1] 57
  simp only [World.size_alloc, hb1, hb2, hb3, hsb] at t1
  have t2 := t1.conv (B := Sep (Var rb _ 36) (Conf (cT n) sb 3)) fun S w h => sepAt.monoR (fun _ h => confT h) (sepAt.assoc (sepAt.monoL (fun _ h => sepAt.assoc (sepAt.monoL (fun _ h => sepAt.assoc h) h)) h))
  have g1 := Goes.begin t2.1.choose_spec.1
  have r0 := g1.l.vc 0 (v := .int .i64 0) rfl
  have f0 := g1.l.vf 0
  have r1 := g1.l.vc 1 (v := .int .i64 0) rfl
  have f1 := g1.l.vf 1
  have r2 := g1.l.vc 2 (v := .int .i64 0) rfl
  have f2 := g1.l.vf 2
  have r3 := g1.l.vc 3 (v := .int .i64 0) rfl
  have f3 := g1.l.vf 3
  have r4 := g1.l.vc 4 (v := .int .i64 0) rfl
  have f4 := g1.l.vf 4
  have r5 := g1.l.vc 5 (v := .int .i64 0) rfl
  have f5 := g1.l.vf 5
  have r6 := g1.l.vc 6 (v := .int .i64 0) rfl
  have f6 := g1.l.vf 6
  have r7 := g1.l.vc 7 (v := .int .i64 0) rfl
  have f7 := g1.l.vf 7
  have r8 := g1.l.vc 8 (v := .slice none 0 0) rfl
  have f8 := g1.l.vf 8
  have t3 := t2.goes fun S h => goesL (fun S h => ((((((((((Goes.begin h).vput 0 (.int .i64 8) (cs' := #[.int .i64 8, .int .i64 0, .int .i64 0, .int .i64 0, .int .i64 0, .int .i64 0, .int .i64 0, .int .i64 0, .slice none 0 0]) rfl).vput 1 (.int .i64 60) (cs' := #[.int .i64 8, .int .i64 60, .int .i64 0, .int .i64 0, .int .i64 0, .int .i64 0, .int .i64 0, .int .i64 0, .slice none 0 0]) rfl).vput 2 (.int .i64 2) (cs' := #[.int .i64 8, .int .i64 60, .int .i64 2, .int .i64 0, .int .i64 0, .int .i64 0, .int .i64 0, .int .i64 0, .slice none 0 0]) rfl).vput 3 (.int .i64 (n : Int)) (cs' := #[.int .i64 8, .int .i64 60, .int .i64 2, .int .i64 (n : Int), .int .i64 0, .int .i64 0, .int .i64 0, .int .i64 0, .slice none 0 0]) rfl).vput 4 (.int .i64 4) (cs' := #[.int .i64 8, .int .i64 60, .int .i64 2, .int .i64 (n : Int), .int .i64 4, .int .i64 0, .int .i64 0, .int .i64 0, .slice none 0 0]) rfl).vput 5 (.int .i64 0) (cs' := #[.int .i64 8, .int .i64 60, .int .i64 2, .int .i64 (n : Int), .int .i64 4, .int .i64 0, .int .i64 0, .int .i64 0, .slice none 0 0]) rfl).vput 6 (.int .i64 2) (cs' := #[.int .i64 8, .int .i64 60, .int .i64 2, .int .i64 (n : Int), .int .i64 4, .int .i64 0, .int .i64 2, .int .i64 0, .slice none 0 0]) rfl).vput 7 (.int .i64 8) (cs' := #[.int .i64 8, .int .i64 60, .int .i64 2, .int .i64 (n : Int), .int .i64 4, .int .i64 0, .int .i64 2, .int .i64 8, .slice none 0 0]) rfl).vput 8 (.slice (some ⟨sb, 0, none⟩) 3 3) (cs' := #[.int .i64 8, .int .i64 60, .int .i64 2, .int .i64 (n : Int), .int .i64 4, .int .i64 0, .int .i64 2, .int .i64 8, .slice (some ⟨sb, 0, none⟩) 3 3]) rfl)) S h
  have g2 := Goes.begin t3.1.choose_spec.1
  have k0 := g2.l.vc 0 (v := .int .i64 8) rfl
  have k1 := g2.l.vc 1 (v := .int .i64 60) rfl
  have k2 := g2.l.vc 2 (v := .int .i64 2) rfl
  have k3 := g2.l.vc 3 (v := .int .i64 (n : Int)) rfl
  have k4 := g2.l.vc 4 (v := .int .i64 4) rfl
  have k5 := g2.l.vc 5 (v := .int .i64 0) rfl
  have k6 := g2.l.vc 6 (v := .int .i64 2) rfl
  have k7 := g2.l.vc 7 (v := .int .i64 8) rfl
  have k8 := g2.l.vc 8 (v := .slice (some ⟨sb, 0, none⟩) 3 3) rfl
  have HF := Lib.hid t3.right
  clear t0 t1 t2 t3 g1 g2 hrb
  go_wp2_with fail
  (try rw [via_ret])
  exact bodyPost_ret (v := .agg #[.int .i64 8, .int .i64 60, .int .i64 2, .int .i64 (n : Int), .int .i64 4, .int .i64 0, .int .i64 2, .int .i64 8, .slice (some ⟨sb, 0, none⟩) 3 3]) (by simp [results, Tryz.results6, go_sem, k0, k1, k2, k3, k4, k5, k6, k7, k8]) rfl ⟨sb, rfl, HF.out⟩
end
end Go.Proofs.YtnkgnhpapcnebaaGreat
