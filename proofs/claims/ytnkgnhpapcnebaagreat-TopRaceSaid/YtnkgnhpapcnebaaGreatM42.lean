/- A thread: an operation's first step: Set, with shading. -/
import Derived.Test.YtnkgnhpapcnebaaGreatM32
import Derived.Test.YtnkgnhpapcnebaaGreatM18
import Derived.Test.YtnkgnhpapcnebaaGreatM19
import Derived.Test.YtnkgnhpapcnebaaGreatM5
set_option linter.unusedVariables false
set_option linter.unusedSimpArgs false
set_option maxHeartbeats 8000000
namespace Go.Proofs.YtnkgnhpapcnebaaGreat
open Go.RowKit
attribute [local go_sem] run_store_complex via_ret via_normal via_exit via_panic
section
variable {b t : Nat} {ov lv : Value} {x : Tc} {X : Thing} {S : Nat → Prop} {w w' : World} {A : CA} {c : Cf} {q : Q} {lg n : Nat} {l : Nat → Lc}
set_option maxRecDepth 100000 in
theorem act_starts8o {o : Opn} {N j : Nat} (hc : c.ok) (hk : o.kd = 8) (hNo : o.n = N) (hjo : o.b = j) (hj : j < n) (hs : (l j).k ≤ 17 ∧ (l j).i ≤ 17) (hN : N < c.globals) (hB : j < c.locals) (hlr : (l j).ref = true) (hsh : shd x.st = true) (hF : c.F ≤ 16) (hlk : (l j).k = c.F + 1) (hli : (l j).i = 1) (hv : ∀ f, MemOk c q.m f → f (c.glob N) = cx 0 1) {av : Int} (hav : (if bth x.st then (5 : Int) else 6) = av) (h : (Sep (Core A c q) (LThr b t ov lg n x l X)).at_ S w) :
    Calls Tryz.prog 110 #[.pointer (some ⟨b, 0, none⟩), .pointer (some ⟨A.b, 0, none⟩), .agg (opc o)] w fun e w' => e = .returned (Rs.v ⟨0, 0, 0, false, 0, 0, false⟩) ∧ Goes (Sep (Core A c q) (LThr b t ov lg n { x with addr := ((c.glob N : Nat) : Int), ref := true, at_ := av, w1 := fl (l j).k, w2 := fl (l j).i, o1 := fl 0, o2 := fl 1 } l X)) S w w' := by
  have hoc : opc o = #[.int .i64 8, .int .i64 (o.a : Int), .int .i64 (j : Int), .int .i64 (o.c : Int), .int .i64 (N : Int), .complex .f64 o.z1 o.z2] := by unfold opc; rw [hk, hNo, hjo]; rfl
  have g0 := ((Goes.begin h).moreSt (St.fresh #[.int .i64 8, .int .i64 (o.a : Int), .int .i64 (j : Int), .int .i64 (o.c : Int), .int .i64 (N : Int), .complex .f64 o.z1 o.z2] 26)).moreSt (St.fresh zeroRes 41)
  rw [World.size_alloc] at g0
  obtain ⟨vb, hvb⟩ : ∃ k, w.heap.size = k := ⟨_, rfl⟩
  obtain ⟨rb, hrb⟩ : ∃ k, vb + 1 = k := ⟨_, rfl⟩
  rw [hvb, hrb] at g0
  simp only [zeroRes] at g0
  have g1 := g0.drew_
  obtain ⟨c0, c1, c2, c3, c4, c5, c6, c7, c8⟩ := core9 g1.l.l.l
  have p0 := g1.l.r.vc 0 (v := .int .i64 8) rfl
  have p1 := g1.l.r.vc 1 (v := .int .i64 (o.a : Int)) rfl
  have p2 := g1.l.r.vc 2 (v := .int .i64 (j : Int)) rfl
  have p3 := g1.l.r.vc 3 (v := .int .i64 (o.c : Int)) rfl
  have p4 := g1.l.r.vc 4 (v := .int .i64 (N : Int)) rfl
  have p5 := g1.l.r.vc 5 (v := .complex .f64 o.z1 o.z2) rfl
  have HL := Lib.hid (g1.plain (op_check8 hc hB hN (A := o.a) (B := j) (C := o.c) (N := N) (z1 := o.z1) (z2 := o.z2) (core_confIs g1.l.l.l.is).choose_spec))
  have HO := Lib.hid fun w1 (gg : Goes (Sep (Sep (Sep (Core A c q) (LThr b t ov lg n x l X)) (Var vb #[.int .i64 8, .int .i64 (o.a : Int), .int .i64 (j : Int), .int .i64 (o.c : Int), .int .i64 (N : Int), .complex .f64 o.z1 o.z2] 26)) (Var rb #[.int .i64 0, .int .i64 0, .int .i64 0, .bool false, .complex .f64 0 0] 41)) S w w1) => gg.call (sepL (sepL (sepR fun S h => act_operands8 hk hjo hj hs h)))
  have HP := Lib.hid fun w1 (gg : Goes (Sep (Sep (Sep (Core A c q) (LThr b t ov lg n x l X)) (Var vb #[.int .i64 8, .int .i64 (o.a : Int), .int .i64 (j : Int), .int .i64 (o.c : Int), .int .i64 (N : Int), .complex .f64 o.z1 o.z2] 26)) (Var rb #[.int .i64 0, .int .i64 0, .int .i64 0, .bool false, .complex .f64 0 0] 41)) S w w1) => gg.call (sepL (sepL (sepR fun S h => act_plain8 hk h)))
  have eg : (N : Int) + (c.frags : Int) * 8 + c.spine + c.spine = ((c.glob N : Nat) : Int) := by unfold Cf.glob; push_cast; omega
  have hgw : c.glob N < c.words := by unfold Cf.glob Cf.words; omega
  have HGL := Lib.hid fun w1 pb (gg : Goes (Sep (Sep (Sep (Sep (Core A c q) (LThr b t ov lg n x l X)) (Var vb #[.int .i64 8, .int .i64 (o.a : Int), .int .i64 (j : Int), .int .i64 (o.c : Int), .int .i64 (N : Int), .complex .f64 o.z1 o.z2] 26)) (Var rb #[.int .i64 0, .int .i64 0, .int .i64 0, .bool false, .complex .f64 0 0] 41)) (Var pb #[.bool false, .complex .f64 0 0] 39)) S w w1) => gg.plain (area_global N hc (core_confIs gg.l.l.l.l.is).choose_spec hN)
  rw [eg] at HGL
  unfold cfV at HGL
  have HCH := Lib.hid fun w1 pb (gg : Goes (Sep (Sep (Sep (Sep (Core A c q) (LThr b t ov lg n { x with addr := ((c.glob N : Nat) : Int), ref := true } l X)) (Var vb #[.int .i64 8, .int .i64 (o.a : Int), .int .i64 (j : Int), .int .i64 (o.c : Int), .int .i64 (N : Int), .complex .f64 o.z1 o.z2] 26)) (Var rb #[.int .i64 0, .int .i64 0, .int .i64 0, .bool false, .complex .f64 0 0] 41)) (Var pb #[.bool false, .complex .f64 0 0] 39)) S w w1) => gg.call (O' := (Sep (Sep (Sep (Sep (Core A c q) (LThr b t ov lg n { x with addr := ((c.glob N : Nat) : Int), ref := true, at_ := 3, w1 := fl (l j).k, w2 := fl (l j).i } l X)) (Var vb #[.int .i64 8, .int .i64 (o.a : Int), .int .i64 (j : Int), .int .i64 (o.c : Int), .int .i64 (N : Int), .complex .f64 o.z1 o.z2] 26)) (Var rb #[.int .i64 0, .int .i64 0, .int .i64 0, .bool false, .complex .f64 0 0] 41)) (Var pb #[.bool false, .complex .f64 0 0] 39))) (R := fun e => e = .returned (.tuple #[])) (sepL (sepL (sepL (sepR fun S h => (act_chooses (o := o) (r := true) rfl (show o.b < n by omega) h).mono fun e w' ⟨he, hg⟩ => ⟨he, by rw [hsh, hjo] at hg; exact hg⟩))))
  have HR := Lib.hid fun w1 pb (gg : Goes (Sep (Sep (Sep (Sep (Core A c q) (LThr b t ov lg n { x with addr := ((c.glob N : Nat) : Int), ref := true, at_ := 3, w1 := fl (l j).k, w2 := fl (l j).i } l X)) (Var vb #[.int .i64 8, .int .i64 (o.a : Int), .int .i64 (j : Int), .int .i64 (o.c : Int), .int .i64 (N : Int), .complex .f64 o.z1 o.z2] 26)) (Var rb #[.int .i64 0, .int .i64 0, .int .i64 0, .bool false, .complex .f64 0 0] 41)) (Var pb #[.bool false, .complex .f64 0 0] 39)) S w w1) => gg.call (O' := (Sep (Sep (Sep (Sep (Core A c q) (LThr b t ov lg n { x with addr := ((c.glob N : Nat) : Int), ref := true, at_ := av, w1 := fl (l j).k, w2 := fl (l j).i, o1 := fl 0, o2 := fl 1 } l X)) (Var vb #[.int .i64 8, .int .i64 (o.a : Int), .int .i64 (j : Int), .int .i64 (o.c : Int), .int .i64 (N : Int), .complex .f64 o.z1 o.z2] 26)) (Var rb #[.int .i64 0, .int .i64 0, .int .i64 0, .bool false, .complex .f64 0 0] 41)) (Var pb #[.bool false, .complex .f64 0 0] 39))) (R := fun e => e = .returned (Rs.v ⟨0, 0, 0, false, 0, 0, false⟩)) (sepL (sepL (sepL fun S h => (act_stores_old (x := { x with addr := ((c.glob N : Nat) : Int), ref := true, at_ := 3, w1 := fl (l j).k, w2 := fl (l j).i }) (F := c.F) hc hF rfl rfl hgw hv (by rw [← hlk]) (by rw [← hli]) h).mono fun e w' ⟨he, hg⟩ => ⟨he, by rw [show (if bth ({ x with addr := ((c.glob N : Nat) : Int), ref := true, at_ := 3, w1 := fl (l j).k, w2 := fl (l j).i } : Tc).st then (5 : Int) else 6) = av from hav] at hg; exact hg⟩)))
  rw [hoc] at HCH
  unfold Rs.v at *
  rw [hoc] at HO HP
  rw [hoc]
  unfold cfV at HL
  rw [hlr] at HO
  simp only [if_pos] at HO
  clear h g0 g1 hoc hk hc hN hNo hgw eg hjo hj hs hlr hv
  go_enter Tryz.func110, Tryz.ntmps110
  go_upto_region 1 with fail
  generalize (w.alloc _).alloc _ = w1 at *
  go_still_tail 5, (by kernel_rfl)
  change wpList _ _ _ _ _ w1.drew
  generalize w1.drew = w2 at *
  go_wp2_with fail
  with_reducible refine HL.out.mono ?_
  rintro e w3 ⟨rfl, hg⟩
  have HC := Lib.hid (HO.out _ hg)
  clear HL HO c0 c1 c2 c3 c4 c5 c6 c7 c8 p0 p1 p2 p3 p4 p5
  have p0 := hg.l.r.vc 0 (v := .int .i64 8) rfl
  have p1 := hg.l.r.vc 1 (v := .int .i64 (o.a : Int)) rfl
  have p2 := hg.l.r.vc 2 (v := .int .i64 (j : Int)) rfl
  have p3 := hg.l.r.vc 3 (v := .int .i64 (o.c : Int)) rfl
  have p4 := hg.l.r.vc 4 (v := .int .i64 (N : Int)) rfl
  have p5 := hg.l.r.vc 5 (v := .complex .f64 o.z1 o.z2) rfl
  clear hg
  go_wp2_with fail
  with_reducible refine HC.out.mono ?_
  rintro e w4 ⟨rfl, hg⟩
  clear HC p0 p1 p2 p3 p4 p5
  have HPC := Lib.hid (HP.out _ hg)
  have p0 := hg.l.r.vc 0 (v := .int .i64 8) rfl
  have p1 := hg.l.r.vc 1 (v := .int .i64 (o.a : Int)) rfl
  have p2 := hg.l.r.vc 2 (v := .int .i64 (j : Int)) rfl
  have p3 := hg.l.r.vc 3 (v := .int .i64 (o.c : Int)) rfl
  have p4 := hg.l.r.vc 4 (v := .int .i64 (N : Int)) rfl
  have p5 := hg.l.r.vc 5 (v := .complex .f64 o.z1 o.z2) rfl
  clear HP hg
  go_wp2_with fail
  with_reducible refine HPC.out.mono ?_
  rintro e w5 ⟨rfl, hg⟩
  have g6 := hg.moreSt (St.fresh #[.bool false, .complex .f64 0 0] 39)
  obtain ⟨pb, hpb⟩ : ∃ k, w5.heap.size = k := ⟨_, rfl⟩
  rw [hpb] at g6
  clear HPC p0 p1 p2 p3 p4 p5 hg
  have v0 := g6.r.vc 0 (v := .bool false) rfl
  have v1 := g6.r.vc 1 (v := .complex .f64 0 0) rfl
  have p0 := g6.l.l.r.vc 0 (v := .int .i64 8) rfl
  have p1 := g6.l.l.r.vc 1 (v := .int .i64 (o.a : Int)) rfl
  have p2 := g6.l.l.r.vc 2 (v := .int .i64 (j : Int)) rfl
  have p3 := g6.l.l.r.vc 3 (v := .int .i64 (o.c : Int)) rfl
  have p4 := g6.l.l.r.vc 4 (v := .int .i64 (N : Int)) rfl
  have p5 := g6.l.l.r.vc 5 (v := .complex .f64 o.z1 o.z2) rfl
  go_upto_region 9 with fail
  generalize w5.alloc _ = w6 at *
  clear v0 v1
  go_upto_region 21 with fail
  clear p0 p1 p2 p3 p4 p5
  have g7 := g6.drew_
  clear g6
  have HGC := Lib.hid (HGL.out _ _ g7)
  clear HGL
  refine wp_region_held_drew (S := fun w' => w'.cell? ⟨A.b, 0, none⟩ = some (.int .i64 c.frags) ∧ w'.cell? ⟨A.b, 1, none⟩ = some (.int .i64 c.spine) ∧ w'.cell? ⟨A.b, 2, none⟩ = some (.int .i64 c.globals) ∧ w'.cell? ⟨A.b, 3, none⟩ = some (.int .i64 c.threads) ∧ w'.cell? ⟨A.b, 4, none⟩ = some (.int .i64 c.locals) ∧ w'.cell? ⟨A.b, 5, none⟩ = some (.int .i64 0) ∧ w'.cell? ⟨A.b, 6, none⟩ = some (.int .i64 c.stack) ∧ w'.cell? ⟨A.b, 7, none⟩ = some (.int .i64 c.low) ∧ w'.cell? ⟨A.b, 8, none⟩ = some (.slice (some ⟨A.g, 0, none⟩) c.shapes.length A.cap) ∧ w'.cell? ⟨vb, 4, none⟩ = some (.int .i64 (N : Int))) (by kernel_rfl) ⟨g7.l.l.l.l.c 0 (v := .int .i64 c.frags) rfl, g7.l.l.l.l.c 1 (v := .int .i64 c.spine) rfl, g7.l.l.l.l.c 2 (v := .int .i64 c.globals) rfl, g7.l.l.l.l.c 3 (v := .int .i64 c.threads) rfl, g7.l.l.l.l.c 4 (v := .int .i64 c.locals) rfl, g7.l.l.l.l.c 5 (v := .int .i64 0) rfl, g7.l.l.l.l.c 6 (v := .int .i64 c.stack) rfl, g7.l.l.l.l.c 7 (v := .int .i64 c.low) rfl, g7.l.l.l.l.c 8 (v := .slice (some ⟨A.g, 0, none⟩) c.shapes.length A.cap) rfl, g7.l.l.r.vc 4 (v := .int .i64 (N : Int)) rfl⟩ (fun hHeld => ?_)
  generalize w6.drew = w7 at *
  refine wpAnyH_take (i := 0) (oi := _) (v := ?_) rfl (by kernel_rfl) (by kernel_rfl) (by kernel_rfl) (fun _ _ _ h => h) (Or.inl ⟨by rfl, ?_⟩) (by assumption) ?_
  rotate_left
  · intro w hSw
    (try dsimp only at hSw)
    go_simp
    with_reducible rfl
  try simp only [Act.put, List.setIfInBounds_toArray, List.set_cons_zero, List.set_cons_succ]
  refine wpAnyH_take (i := 1) (oi := _) (v := ?_) rfl (by kernel_rfl) (by kernel_rfl) (by kernel_rfl) (fun _ _ _ h => h) (Or.inl ⟨by rfl, ?_⟩) (by assumption) ?_
  rotate_left
  · intro w hSw
    (try dsimp only at hSw)
    go_simp
    with_reducible rfl
  try simp only [Act.put, List.setIfInBounds_toArray, List.set_cons_zero, List.set_cons_succ]
  refine wpAnyH_take (i := 2) (oi := _) (v := ?_) rfl (by kernel_rfl) (by kernel_rfl) (by kernel_rfl) (fun _ _ _ h => h) (Or.inl ⟨by rfl, ?_⟩) (by assumption) ?_
  rotate_left
  · intro w hSw
    (try dsimp only at hSw)
    go_simp
    with_reducible rfl
  try simp only [Act.put, List.setIfInBounds_toArray, List.set_cons_zero, List.set_cons_succ]
  refine wpAnyH_take (i := 3) (oi := _) (v := ?_) rfl (by kernel_rfl) (by kernel_rfl) (by kernel_rfl) (fun _ _ _ h => h) (Or.inl ⟨by rfl, ?_⟩) (by assumption) ?_
  rotate_left
  · intro w hSw
    (try dsimp only at hSw)
    go_simp
    with_reducible rfl
  try simp only [Act.put, List.setIfInBounds_toArray, List.set_cons_zero, List.set_cons_succ]
  refine wpAnyH_take (i := 4) (oi := _) (v := ?_) rfl (by kernel_rfl) (by kernel_rfl) (by kernel_rfl) (fun _ _ _ h => h) (Or.inl ⟨by rfl, ?_⟩) (by assumption) ?_
  rotate_left
  · intro w hSw
    (try dsimp only at hSw)
    go_simp
    with_reducible rfl
  try simp only [Act.put, List.setIfInBounds_toArray, List.set_cons_zero, List.set_cons_succ]
  refine wpAnyH_take (i := 5) (oi := _) (v := ?_) rfl (by kernel_rfl) (by kernel_rfl) (by kernel_rfl) (fun _ _ _ h => h) (Or.inl ⟨by rfl, ?_⟩) (by assumption) ?_
  rotate_left
  · intro w hSw
    (try dsimp only at hSw)
    go_simp
    with_reducible rfl
  try simp only [Act.put, List.setIfInBounds_toArray, List.set_cons_zero, List.set_cons_succ]
  refine wpAnyH_take (i := 6) (oi := _) (v := ?_) rfl (by kernel_rfl) (by kernel_rfl) (by kernel_rfl) (fun _ _ _ h => h) (Or.inl ⟨by rfl, ?_⟩) (by assumption) ?_
  rotate_left
  · intro w hSw
    (try dsimp only at hSw)
    go_simp
    with_reducible rfl
  try simp only [Act.put, List.setIfInBounds_toArray, List.set_cons_zero, List.set_cons_succ]
  refine wpAnyH_ready (rs := [7]) (by kernel_rfl) (by simp) ?_
  refine AllReadyH.cons (o := _) rfl (fun K hK => ?_) AllReadyH.nil
  go_simp
  with_reducible refine HGC.out.mono ?_
  rintro e w8 ⟨rfl, hgx⟩
  have hg : Goes (Sep (Sep (Sep (Sep (Core A c q) (LThr b t ov lg n x l X)) (Var vb #[.int .i64 8, .int .i64 (o.a : Int), .int .i64 (j : Int), .int .i64 (o.c : Int), .int .i64 (N : Int), .complex .f64 o.z1 o.z2] 26)) (Var rb #[.int .i64 0, .int .i64 0, .int .i64 0, .bool false, .complex .f64 0 0] 41)) (Var pb #[.bool false, .complex .f64 0 0] 39)) S w w8 := hgx
  clear HGC hgx hHeld g7
  go_wp2_with fail
  refine hK.out _ _ ⟨hg.l.l.l.l.c 0 (v := .int .i64 c.frags) rfl, hg.l.l.l.l.c 1 (v := .int .i64 c.spine) rfl, hg.l.l.l.l.c 2 (v := .int .i64 c.globals) rfl, hg.l.l.l.l.c 3 (v := .int .i64 c.threads) rfl, hg.l.l.l.l.c 4 (v := .int .i64 c.locals) rfl, hg.l.l.l.l.c 5 (v := .int .i64 0) rfl, hg.l.l.l.l.c 6 (v := .int .i64 c.stack) rfl, hg.l.l.l.l.c 7 (v := .int .i64 c.low) rfl, hg.l.l.l.l.c 8 (v := .slice (some ⟨A.g, 0, none⟩) c.shapes.length A.cap) rfl, hg.l.l.r.vc 4 (v := .int .i64 (N : Int)) rfl⟩ (fun hHeld => ?_)
  clear hK K
  try simp only [Act.put, List.setIfInBounds_toArray, List.set_cons_zero, List.set_cons_succ]
  refine wpAnyH_take (i := 8) (oi := _) (v := ?_) rfl (by kernel_rfl) (by kernel_rfl) (by kernel_rfl) (fun _ _ _ h => h) (Or.inl ⟨by rfl, ?_⟩) (by assumption) ?_
  rotate_left
  · intro w hSw
    (try dsimp only at hSw)
    go_simp
    with_reducible rfl
  try simp only [Act.put, List.setIfInBounds_toArray, List.set_cons_zero, List.set_cons_succ]
  refine wpAnyH_take (i := 9) (oi := _) (v := ?_) rfl (by kernel_rfl) (by kernel_rfl) (by kernel_rfl) (fun _ _ _ h => h) (Or.inl ⟨by rfl, ?_⟩) (by assumption) ?_
  rotate_left
  · intro w hSw
    (try dsimp only at hSw)
    go_simp
    with_reducible rfl
  try simp only [Act.put, List.setIfInBounds_toArray, List.set_cons_zero, List.set_cons_succ]
  refine wpAnyH_take (i := 10) (oi := _) (v := ?_) rfl (by kernel_rfl) (by kernel_rfl) (by kernel_rfl) (fun _ _ _ h => h) (Or.inl ⟨by rfl, ?_⟩) (by assumption) ?_
  rotate_left
  · intro w hSw
    (try dsimp only at hSw)
    go_simp
    with_reducible rfl
  try simp only [Act.put, List.setIfInBounds_toArray, List.set_cons_zero, List.set_cons_succ]
  refine wpAnyH_take (i := 11) (oi := _) (v := ?_) rfl (by kernel_rfl) (by kernel_rfl) (by kernel_rfl) (fun _ _ _ h => h) (Or.inl ⟨by rfl, ?_⟩) (by assumption) ?_
  rotate_left
  · intro w hSw
    (try dsimp only at hSw)
    go_simp
    with_reducible rfl
  try simp only [Act.put, List.setIfInBounds_toArray, List.set_cons_zero, List.set_cons_succ]
  refine wpAnyH_take (i := 12) (oi := _) (v := ?_) rfl (by kernel_rfl) (by kernel_rfl) (by kernel_rfl) (fun _ _ _ h => h) (Or.inl ⟨by rfl, ?_⟩) (by assumption) ?_
  rotate_left
  · intro w hSw
    (try dsimp only at hSw)
    go_simp
    with_reducible rfl
  try simp only [Act.put, List.setIfInBounds_toArray, List.set_cons_zero, List.set_cons_succ]
  refine wpAnyH_take (i := 13) (oi := _) (v := ?_) rfl (by kernel_rfl) (by kernel_rfl) (by kernel_rfl) (fun _ _ _ h => h) (Or.inl ⟨by rfl, ?_⟩) (by assumption) ?_
  rotate_left
  · intro w hSw
    (try dsimp only at hSw)
    go_simp
    with_reducible rfl
  try simp only [Act.put, List.setIfInBounds_toArray, List.set_cons_zero, List.set_cons_succ]
  have c13 := hg.l.l.l.r.c 13 (v := .int .i64 x.addr) rfl
  have f13 := hg.l.l.l.r.fr 13
  have g9 : Goes (Sep (Sep (Sep (Sep (Core A c q) (LThr b t ov lg n { x with addr := ((c.glob N : Nat) : Int) } l X)) (Var vb #[.int .i64 8, .int .i64 (o.a : Int), .int .i64 (j : Int), .int .i64 (o.c : Int), .int .i64 (N : Int), .complex .f64 o.z1 o.z2] 26)) (Var rb #[.int .i64 0, .int .i64 0, .int .i64 0, .bool false, .complex .f64 0 0] 41)) (Var pb #[.bool false, .complex .f64 0 0] 39)) S w (w8.setCell ⟨b, 13, none⟩ (.int .i64 ((c.glob N : Nat) : Int))) := hg.then fun S h => goesL (fun S h => goesL (fun S h => goesL (fun S h => goesR (fun S h => (Goes.begin h).put 13 (.int .i64 ((c.glob N : Nat) : Int)) (cs' := thCells t ov (.slice (some ⟨lg, 0, none⟩) n n) { x with addr := ((c.glob N : Nat) : Int) }) rfl) S h) S h) S h) S h
  clear hHeld
  clear hg
  have hg := g9
  clear g9
  refine wpAnyH_ready (rs := [14]) (by kernel_rfl) (by simp) ?_
  refine AllReadyH.cons (o := _) rfl (fun K hK => ?_) AllReadyH.nil
  go_simp
  go_wp2_with fail
  refine hK.out _ _ ⟨hg.l.l.l.l.c 0 (v := .int .i64 c.frags) rfl, hg.l.l.l.l.c 1 (v := .int .i64 c.spine) rfl, hg.l.l.l.l.c 2 (v := .int .i64 c.globals) rfl, hg.l.l.l.l.c 3 (v := .int .i64 c.threads) rfl, hg.l.l.l.l.c 4 (v := .int .i64 c.locals) rfl, hg.l.l.l.l.c 5 (v := .int .i64 0) rfl, hg.l.l.l.l.c 6 (v := .int .i64 c.stack) rfl, hg.l.l.l.l.c 7 (v := .int .i64 c.low) rfl, hg.l.l.l.l.c 8 (v := .slice (some ⟨A.g, 0, none⟩) c.shapes.length A.cap) rfl, hg.l.l.r.vc 4 (v := .int .i64 (N : Int)) rfl⟩ (fun hHeld => ?_)
  clear hK K
  try simp only [Act.put, List.setIfInBounds_toArray, List.set_cons_zero, List.set_cons_succ]
  refine wpAnyH_done (by kernel_rfl) ?_ _
  clear hHeld c13 f13
  generalize World.setCell _ _ _ = w9 at *
  have c14 := hg.l.l.l.r.c 14 (v := .bool x.ref) rfl
  have f14 := hg.l.l.l.r.fr 14
  have g10 : Goes (Sep (Sep (Sep (Sep (Core A c q) (LThr b t ov lg n { x with addr := ((c.glob N : Nat) : Int), ref := true } l X)) (Var vb #[.int .i64 8, .int .i64 (o.a : Int), .int .i64 (j : Int), .int .i64 (o.c : Int), .int .i64 (N : Int), .complex .f64 o.z1 o.z2] 26)) (Var rb #[.int .i64 0, .int .i64 0, .int .i64 0, .bool false, .complex .f64 0 0] 41)) (Var pb #[.bool false, .complex .f64 0 0] 39)) S w (w9.setCell ⟨b, 14, none⟩ (.bool true)) := hg.then fun S h => goesL (fun S h => goesL (fun S h => goesL (fun S h => goesR (fun S h => (Goes.begin h).put 14 (.bool true) (cs' := thCells t ov (.slice (some ⟨lg, 0, none⟩) n n) { x with addr := ((c.glob N : Nat) : Int), ref := true }) rfl) S h) S h) S h) S h
  clear hg
  go_upto_region 23 with fail
  generalize w9.setCell _ _ = w10 at *
  clear c14 f14
  have p0 := g10.l.l.r.vc 0 (v := .int .i64 8) rfl
  have p1 := g10.l.l.r.vc 1 (v := .int .i64 (o.a : Int)) rfl
  have p2 := g10.l.l.r.vc 2 (v := .int .i64 (j : Int)) rfl
  have p3 := g10.l.l.r.vc 3 (v := .int .i64 (o.c : Int)) rfl
  have p4 := g10.l.l.r.vc 4 (v := .int .i64 (N : Int)) rfl
  have p5 := g10.l.l.r.vc 5 (v := .complex .f64 o.z1 o.z2) rfl
  have HRC := Lib.hid (HCH.out _ _ g10)
  clear HCH g10
  go_wp2_with fail
  with_reducible refine HRC.out.mono ?_
  rintro e w11 ⟨rfl, hg⟩
  have HR2 := Lib.hid (HR.out _ _ hg)
  clear HRC hg HR p0 p1 p2 p3 p4 p5
  go_wp2_with fail
  with_reducible refine HR2.out.mono ?_
  rintro e w12 ⟨rfl, hgx⟩
  have hg := hgx.l
  clear HR2 hgx
  have q0_ := hg.r.vc 0 (v := .int .i64 0) rfl
  have p0_ := hg.r.vf 0
  have q1_ := hg.r.vc 1 (v := .int .i64 0) rfl
  have p1_ := hg.r.vf 1
  have q2_ := hg.r.vc 2 (v := .int .i64 0) rfl
  have p2_ := hg.r.vf 2
  have q3_ := hg.r.vc 3 (v := .bool false) rfl
  have p3_ := hg.r.vf 3
  have q4_ := hg.r.vc 4 (v := .complex .f64 0 0) rfl
  have p4_ := hg.r.vf 4
  have g8_ := hg.then fun S h => goesR (fun S h => (((((Goes.begin h).vput 0 (.int .i64 (0)) rfl).vput 1 (.int .i64 (0)) rfl).vput 2 (.int .i64 (0)) rfl).vput 3 (.bool (false)) rfl).vput 4 (.complex .f64 0 0) rfl) S h
  have k0_ := g8_.r.vc 0 (v := .int .i64 (0)) rfl
  have k1_ := g8_.r.vc 1 (v := .int .i64 (0)) rfl
  have k2_ := g8_.r.vc 2 (v := .int .i64 (0)) rfl
  have k3_ := g8_.r.vc 3 (v := .bool (false)) rfl
  have k4_ := g8_.r.vc 4 (v := .complex .f64 0 0) rfl
  have HF := Lib.hid g8_.l
  clear hg g8_
  go_wp2_with fail
  (try rw [via_ret])
  exact bodyPost_ret (v := .tuple #[.agg #[.int .i64 (0), .int .i64 (0), .int .i64 (0), .bool (false), .complex .f64 0 0], .bool false]) (by simp [results, Tryz.results110, go_sem, k0_, k1_, k2_, k3_, k4_]) rfl ⟨rfl, HF.out.l⟩
end
end Go.Proofs.YtnkgnhpapcnebaaGreat
/- A thread: it tells the kind of what it holds. -/
namespace Go.Proofs.YtnkgnhpapcnebaaGreat
open Go.RowKit
attribute [local go_sem] run_store_complex via_ret via_normal via_exit via_panic
section
variable {b t : Nat} {ov lv : Value} {x : Tc} {X : Thing} {S : Nat → Prop} {w w' : World} {A : CA} {c : Cf} {q : Q} {lg n : Nat} {l : Nat → Lc} {g cap : Nat}
set_option maxRecDepth 100000 in
theorem act_read {i k vk vi : Nat} (hc : c.ok) (hi : i < c.frags) (hk : k < 8) (hv : ∀ f, MemOk c q.m f → f (i * 8 + k) = cx vk vi) (h : (Core A c q).at_ S w) :
    Calls Tryz.prog 184 #[.pointer (some ⟨A.b, 0, none⟩), .int .i64 (i : Int), .int .i64 (k : Int)] w fun e w' => e = .returned (.tuple #[cx vk vi, .bool true]) ∧ Goes (Core A c q) S w w' := by
  have g0 := Goes.begin h
  obtain ⟨c0, c1, c2, c3, c4, c5, c6, c7, c8⟩ := core9 g0
  have HA := Lib.hid (g0.plain (area_frag i k hc (core_confIs g0.is).choose_spec hi hk))
  have hw : i * 8 + k < c.words := by unfold Cf.words; omega
  have HM := Lib.hid fun w1 (gg : Goes (Core A c q) S w w1) => (core_memR (memi_read (i * 8 + k) hc hw w1)).on gg
  have HV := Lib.hid hv
  unfold cfV at HA
  clear h g0 hc hv hw
  go_enter Tryz.func184, Tryz.ntmps184
  go_wp2_with fail
  with_reducible refine HA.out.mono ?_
  rintro e w1 ⟨rfl, hg⟩
  have HC := Lib.hid (HM.out _ hg)
  have k9 := hg.c 9 (v := .pointer (some ⟨A.bm, 0, none⟩)) rfl
  clear c0 c1 c2 c3 c4 c5 c6 c7 c8 HA HM hg
  generalize ((i * 8 + k : Nat) : Int) = ad at *
  go_wp2_with fail
  with_reducible refine HC.out.mono ?_
  rintro e w2 ⟨v, ⟨rfl, f, hf, hfv⟩, hg⟩
  have e1 : v = cx vk vi := hfv.trans (HV.out f hf)
  subst e1
  have HG := Lib.hid hg
  unfold cx
  clear hg hf hfv HV HC k9
  go_wp2_with fail
  go_ret2
  exact ⟨rfl, HG.out⟩
set_option maxRecDepth 100000 in
theorem act_first {ll : List Bool} (hc : c.ok) (hs : c.shapes[0]? = some (false, ll)) (h : (Conf c g cap).at_ S w) :
    Calls Tryz.prog 243 #[cfV c g cap, cx 0 1] w fun e w' => ∃ v : Option Addr × Nat × Nat, e = .returned (.tuple #[.int .i64 0, .agg #[.bool false, .slice v.1 v.2.1 v.2.2], .bool true]) ∧ Goes (Conf c g cap) S w w' := by
  have g0 := ((Goes.begin h).moreSt (St.fresh (cfCells c (.slice (some ⟨g, 0, none⟩) c.shapes.length cap)) 36)).moreSt (St.fresh #[.bool false, .slice none 0 0] 57)
  rw [World.size_alloc] at g0
  obtain ⟨cb, hcb⟩ : ∃ k, w.heap.size = k := ⟨_, rfl⟩
  obtain ⟨rb, hrb⟩ : ∃ k, cb + 1 = k := ⟨_, rfl⟩
  rw [hcb, hrb] at g0
  have HT := Lib.hid (fun w => word_tell 0 1 w (by omega) (by omega))
  have HA := Lib.hid fun w1 (gg : Goes (Sep (Sep (Conf c g cap) (Var cb (cfCells c (.slice (some ⟨g, 0, none⟩) c.shapes.length cap)) 36)) (Var rb #[.bool false, .slice none 0 0] 57)) S w w1) => conf_shapeK (i := 0) hc gg.l.l.is hs
  rw [show ((0 : Nat) : Int) = 0 from rfl] at HA HT
  rw [show ((1 : Nat) : Int) = 1 from rfl] at HT
  obtain ⟨c0, c1, c2, c3, c4, c5, c6, c7, c8⟩ : _ ∧ _ ∧ _ ∧ _ ∧ _ ∧ _ ∧ _ ∧ _ ∧ _ := ⟨g0.l.r.vc 0 (v := .int .i64 c.frags) rfl, g0.l.r.vc 1 (v := .int .i64 c.spine) rfl, g0.l.r.vc 2 (v := .int .i64 c.globals) rfl, g0.l.r.vc 3 (v := .int .i64 c.threads) rfl, g0.l.r.vc 4 (v := .int .i64 c.locals) rfl, g0.l.r.vc 5 (v := .int .i64 0) rfl, g0.l.r.vc 6 (v := .int .i64 c.stack) rfl, g0.l.r.vc 7 (v := .int .i64 c.low) rfl, g0.l.r.vc 8 (v := .slice (some ⟨g, 0, none⟩) c.shapes.length cap) rfl⟩
  unfold cfV cx at *
  simp only [cfCells] at *
  generalize fl 0 = x0 at *
  generalize fl 1 = x1 at *
  clear h hc hs
  go_enter Tryz.func243, Tryz.ntmps243
  go_upto_region 1 with fail
  generalize (w.alloc _).alloc _ = w1 at *
  go_wp2_with fail
  with_reducible refine (HT.out _).mono ?_
  rintro e w2 ⟨rfl, rfl⟩
  go_wp2_with fail
  with_reducible refine (HA.out _ g0).mono ?_
  rintro e w2 ⟨v1, rfl, hb, S1, hr, hs1⟩
  obtain ⟨xx, k1, rfl⟩ := hr.slice
  have g3 := (g0.below_ hb).moreSt (St.fresh #[.bool false, .slice xx ll.length k1] 57)
  clear HT HA c0 c1 c2 c3 c4 c5 c6 c7 c8 g0 hr hs1 hb
  go_upto_region 3 with fail
  generalize w2.heap.size = sb at *
  generalize w2.alloc _ = w3 at *
  have e0 := g3.r.vc 0 (v := .bool false) rfl
  have e1 := g3.r.vc 1 (v := .slice xx ll.length k1) rfl
  have q0 := g3.l.r.vc 0 (v := .bool false) rfl
  have q1 := g3.l.r.vc 1 (v := .slice none 0 0) rfl
  have f0 := g3.l.r.vf 0
  have f1 := g3.l.r.vf 1
  have g5 := (g3.then fun S h => goesL (fun S h => goesR (fun S h => ((Goes.begin h).vput 0 (.bool false) rfl).vput 1 (.slice xx ll.length k1) rfl) S h) S h).drew_
  have r0 := g5.l.r.vc 0 (v := .bool false) rfl
  have r1 := g5.l.r.vc 1 (v := .slice xx ll.length k1) rfl
  have HF := Lib.hid g5.l.l.l
  clear g3 g5
  go_wp2_with fail
  go_region
  generalize World.drew (World.setCell (World.setCell _ _ _) _ _) = wf at *
  clear e0 e1 q0 q1 f0 f1
  go_wp2_with fail
  exact bodyPost_ret (v := .tuple #[.int .i64 0, .agg #[.bool false, .slice xx ll.length k1], .bool true]) (by simp [results, Tryz.results243, go_sem, r0, r1]) rfl ⟨(xx, ll.length, k1), rfl, HF.out⟩
set_option maxRecDepth 100000 in
theorem core_first {ll : List Bool} (hc : c.ok) (hs : c.shapes[0]? = some (false, ll)) (w : World) :
    Does Tryz.prog 243 #[cfV c A.g A.cap, cx 0 1] w (Core A c q) (fun (v : Option Addr × Nat × Nat) e => e = .returned (.tuple #[.int .i64 0, .agg #[.bool false, .slice v.1 v.2.1 v.2.2], .bool true])) (fun _ => Core A c q) :=
  Does.r (Does.l fun S h => act_first hc hs h)
set_option maxRecDepth 100000 in
theorem act_tells {o : Opn} {j : Nat} {ll : List Bool} (hc : c.ok) (hsh : c.shapes[0]? = some (false, ll)) (hwr : 1 < q.m.wr) (hk : o.kd = 11) (hjo : o.b = j) (hj : j < n) (hs : (l j).k ≤ 17 ∧ (l j).i ≤ 17) (hix : ixI (l j).k (l j).i = c.F)
    (ha : o.a < n) (hn : n ≤ 8) (hph : x.ph = 2) (hnx : x.nx ≤ 1000) (h : (Sep (Core A c q) (LThr b t ov lg n x l X)).at_ S w) :
    Calls Tryz.prog 175 #[.pointer (some ⟨b, 0, none⟩), .pointer (some ⟨A.b, 0, none⟩), .agg (opc o)] w fun e w' => e = .returned (Rs.v ⟨x.nx, x.own, 0, false, fl 0, fl 0, true⟩) ∧ Goes (Sep (Core A c q) (LThr b t ov lg n x.next (updL l o.a ⟨false, 0, 0⟩) X)) S w w' := by
  have hoc : opc o = #[.int .i64 11, .int .i64 (o.a : Int), .int .i64 (j : Int), .int .i64 (o.c : Int), .int .i64 (o.n : Int), .complex .f64 o.z1 o.z2] := by unfold opc; rw [hk, hjo]; rfl
  rw [hoc]
  have g0 := ((Goes.begin h).moreSt (St.fresh #[.int .i64 11, .int .i64 (o.a : Int), .int .i64 (j : Int), .int .i64 (o.c : Int), .int .i64 (o.n : Int), .complex .f64 o.z1 o.z2] 26)).moreSt (St.fresh zeroRes 41)
  rw [World.size_alloc] at g0
  obtain ⟨vb, hvb⟩ : ∃ k, w.heap.size = k := ⟨_, rfl⟩
  obtain ⟨rb, hrb⟩ : ∃ k, vb + 1 = k := ⟨_, rfl⟩
  rw [hvb, hrb] at g0
  simp only [zeroRes] at g0
  have hFc : c.F < c.frags := by have := hc.frags; unfold Cf.F; omega
  have hv1 : ∀ f, MemOk c q.m f → f (c.F * 8 + 1) = cx 0 1 := fun f hf => by
    have := hf.plan 1 (by omega) (by omega) hwr
    simpa [plB] using this
  have HH := Lib.hid (act_head hj hs g0.l.l.r.is)
  rw [hix] at HH
  have HRD := Lib.hid fun w1 (gg : Goes (Sep (Sep (Sep (Core A c q) (LThr b t ov lg n x l X)) (Var vb #[.int .i64 11, .int .i64 (o.a : Int), .int .i64 (j : Int), .int .i64 (o.c : Int), .int .i64 (o.n : Int), .complex .f64 o.z1 o.z2] 26)) (Var rb #[.int .i64 0, .int .i64 0, .int .i64 0, .bool false, .complex .f64 0 0] 41)) S w w1) => gg.call (sepL (sepL (sepL fun S h => act_read hc hFc (by omega) hv1 h)))
  have HFI := Lib.hid fun w1 (gg : Goes (Sep (Sep (Sep (Core A c q) (LThr b t ov lg n x l X)) (Var vb #[.int .i64 11, .int .i64 (o.a : Int), .int .i64 (j : Int), .int .i64 (o.c : Int), .int .i64 (o.n : Int), .complex .f64 o.z1 o.z2] 26)) (Var rb #[.int .i64 0, .int .i64 0, .int .i64 0, .bool false, .complex .f64 0 0] 41)) S w w1) => Does.on (Does.l (Does.l (Does.l (core_first hc hsh w1)))) gg
  have HLY := Lib.hid fun w1 sb v1 v2 v3 (gg : Goes (Sep (Sep (Sep (Sep (Core A c q) (LThr b t ov lg n x l X)) (Var vb #[.int .i64 11, .int .i64 (o.a : Int), .int .i64 (j : Int), .int .i64 (o.c : Int), .int .i64 (o.n : Int), .complex .f64 o.z1 o.z2] 26)) (Var rb #[.int .i64 0, .int .i64 0, .int .i64 0, .bool false, .complex .f64 0 0] 41)) (Var sb #[.bool false, .slice v1 v2 v3] 57)) S w w1) => gg.call (sepL (sepL (sepL (sepR fun S h => act_lays (v := ⟨false, 0, 0⟩) ha hn hph hnx h))))
  have HW := Lib.hid fun w => num_whole 0 w (by omega)
  rw [show ((0 : Nat) : Int) = 0 from rfl] at HW
  rw [show ((1 : Nat) : Int) = 1 from rfl] at HRD
  unfold Rs.v cfV cx at *
  rw [fl0] at *
  simp only at HLY
  generalize fl 1 = y1 at *
  clear h hoc hk hjo hc hsh hv1 hwr hix hs
  go_enter Tryz.func175, Tryz.ntmps175
  go_upto_region 1 with fail
  generalize (w.alloc _).alloc _ = w1 at *
  have p2 := g0.l.r.vc 2 (v := .int .i64 (j : Int)) rfl
  go_wp2_with fail
  with_reducible refine HH.out.mono ?_
  rintro e w2 ⟨rfl, rfl⟩
  have HRC := Lib.hid (HRD.out _ g0)
  clear HH HRD g0 p2
  go_wp2_with fail
  with_reducible refine HRC.out.mono ?_
  rintro e w3 ⟨rfl, hg⟩
  obtain ⟨c0, c1, c2, c3, c4, c5, c6, c7, c8⟩ := core9 hg.l.l.l
  have HFC := Lib.hid (HFI.out _ hg)
  clear HRC HFI hg
  go_wp2_with fail
  with_reducible refine HFC.out.mono ?_
  rintro e w4 ⟨⟨v1, v2, v3⟩, rfl, hg⟩
  clear HFC c0 c1 c2 c3 c4 c5 c6 c7 c8
  have g5 := hg.moreSt (St.fresh #[.bool false, .slice v1 v2 v3] 57)
  clear hg
  go_upto_region 3 with fail
  generalize w4.heap.size = sb at *
  generalize w4.alloc _ = w5 at *
  have p0 := g5.l.l.r.vc 0 (v := .int .i64 11) rfl
  have p1 := g5.l.l.r.vc 1 (v := .int .i64 (o.a : Int)) rfl
  go_wp2_with fail
  have g7 := g5.drew_
  clear g5 p0 p1
  refine wp_region_held_drew (S := fun w' => w'.cell? ⟨vb, 1, none⟩ = some (.int .i64 (o.a : Int))) (by kernel_rfl) (g7.l.l.r.vc 1 (v := .int .i64 (o.a : Int)) rfl) (fun hHeld => ?_)
  generalize w5.drew = wd at *
  refine wpAnyH_take (i := 0) (oi := _) (v := ?_) rfl (by kernel_rfl) (by kernel_rfl) (by kernel_rfl) (fun _ _ _ h => h) (Or.inl ⟨by rfl, ?_⟩) (by assumption) ?_
  rotate_left
  · intro w hSw
    (try dsimp only at hSw)
    go_simp
    with_reducible rfl
  try simp only [Act.put, List.setIfInBounds_toArray, List.set_cons_zero, List.set_cons_succ]
  refine wpAnyH_take (i := 1) (oi := _) (v := ?_) rfl (by kernel_rfl) (by kernel_rfl) (by kernel_rfl) (fun _ _ _ h => h) (Or.inl ⟨by rfl, ?_⟩) (by assumption) ?_
  rotate_left
  · intro w hSw
    (try dsimp only at hSw)
    go_simp
    with_reducible rfl
  try simp only [Act.put, List.setIfInBounds_toArray, List.set_cons_zero, List.set_cons_succ]
  refine wpAnyH_take (i := 2) (oi := _) (v := ?_) rfl (by kernel_rfl) (by kernel_rfl) (by kernel_rfl) (fun _ _ _ h => h) (Or.inl ⟨by rfl, ?_⟩) (by assumption) ?_
  rotate_left
  · intro w hSw
    (try dsimp only at hSw)
    go_simp
    with_reducible rfl
  try simp only [Act.put, List.setIfInBounds_toArray, List.set_cons_zero, List.set_cons_succ]
  refine wpAnyH_take (i := 3) (oi := _) (v := ?_) rfl (by kernel_rfl) (by kernel_rfl) (by kernel_rfl) (fun _ _ _ h => h) (Or.inl ⟨by rfl, ?_⟩) (by assumption) ?_
  rotate_left
  · intro w hSw
    (try dsimp only at hSw)
    go_simp
    with_reducible rfl
  try simp only [Act.put, List.setIfInBounds_toArray, List.set_cons_zero, List.set_cons_succ]
  refine wpAnyH_call (i := 4) (oi := _) (v := .complex .f64 0 0) rfl (by kernel_rfl) (by kernel_rfl) (by kernel_rfl) (fun _ _ _ h => h) ⟨by rfl, fun w hSw => ⟨_, _, ?_, HW.out w⟩⟩ (by assumption) ?_
  · go_simp
  try simp only [Act.put, List.setIfInBounds_toArray, List.set_cons_zero, List.set_cons_succ]
  refine wpAnyH_take (i := 5) (oi := _) (v := ?_) rfl (by kernel_rfl) (by kernel_rfl) (by kernel_rfl) (fun _ _ _ h => h) (Or.inl ⟨by rfl, ?_⟩) (by assumption) ?_
  rotate_left
  · intro w hSw
    (try dsimp only at hSw)
    go_simp
    with_reducible rfl
  try simp only [Act.put, List.setIfInBounds_toArray, List.set_cons_zero, List.set_cons_succ]
  have HYC := Lib.hid (HLY.out _ _ _ _ _ g7)
  clear HLY HW g7
  refine wpAnyH_ready (rs := [6]) (by kernel_rfl) (by simp) ?_
  refine AllReadyH.cons (o := _) rfl (fun K hK => ?_) AllReadyH.nil
  go_simp
  with_reducible refine HYC.out.mono ?_
  rintro e w6 ⟨rfl, hgx⟩
  have hg : Goes (Sep (Sep (Sep (Core A c q) (LThr b t ov lg n x.next (updL l o.a ⟨false, 0, 0⟩) X)) (Var vb #[.int .i64 11, .int .i64 (o.a : Int), .int .i64 (j : Int), .int .i64 (o.c : Int), .int .i64 (o.n : Int), .complex .f64 o.z1 o.z2] 26)) (Var rb #[.int .i64 0, .int .i64 0, .int .i64 0, .bool false, .complex .f64 0 0] 41)) S w w6 := hgx.l
  clear HYC hgx hHeld
  go_wp2_with fail
  refine hK.out _ _ (hg.l.r.vc 1 (v := .int .i64 (o.a : Int)) rfl) (fun hHeld => ?_)
  clear hK K
  try simp only [Act.put, List.setIfInBounds_toArray, List.set_cons_zero, List.set_cons_succ]
  refine wpAnyH_take (i := 7) (oi := _) (v := ?_) rfl (by kernel_rfl) (by kernel_rfl) (by kernel_rfl) (fun _ _ _ h => h) (Or.inl ⟨by rfl, ?_⟩) (by assumption) ?_
  rotate_left
  · intro w hSw
    (try dsimp only at hSw)
    go_simp
    with_reducible rfl
  try simp only [Act.put, List.setIfInBounds_toArray, List.set_cons_zero, List.set_cons_succ]
  refine wpAnyH_take (i := 8) (oi := _) (v := ?_) rfl (by kernel_rfl) (by kernel_rfl) (by kernel_rfl) (fun _ _ _ h => h) (Or.inl ⟨by rfl, ?_⟩) (by assumption) ?_
  rotate_left
  · intro w hSw
    (try dsimp only at hSw)
    go_simp
    with_reducible rfl
  try simp only [Act.put, List.setIfInBounds_toArray, List.set_cons_zero, List.set_cons_succ]
  have q0 := hg.r.vc 0 (v := .int .i64 0) rfl
  have f0 := hg.r.vf 0
  have q1 := hg.r.vc 1 (v := .int .i64 0) rfl
  have f1 := hg.r.vf 1
  have q2 := hg.r.vc 2 (v := .int .i64 0) rfl
  have f2 := hg.r.vf 2
  have q3 := hg.r.vc 3 (v := .bool false) rfl
  have f3 := hg.r.vf 3
  have q4 := hg.r.vc 4 (v := .complex .f64 0 0) rfl
  have f4 := hg.r.vf 4
  have g8 := hg.then fun S h => goesR (fun S h => (((((Goes.begin h).vput 0 (.int .i64 (x.nx : Int)) rfl).vput 1 (.int .i64 x.own) rfl).vput 2 (.int .i64 0) rfl).vput 3 (.bool false) rfl).vput 4 (.complex .f64 0 0) rfl) S h
  refine wpAnyH_ready (rs := [9]) (by kernel_rfl) (by simp) ?_
  refine AllReadyH.cons (o := _) rfl (fun K hK => ?_) AllReadyH.nil
  go_simp
  go_wp2_with fail
  refine hK.out _ _ (g8.l.r.vc 1 (v := .int .i64 (o.a : Int)) rfl) (fun hHeld => ?_)
  clear hK K
  try simp only [Act.put, List.setIfInBounds_toArray, List.set_cons_zero, List.set_cons_succ]
  refine wpAnyH_take (i := 10) (oi := _) (v := ?_) rfl (by kernel_rfl) (by kernel_rfl) (by kernel_rfl) (fun _ _ _ h => h) (Or.inl ⟨by rfl, ?_⟩) (by assumption) ?_
  rotate_left
  · intro w hSw
    (try dsimp only at hSw)
    go_simp
    with_reducible rfl
  try simp only [Act.put, List.getElem_toArray, List.getElem_cons_zero, List.getElem_cons_succ, List.setIfInBounds_toArray, List.set_cons_zero, List.set_cons_succ]
  refine wpAnyH_done (by kernel_rfl) ?_ _
  clear hHeld q0 q1 q2 q3 q4 f0 f1 f2 f3 f4
  generalize World.setCell (World.setCell (World.setCell (World.setCell (World.setCell _ _ _) _ _) _ _) _ _) _ _ = wf at *
  have k0 := g8.r.vc 0 (v := .int .i64 (x.nx : Int)) rfl
  have k1 := g8.r.vc 1 (v := .int .i64 x.own) rfl
  have k2 := g8.r.vc 2 (v := .int .i64 0) rfl
  have k3 := g8.r.vc 3 (v := .bool false) rfl
  have k4 := g8.r.vc 4 (v := .complex .f64 0 0) rfl
  have HF := Lib.hid g8.l.l
  clear hg g8
  go_wp2_with fail
  exact bodyPost_ret (v := .tuple #[.agg #[.int .i64 (x.nx : Int), .int .i64 x.own, .int .i64 0, .bool false, .complex .f64 0 0], .bool true]) (by simp [results, Tryz.results175, go_sem, k0, k1, k2, k3, k4]) rfl ⟨rfl, HF.out⟩
end
end Go.Proofs.YtnkgnhpapcnebaaGreat
