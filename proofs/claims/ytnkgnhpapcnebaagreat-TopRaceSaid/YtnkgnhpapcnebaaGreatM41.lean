/- A thread: an operation's first step: Set. -/
import Derived.Test.YtnkgnhpapcnebaaGreatM32
import Derived.Test.YtnkgnhpapcnebaaGreatM18
import Derived.Test.YtnkgnhpapcnebaaGreatM19
set_option linter.unusedVariables false
set_option linter.unusedSimpArgs false
set_option maxHeartbeats 8000000
namespace Go.Proofs.YtnkgnhpapcnebaaGreat
open Go.RowKit
attribute [local go_sem] run_store_complex via_ret via_normal via_exit via_panic
section
variable {b t : Nat} {ov lv : Value} {x : Tc} {X : Thing} {S : Nat → Prop} {w w' : World} {A : CA} {c : Cf} {q : Q} {lg n : Nat} {l : Nat → Lc}
set_option maxRecDepth 100000 in
theorem act_starts8w {o : Opn} {N j : Nat} (hc : c.ok) (hk : o.kd = 8) (hNo : o.n = N) (hjo : o.b = j) (hj : j < n) (hs : (l j).k ≤ 17 ∧ (l j).i ≤ 17) (hN : N < c.globals) (hB : j < c.locals) (hlr : (l j).ref = true) {m' : Mq} (hsh : shd x.st = false) (hm : ∀ f, MemOk c q.m f → MemOk c m' (setV f (c.glob N) (.complex .f64 (fl (l j).k) (fl (l j).i)))) (hph : x.ph = 2) (hnx : x.nx ≤ 1000) (h : (Sep (Core A c q) (LThr b t ov lg n x l X)).at_ S w) :
    Calls Tryz.prog 110 #[.pointer (some ⟨b, 0, none⟩), .pointer (some ⟨A.b, 0, none⟩), .agg (opc o)] w fun e w' => e = .returned (Rs.v ⟨x.nx, x.own, 0, false, 0, 0, true⟩) ∧ Goes (Sep (Core A c { q with m := m' }) (LThr b t ov lg n (Tc.next { x with addr := ((c.glob N : Nat) : Int), ref := true, at_ := 6, w1 := fl (l j).k, w2 := fl (l j).i }) l X)) S w w' := by
  have hoc : opc o = #[.int .i64 8, .int .i64 (o.a : Int), .int .i64 (j : Int), .int .i64 (o.c : Int), .int .i64 (N : Int), .complex .f64 o.z1 o.z2] := by unfold opc; rw [hk, hNo, hjo]; rfl
  have g0 := ((Goes.begin h).moreSt (St.fresh #[.int .i64 8, .int .i64 (o.a : Int), .int .i64 (j : Int), .int .i64 (o.c : Int), .int .i64 (N : Int), .complex .f64 o.z1 o.z2] 26)).moreSt (St.fresh zeroRes 41)
  rw [World.size_alloc] at g0
  obtain ⟨vb, hvb⟩ : ∃ k, w.heap.size = k := ⟨_, rfl⟩
  obtain ⟨rb, hrb⟩ : ∃ k, vb + 1 = k := ⟨_, rfl⟩
  rw [hvb, hrb] at g0
  simp only [zeroRes] at g0
  have g1 := g0.drew_
  obtain ⟨c0, c1, c2, c3, c4, c5, c6, c7, c8⟩ := core9 g1.l.l.l
  have p0 := g1.l.r.vc 0 (v := .int .i64 8) rfl
  have p1 := g1.l.r.vc 1 (v := .int .i64 (o.a : Int)) rfl
  have p2 := g1.l.r.vc 2 (v := .int .i64 (j : Int)) rfl
  have p3 := g1.l.r.vc 3 (v := .int .i64 (o.c : Int)) rfl
  have p4 := g1.l.r.vc 4 (v := .int .i64 (N : Int)) rfl
  have p5 := g1.l.r.vc 5 (v := .complex .f64 o.z1 o.z2) rfl
  have HL := Lib.hid (g1.plain (op_check8 hc hB hN (A := o.a) (B := j) (C := o.c) (N := N) (z1 := o.z1) (z2 := o.z2) (core_confIs g1.l.l.l.is).choose_spec))
  have HO := Lib.hid fun w1 (gg : Goes (Sep (Sep (Sep (Core A c q) (LThr b t ov lg n x l X)) (Var vb #[.int .i64 8, .int .i64 (o.a : Int), .int .i64 (j : Int), .int .i64 (o.c : Int), .int .i64 (N : Int), .complex .f64 o.z1 o.z2] 26)) (Var rb #[.int .i64 0, .int .i64 0, .int .i64 0, .bool false, .complex .f64 0 0] 41)) S w w1) => gg.call (sepL (sepL (sepR fun S h => act_operands8 hk hjo hj hs h)))
  have HP := Lib.hid fun w1 (gg : Goes (Sep (Sep (Sep (Core A c q) (LThr b t ov lg n x l X)) (Var vb #[.int .i64 8, .int .i64 (o.a : Int), .int .i64 (j : Int), .int .i64 (o.c : Int), .int .i64 (N : Int), .complex .f64 o.z1 o.z2] 26)) (Var rb #[.int .i64 0, .int .i64 0, .int .i64 0, .bool false, .complex .f64 0 0] 41)) S w w1) => gg.call (sepL (sepL (sepR fun S h => act_plain8 hk h)))
  have eg : (N : Int) + (c.frags : Int) * 8 + c.spine + c.spine = ((c.glob N : Nat) : Int) := by unfold Cf.glob; push_cast; omega
  have hgw : c.glob N < c.words := by unfold Cf.glob Cf.words; omega
  have HGL := Lib.hid fun w1 pb (gg : Goes (Sep (Sep (Sep (Sep (Core A c q) (LThr b t ov lg n x l X)) (Var vb #[.int .i64 8, .int .i64 (o.a : Int), .int .i64 (j : Int), .int .i64 (o.c : Int), .int .i64 (N : Int), .complex .f64 o.z1 o.z2] 26)) (Var rb #[.int .i64 0, .int .i64 0, .int .i64 0, .bool false, .complex .f64 0 0] 41)) (Var pb #[.bool false, .complex .f64 0 0] 39)) S w w1) => gg.plain (area_global N hc (core_confIs gg.l.l.l.l.is).choose_spec hN)
  rw [eg] at HGL
  unfold cfV at HGL
  have HCH := Lib.hid fun w1 pb (gg : Goes (Sep (Sep (Sep (Sep (Core A c q) (LThr b t ov lg n { x with addr := ((c.glob N : Nat) : Int), ref := true } l X)) (Var vb #[.int .i64 8, .int .i64 (o.a : Int), .int .i64 (j : Int), .int .i64 (o.c : Int), .int .i64 (N : Int), .complex .f64 o.z1 o.z2] 26)) (Var rb #[.int .i64 0, .int .i64 0, .int .i64 0, .bool false, .complex .f64 0 0] 41)) (Var pb #[.bool false, .complex .f64 0 0] 39)) S w w1) => gg.call (O' := (Sep (Sep (Sep (Sep (Core A c q) (LThr b t ov lg n { x with addr := ((c.glob N : Nat) : Int), ref := true, at_ := 6, w1 := fl (l j).k, w2 := fl (l j).i } l X)) (Var vb #[.int .i64 8, .int .i64 (o.a : Int), .int .i64 (j : Int), .int .i64 (o.c : Int), .int .i64 (N : Int), .complex .f64 o.z1 o.z2] 26)) (Var rb #[.int .i64 0, .int .i64 0, .int .i64 0, .bool false, .complex .f64 0 0] 41)) (Var pb #[.bool false, .complex .f64 0 0] 39))) (R := fun e => e = .returned (.tuple #[])) (sepL (sepL (sepL (sepR fun S h => (act_chooses (o := o) (r := true) rfl (show o.b < n by omega) h).mono fun e w' ⟨he, hg⟩ => ⟨he, by rw [hsh, hjo] at hg; exact hg⟩))))
  have HR := Lib.hid fun w1 pb (gg : Goes (Sep (Sep (Sep (Sep (Core A c q) (LThr b t ov lg n { x with addr := ((c.glob N : Nat) : Int), ref := true, at_ := 6, w1 := fl (l j).k, w2 := fl (l j).i } l X)) (Var vb #[.int .i64 8, .int .i64 (o.a : Int), .int .i64 (j : Int), .int .i64 (o.c : Int), .int .i64 (N : Int), .complex .f64 o.z1 o.z2] 26)) (Var rb #[.int .i64 0, .int .i64 0, .int .i64 0, .bool false, .complex .f64 0 0] 41)) (Var pb #[.bool false, .complex .f64 0 0] 39)) S w w1) => gg.call (O' := (Sep (Sep (Sep (Sep (Core A c { q with m := m' }) (LThr b t ov lg n (Tc.next { x with addr := ((c.glob N : Nat) : Int), ref := true, at_ := 6, w1 := fl (l j).k, w2 := fl (l j).i }) l X)) (Var vb #[.int .i64 8, .int .i64 (o.a : Int), .int .i64 (j : Int), .int .i64 (o.c : Int), .int .i64 (N : Int), .complex .f64 o.z1 o.z2] 26)) (Var rb #[.int .i64 0, .int .i64 0, .int .i64 0, .bool false, .complex .f64 0 0] 41)) (Var pb #[.bool false, .complex .f64 0 0] 39))) (R := fun e => e = .returned (Rs.v ⟨x.nx, x.own, 0, false, 0, 0, true⟩)) (sepL (sepL (sepL fun S h => act_stores_write (x := { x with addr := ((c.glob N : Nat) : Int), ref := true, at_ := 6, w1 := fl (l j).k, w2 := fl (l j).i }) hc rfl rfl hgw hm hph hnx h)))
  rw [hoc] at HCH
  unfold Rs.v at *
  rw [hoc] at HO HP
  rw [hoc]
  unfold cfV at HL
  rw [hlr] at HO
  simp only [if_pos] at HO
  clear h g0 g1 hoc hk hc hN hNo hgw eg hjo hj hs hlr hm
  go_enter Tryz.func110, Tryz.ntmps110
  go_upto_region 1 with fail
  generalize (w.alloc _).alloc _ = w1 at *
  go_still_tail 5, (by kernel_rfl)
  change wpList _ _ _ _ _ w1.drew
  generalize w1.drew = w2 at *
  go_wp2_with fail
  with_reducible refine HL.out.mono ?_
  rintro e w3 ⟨rfl, hg⟩
  have HC := Lib.hid (HO.out _ hg)
  clear HL HO c0 c1 c2 c3 c4 c5 c6 c7 c8 p0 p1 p2 p3 p4 p5
  have p0 := hg.l.r.vc 0 (v := .int .i64 8) rfl
  have p1 := hg.l.r.vc 1 (v := .int .i64 (o.a : Int)) rfl
  have p2 := hg.l.r.vc 2 (v := .int .i64 (j : Int)) rfl
  have p3 := hg.l.r.vc 3 (v := .int .i64 (o.c : Int)) rfl
  have p4 := hg.l.r.vc 4 (v := .int .i64 (N : Int)) rfl
  have p5 := hg.l.r.vc 5 (v := .complex .f64 o.z1 o.z2) rfl
  clear hg
  go_wp2_with fail
  with_reducible refine HC.out.mono ?_
  rintro e w4 ⟨rfl, hg⟩
  clear HC p0 p1 p2 p3 p4 p5
  have HPC := Lib.hid (HP.out _ hg)
  have p0 := hg.l.r.vc 0 (v := .int .i64 8) rfl
  have p1 := hg.l.r.vc 1 (v := .int .i64 (o.a : Int)) rfl
  have p2 := hg.l.r.vc 2 (v := .int .i64 (j : Int)) rfl
  have p3 := hg.l.r.vc 3 (v := .int .i64 (o.c : Int)) rfl
  have p4 := hg.l.r.vc 4 (v := .int .i64 (N : Int)) rfl
  have p5 := hg.l.r.vc 5 (v := .complex .f64 o.z1 o.z2) rfl
  clear HP hg
  go_wp2_with fail
  with_reducible refine HPC.out.mono ?_
  rintro e w5 ⟨rfl, hg⟩
  have g6 := hg.moreSt (St.fresh #[.bool false, .complex .f64 0 0] 39)
  obtain ⟨pb, hpb⟩ : ∃ k, w5.heap.size = k := ⟨_, rfl⟩
  rw [hpb] at g6
  clear HPC p0 p1 p2 p3 p4 p5 hg
  have v0 := g6.r.vc 0 (v := .bool false) rfl
  have v1 := g6.r.vc 1 (v := .complex .f64 0 0) rfl
  have p0 := g6.l.l.r.vc 0 (v := .int .i64 8) rfl
  have p1 := g6.l.l.r.vc 1 (v := .int .i64 (o.a : Int)) rfl
  have p2 := g6.l.l.r.vc 2 (v := .int .i64 (j : Int)) rfl
  have p3 := g6.l.l.r.vc 3 (v := .int .i64 (o.c : Int)) rfl
  have p4 := g6.l.l.r.vc 4 (v := .int .i64 (N : Int)) rfl
  have p5 := g6.l.l.r.vc 5 (v := .complex .f64 o.z1 o.z2) rfl
  go_upto_region 9 with fail
  generalize w5.alloc _ = w6 at *
  clear v0 v1
  go_upto_region 21 with fail
  clear p0 p1 p2 p3 p4 p5
  have g7 := g6.drew_
  clear g6
  have HGC := Lib.hid (HGL.out _ _ g7)
  clear HGL
  refine wp_region_held_drew (S := fun w' => w'.cell? ⟨A.b, 0, none⟩ = some (.int .i64 c.frags) ∧ w'.cell? ⟨A.b, 1, none⟩ = some (.int .i64 c.spine) ∧ w'.cell? ⟨A.b, 2, none⟩ = some (.int .i64 c.globals) ∧ w'.cell? ⟨A.b, 3, none⟩ = some (.int .i64 c.threads) ∧ w'.cell? ⟨A.b, 4, none⟩ = some (.int .i64 c.locals) ∧ w'.cell? ⟨A.b, 5, none⟩ = some (.int .i64 0) ∧ w'.cell? ⟨A.b, 6, none⟩ = some (.int .i64 c.stack) ∧ w'.cell? ⟨A.b, 7, none⟩ = some (.int .i64 c.low) ∧ w'.cell? ⟨A.b, 8, none⟩ = some (.slice (some ⟨A.g, 0, none⟩) c.shapes.length A.cap) ∧ w'.cell? ⟨vb, 4, none⟩ = some (.int .i64 (N : Int))) (by kernel_rfl) ⟨g7.l.l.l.l.c 0 (v := .int .i64 c.frags) rfl, g7.l.l.l.l.c 1 (v := .int .i64 c.spine) rfl, g7.l.l.l.l.c 2 (v := .int .i64 c.globals) rfl, g7.l.l.l.l.c 3 (v := .int .i64 c.threads) rfl, g7.l.l.l.l.c 4 (v := .int .i64 c.locals) rfl, g7.l.l.l.l.c 5 (v := .int .i64 0) rfl, g7.l.l.l.l.c 6 (v := .int .i64 c.stack) rfl, g7.l.l.l.l.c 7 (v := .int .i64 c.low) rfl, g7.l.l.l.l.c 8 (v := .slice (some ⟨A.g, 0, none⟩) c.shapes.length A.cap) rfl, g7.l.l.r.vc 4 (v := .int .i64 (N : Int)) rfl⟩ (fun hHeld => ?_)
  generalize w6.drew = w7 at *
  refine wpAnyH_take (i := 0) (oi := _) (v := ?_) rfl (by kernel_rfl) (by kernel_rfl) (by kernel_rfl) (fun _ _ _ h => h) (Or.inl ⟨by rfl, ?_⟩) (by assumption) ?_
  rotate_left
  · intro w hSw
    (try dsimp only at hSw)
    go_simp
    with_reducible rfl
  try simp only [Act.put, List.setIfInBounds_toArray, List.set_cons_zero, List.set_cons_succ]
  refine wpAnyH_take (i := 1) (oi := _) (v := ?_) rfl (by kernel_rfl) (by kernel_rfl) (by kernel_rfl) (fun _ _ _ h => h) (Or.inl ⟨by rfl, ?_⟩) (by assumption) ?_
  rotate_left
  · intro w hSw
    (try dsimp only at hSw)
    go_simp
    with_reducible rfl
  try simp only [Act.put, List.setIfInBounds_toArray, List.set_cons_zero, List.set_cons_succ]
  refine wpAnyH_take (i := 2) (oi := _) (v := ?_) rfl (by kernel_rfl) (by kernel_rfl) (by kernel_rfl) (fun _ _ _ h => h) (Or.inl ⟨by rfl, ?_⟩) (by assumption) ?_
  rotate_left
  · intro w hSw
    (try dsimp only at hSw)
    go_simp
    with_reducible rfl
  try simp only [Act.put, List.setIfInBounds_toArray, List.set_cons_zero, List.set_cons_succ]
  refine wpAnyH_take (i := 3) (oi := _) (v := ?_) rfl (by kernel_rfl) (by kernel_rfl) (by kernel_rfl) (fun _ _ _ h => h) (Or.inl ⟨by rfl, ?_⟩) (by assumption) ?_
  rotate_left
  · intro w hSw
    (try dsimp only at hSw)
    go_simp
    with_reducible rfl
  try simp only [Act.put, List.setIfInBounds_toArray, List.set_cons_zero, List.set_cons_succ]
  refine wpAnyH_take (i := 4) (oi := _) (v := ?_) rfl (by kernel_rfl) (by kernel_rfl) (by kernel_rfl) (fun _ _ _ h => h) (Or.inl ⟨by rfl, ?_⟩) (by assumption) ?_
  rotate_left
  · intro w hSw
    (try dsimp only at hSw)
    go_simp
    with_reducible rfl
  try simp only [Act.put, List.setIfInBounds_toArray, List.set_cons_zero, List.set_cons_succ]
  refine wpAnyH_take (i := 5) (oi := _) (v := ?_) rfl (by kernel_rfl) (by kernel_rfl) (by kernel_rfl) (fun _ _ _ h => h) (Or.inl ⟨by rfl, ?_⟩) (by assumption) ?_
  rotate_left
  · intro w hSw
    (try dsimp only at hSw)
    go_simp
    with_reducible rfl
  try simp only [Act.put, List.setIfInBounds_toArray, List.set_cons_zero, List.set_cons_succ]
  refine wpAnyH_take (i := 6) (oi := _) (v := ?_) rfl (by kernel_rfl) (by kernel_rfl) (by kernel_rfl) (fun _ _ _ h => h) (Or.inl ⟨by rfl, ?_⟩) (by assumption) ?_
  rotate_left
  · intro w hSw
    (try dsimp only at hSw)
    go_simp
    with_reducible rfl
  try simp only [Act.put, List.setIfInBounds_toArray, List.set_cons_zero, List.set_cons_succ]
  refine wpAnyH_ready (rs := [7]) (by kernel_rfl) (by simp) ?_
  refine AllReadyH.cons (o := _) rfl (fun K hK => ?_) AllReadyH.nil
  go_simp
  with_reducible refine HGC.out.mono ?_
  rintro e w8 ⟨rfl, hgx⟩
  have hg : Goes (Sep (Sep (Sep (Sep (Core A c q) (LThr b t ov lg n x l X)) (Var vb #[.int .i64 8, .int .i64 (o.a : Int), .int .i64 (j : Int), .int .i64 (o.c : Int), .int .i64 (N : Int), .complex .f64 o.z1 o.z2] 26)) (Var rb #[.int .i64 0, .int .i64 0, .int .i64 0, .bool false, .complex .f64 0 0] 41)) (Var pb #[.bool false, .complex .f64 0 0] 39)) S w w8 := hgx
  clear HGC hgx hHeld g7
  go_wp2_with fail
  refine hK.out _ _ ⟨hg.l.l.l.l.c 0 (v := .int .i64 c.frags) rfl, hg.l.l.l.l.c 1 (v := .int .i64 c.spine) rfl, hg.l.l.l.l.c 2 (v := .int .i64 c.globals) rfl, hg.l.l.l.l.c 3 (v := .int .i64 c.threads) rfl, hg.l.l.l.l.c 4 (v := .int .i64 c.locals) rfl, hg.l.l.l.l.c 5 (v := .int .i64 0) rfl, hg.l.l.l.l.c 6 (v := .int .i64 c.stack) rfl, hg.l.l.l.l.c 7 (v := .int .i64 c.low) rfl, hg.l.l.l.l.c 8 (v := .slice (some ⟨A.g, 0, none⟩) c.shapes.length A.cap) rfl, hg.l.l.r.vc 4 (v := .int .i64 (N : Int)) rfl⟩ (fun hHeld => ?_)
  clear hK K
  try simp only [Act.put, List.setIfInBounds_toArray, List.set_cons_zero, List.set_cons_succ]
  refine wpAnyH_take (i := 8) (oi := _) (v := ?_) rfl (by kernel_rfl) (by kernel_rfl) (by kernel_rfl) (fun _ _ _ h => h) (Or.inl ⟨by rfl, ?_⟩) (by assumption) ?_
  rotate_left
  · intro w hSw
    (try dsimp only at hSw)
    go_simp
    with_reducible rfl
  try simp only [Act.put, List.setIfInBounds_toArray, List.set_cons_zero, List.set_cons_succ]
  refine wpAnyH_take (i := 9) (oi := _) (v := ?_) rfl (by kernel_rfl) (by kernel_rfl) (by kernel_rfl) (fun _ _ _ h => h) (Or.inl ⟨by rfl, ?_⟩) (by assumption) ?_
  rotate_left
  · intro w hSw
    (try dsimp only at hSw)
    go_simp
    with_reducible rfl
  try simp only [Act.put, List.setIfInBounds_toArray, List.set_cons_zero, List.set_cons_succ]
  refine wpAnyH_take (i := 10) (oi := _) (v := ?_) rfl (by kernel_rfl) (by kernel_rfl) (by kernel_rfl) (fun _ _ _ h => h) (Or.inl ⟨by rfl, ?_⟩) (by assumption) ?_
  rotate_left
  · intro w hSw
    (try dsimp only at hSw)
    go_simp
    with_reducible rfl
  try simp only [Act.put, List.setIfInBounds_toArray, List.set_cons_zero, List.set_cons_succ]
  refine wpAnyH_take (i := 11) (oi := _) (v := ?_) rfl (by kernel_rfl) (by kernel_rfl) (by kernel_rfl) (fun _ _ _ h => h) (Or.inl ⟨by rfl, ?_⟩) (by assumption) ?_
  rotate_left
  · intro w hSw
    (try dsimp only at hSw)
    go_simp
    with_reducible rfl
  try simp only [Act.put, List.setIfInBounds_toArray, List.set_cons_zero, List.set_cons_succ]
  refine wpAnyH_take (i := 12) (oi := _) (v := ?_) rfl (by kernel_rfl) (by kernel_rfl) (by kernel_rfl) (fun _ _ _ h => h) (Or.inl ⟨by rfl, ?_⟩) (by assumption) ?_
  rotate_left
  · intro w hSw
    (try dsimp only at hSw)
    go_simp
    with_reducible rfl
  try simp only [Act.put, List.setIfInBounds_toArray, List.set_cons_zero, List.set_cons_succ]
  refine wpAnyH_take (i := 13) (oi := _) (v := ?_) rfl (by kernel_rfl) (by kernel_rfl) (by kernel_rfl) (fun _ _ _ h => h) (Or.inl ⟨by rfl, ?_⟩) (by assumption) ?_
  rotate_left
  · intro w hSw
    (try dsimp only at hSw)
    go_simp
    with_reducible rfl
  try simp only [Act.put, List.setIfInBounds_toArray, List.set_cons_zero, List.set_cons_succ]
  have c13 := hg.l.l.l.r.c 13 (v := .int .i64 x.addr) rfl
  have f13 := hg.l.l.l.r.fr 13
  have g9 : Goes (Sep (Sep (Sep (Sep (Core A c q) (LThr b t ov lg n { x with addr := ((c.glob N : Nat) : Int) } l X)) (Var vb #[.int .i64 8, .int .i64 (o.a : Int), .int .i64 (j : Int), .int .i64 (o.c : Int), .int .i64 (N : Int), .complex .f64 o.z1 o.z2] 26)) (Var rb #[.int .i64 0, .int .i64 0, .int .i64 0, .bool false, .complex .f64 0 0] 41)) (Var pb #[.bool false, .complex .f64 0 0] 39)) S w (w8.setCell ⟨b, 13, none⟩ (.int .i64 ((c.glob N : Nat) : Int))) := hg.then fun S h => goesL (fun S h => goesL (fun S h => goesL (fun S h => goesR (fun S h => (Goes.begin h).put 13 (.int .i64 ((c.glob N : Nat) : Int)) (cs' := thCells t ov (.slice (some ⟨lg, 0, none⟩) n n) { x with addr := ((c.glob N : Nat) : Int) }) rfl) S h) S h) S h) S h
  clear hHeld
  clear hg
  have hg := g9
  clear g9
  refine wpAnyH_ready (rs := [14]) (by kernel_rfl) (by simp) ?_
  refine AllReadyH.cons (o := _) rfl (fun K hK => ?_) AllReadyH.nil
  go_simp
  go_wp2_with fail
  refine hK.out _ _ ⟨hg.l.l.l.l.c 0 (v := .int .i64 c.frags) rfl, hg.l.l.l.l.c 1 (v := .int .i64 c.spine) rfl, hg.l.l.l.l.c 2 (v := .int .i64 c.globals) rfl, hg.l.l.l.l.c 3 (v := .int .i64 c.threads) rfl, hg.l.l.l.l.c 4 (v := .int .i64 c.locals) rfl, hg.l.l.l.l.c 5 (v := .int .i64 0) rfl, hg.l.l.l.l.c 6 (v := .int .i64 c.stack) rfl, hg.l.l.l.l.c 7 (v := .int .i64 c.low) rfl, hg.l.l.l.l.c 8 (v := .slice (some ⟨A.g, 0, none⟩) c.shapes.length A.cap) rfl, hg.l.l.r.vc 4 (v := .int .i64 (N : Int)) rfl⟩ (fun hHeld => ?_)
  clear hK K
  try simp only [Act.put, List.setIfInBounds_toArray, List.set_cons_zero, List.set_cons_succ]
  refine wpAnyH_done (by kernel_rfl) ?_ _
  clear hHeld c13 f13
  generalize World.setCell _ _ _ = w9 at *
  have c14 := hg.l.l.l.r.c 14 (v := .bool x.ref) rfl
  have f14 := hg.l.l.l.r.fr 14
  have g10 : Goes (Sep (Sep (Sep (Sep (Core A c q) (LThr b t ov lg n { x with addr := ((c.glob N : Nat) : Int), ref := true } l X)) (Var vb #[.int .i64 8, .int .i64 (o.a : Int), .int .i64 (j : Int), .int .i64 (o.c : Int), .int .i64 (N : Int), .complex .f64 o.z1 o.z2] 26)) (Var rb #[.int .i64 0, .int .i64 0, .int .i64 0, .bool false, .complex .f64 0 0] 41)) (Var pb #[.bool false, .complex .f64 0 0] 39)) S w (w9.setCell ⟨b, 14, none⟩ (.bool true)) := hg.then fun S h => goesL (fun S h => goesL (fun S h => goesL (fun S h => goesR (fun S h => (Goes.begin h).put 14 (.bool true) (cs' := thCells t ov (.slice (some ⟨lg, 0, none⟩) n n) { x with addr := ((c.glob N : Nat) : Int), ref := true }) rfl) S h) S h) S h) S h
  clear hg
  go_upto_region 23 with fail
  generalize w9.setCell _ _ = w10 at *
  clear c14 f14
  have p0 := g10.l.l.r.vc 0 (v := .int .i64 8) rfl
  have p1 := g10.l.l.r.vc 1 (v := .int .i64 (o.a : Int)) rfl
  have p2 := g10.l.l.r.vc 2 (v := .int .i64 (j : Int)) rfl
  have p3 := g10.l.l.r.vc 3 (v := .int .i64 (o.c : Int)) rfl
  have p4 := g10.l.l.r.vc 4 (v := .int .i64 (N : Int)) rfl
  have p5 := g10.l.l.r.vc 5 (v := .complex .f64 o.z1 o.z2) rfl
  have HRC := Lib.hid (HCH.out _ _ g10)
  clear HCH g10
  go_wp2_with fail
  with_reducible refine HRC.out.mono ?_
  rintro e w11 ⟨rfl, hg⟩
  have HR2 := Lib.hid (HR.out _ _ hg)
  clear HRC hg HR p0 p1 p2 p3 p4 p5
  go_wp2_with fail
  with_reducible refine HR2.out.mono ?_
  rintro e w12 ⟨rfl, hgx⟩
  have hg := hgx.l
  clear HR2 hgx
  have q0_ := hg.r.vc 0 (v := .int .i64 0) rfl
  have p0_ := hg.r.vf 0
  have q1_ := hg.r.vc 1 (v := .int .i64 0) rfl
  have p1_ := hg.r.vf 1
  have q2_ := hg.r.vc 2 (v := .int .i64 0) rfl
  have p2_ := hg.r.vf 2
  have q3_ := hg.r.vc 3 (v := .bool false) rfl
  have p3_ := hg.r.vf 3
  have q4_ := hg.r.vc 4 (v := .complex .f64 0 0) rfl
  have p4_ := hg.r.vf 4
  have g8_ := hg.then fun S h => goesR (fun S h => (((((Goes.begin h).vput 0 (.int .i64 (x.nx)) rfl).vput 1 (.int .i64 (x.own)) rfl).vput 2 (.int .i64 (0)) rfl).vput 3 (.bool (false)) rfl).vput 4 (.complex .f64 0 0) rfl) S h
  have k0_ := g8_.r.vc 0 (v := .int .i64 (x.nx)) rfl
  have k1_ := g8_.r.vc 1 (v := .int .i64 (x.own)) rfl
  have k2_ := g8_.r.vc 2 (v := .int .i64 (0)) rfl
  have k3_ := g8_.r.vc 3 (v := .bool (false)) rfl
  have k4_ := g8_.r.vc 4 (v := .complex .f64 0 0) rfl
  have HF := Lib.hid g8_.l
  clear hg g8_
  go_wp2_with fail
  (try rw [via_ret])
  exact bodyPost_ret (v := .tuple #[.agg #[.int .i64 (x.nx), .int .i64 (x.own), .int .i64 (0), .bool (false), .complex .f64 0 0], .bool true]) (by simp [results, Tryz.results110, go_sem, k0_, k1_, k2_, k3_, k4_]) rfl ⟨rfl, HF.out.l⟩
end
end Go.Proofs.YtnkgnhpapcnebaaGreat
