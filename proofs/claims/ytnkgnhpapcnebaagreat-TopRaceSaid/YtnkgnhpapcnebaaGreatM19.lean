/- A thread: it writes a word. -/
import Derived.Test.YtnkgnhpapcnebaaGreatM18
set_option linter.unusedVariables false
set_option linter.unusedSimpArgs false
set_option maxHeartbeats 8000000
namespace Go.Proofs.YtnkgnhpapcnebaaGreat
open Go.RowKit
attribute [local go_sem] run_store_complex via_ret via_normal via_exit via_panic
section
variable {b t : Nat} {ov lv : Value} {x : Tc} {X : Thing} {S : Nat → Prop} {w w' : World} {A : CA} {c : Cf} {q : Q} {lg n : Nat} {l : Nat → Lc}
set_option maxRecDepth 100000 in
theorem act_stores_write {ad : Nat} {m' : Mq} (hc : c.ok) (hat : x.at_ = 6) (hx : x.addr = (ad : Int)) (had : ad < c.words) (hm : ∀ f, MemOk c q.m f → MemOk c m' (setV f ad (.complex .f64 x.w1 x.w2)))
    (hph : x.ph = 2) (hnx : x.nx ≤ 1000) (h : (Sep (Core A c q) (Thr b t ov lv x X)).at_ S w) :
    Calls Tryz.prog 117 #[.pointer (some ⟨b, 0, none⟩), .pointer (some ⟨A.b, 0, none⟩)] w fun e w' => e = .returned (Rs.v ⟨x.nx, x.own, 0, false, 0, 0, true⟩) ∧ Goes (Sep (Core A c { q with m := m' }) (Thr b t ov lv x.next X)) S w w' := by
  obtain ⟨x, rfl⟩ : ∃ y : Tc, x = { y with addr := (ad : Int), at_ := 6 } := ⟨x, by rw [← hx, ← hat]⟩
  have g0 := (Goes.begin h).moreSt (St.fresh zeroRes 41)
  obtain ⟨rb, hrb⟩ : ∃ k, w.heap.size = k := ⟨_, rfl⟩
  rw [hrb] at g0
  have c11 := g0.l.r.c 11 (v := .int .i64 6) rfl
  have g1 := g0.drew_
  have k9 := g1.l.l.c 9 (v := .pointer (some ⟨A.bm, 0, none⟩)) rfl
  have c13 := g1.l.r.c 13 (v := .int .i64 (ad : Int)) rfl
  have c16 := g1.l.r.c 16 (v := .complex .f64 x.w1 x.w2) rfl
  have HL := Lib.hid ((core_mem (m := fun _ => m') (memi_write ad x.w1 x.w2 hc had hm _)).l.l.on g1)
  unfold Rs.v
  simp only [zeroRes] at *
  clear h g0 g1 hc hm hx hat
  go_enter Tryz.func117, Tryz.ntmps117
  go_upto_region 1 with fail
  generalize w.alloc _ = w1 at *
  go_wp2_with fail
  refine wp_scope_via 1 fun F hF => ?_
  go_wp2_with fail
  refine wp_goto (show Exit.via F _ _ 1 (.goto 2) _ _ from ⟨_, by rw [hF.out]; rfl, ?_⟩)
  clear hF
  go_wp2_with fail
  go_still_tail 14, (by kernel_rfl)
  change wpList _ _ _ _ _ w1.drew
  generalize w1.drew = w2 at *
  go_wp2_with fail
  with_reducible refine HL.out.mono ?_
  rintro e w3 ⟨_, rfl, hg⟩
  have HD := Lib.hid (hg.call (sepL (sepR fun S h => act_done_ok (x := { x with addr := (ad : Int), at_ := 6 }) (r := false) (z1 := 0) (z2 := 0) hph hnx h)))
  unfold resV at HD
  clear HL hg k9 c13 c16 c11
  go_wp2_with fail
  with_reducible refine HD.out.mono ?_
  rintro e w4 ⟨rfl, hgx⟩
  have hg : Goes (Sep (Sep (Core A c { q with m := m' }) (Thr b t ov lv (Tc.next { x with addr := (ad : Int), at_ := 6 }) X)) (Var rb #[.int .i64 0, .int .i64 0, .int .i64 0, .bool false, .complex .f64 0 0] 41)) S w w4 := hgx
  clear hgx HD
  have q0_ := hg.r.vc 0 (v := .int .i64 0) rfl
  have p0_ := hg.r.vf 0
  have q1_ := hg.r.vc 1 (v := .int .i64 0) rfl
  have p1_ := hg.r.vf 1
  have q2_ := hg.r.vc 2 (v := .int .i64 0) rfl
  have p2_ := hg.r.vf 2
  have q3_ := hg.r.vc 3 (v := .bool false) rfl
  have p3_ := hg.r.vf 3
  have q4_ := hg.r.vc 4 (v := .complex .f64 0 0) rfl
  have p4_ := hg.r.vf 4
  have g8_ := hg.then fun S h => goesR (fun S h => (((((Goes.begin h).vput 0 (.int .i64 (x.nx)) rfl).vput 1 (.int .i64 (x.own)) rfl).vput 2 (.int .i64 (0)) rfl).vput 3 (.bool (false)) rfl).vput 4 (.complex .f64 0 0) rfl) S h
  have k0_ := g8_.r.vc 0 (v := .int .i64 (x.nx)) rfl
  have k1_ := g8_.r.vc 1 (v := .int .i64 (x.own)) rfl
  have k2_ := g8_.r.vc 2 (v := .int .i64 (0)) rfl
  have k3_ := g8_.r.vc 3 (v := .bool (false)) rfl
  have k4_ := g8_.r.vc 4 (v := .complex .f64 0 0) rfl
  have HF := Lib.hid g8_.l
  clear hg g8_
  go_wp2_with fail
  (try rw [via_ret])
  exact bodyPost_ret (v := .tuple #[.agg #[.int .i64 (x.nx), .int .i64 (x.own), .int .i64 (0), .bool (false), .complex .f64 0 0], .bool true]) (by simp [results, Tryz.results117, go_sem, k0_, k1_, k2_, k3_, k4_]) rfl ⟨rfl, HF.out⟩
set_option maxRecDepth 100000 in
theorem act_stores_grey (hF : c.F ≤ 16) (hat : x.at_ = 5) (hw1 : x.w1 = fl (c.F + 1)) (hw2 : x.w2 = fl 1) (h : (Sep (Core A c q) (Thr b t ov lv x X)).at_ S w) :
    Calls Tryz.prog 117 #[.pointer (some ⟨b, 0, none⟩), .pointer (some ⟨A.b, 0, none⟩)] w fun e w' => e = .returned (Rs.v ⟨0, 0, 0, false, 0, 0, false⟩) ∧ Goes (Sep (Core A c q) (Thr b t ov lv { x with at_ := 6 } X)) S w w' := by
  obtain ⟨x, rfl⟩ : ∃ y : Tc, x = { y with at_ := 5, w1 := fl (c.F + 1), w2 := fl 1 } := ⟨x, by rw [← hat, ← hw1, ← hw2]⟩
  have g0 := (Goes.begin h).moreSt (St.fresh zeroRes 41)
  obtain ⟨rb, hrb⟩ : ∃ k, w.heap.size = k := ⟨_, rfl⟩
  rw [hrb] at g0
  have c11 := g0.l.r.c 11 (v := .int .i64 5) rfl
  have c16 := g0.l.r.c 16 (v := .complex .f64 (fl (c.F + 1)) (fl 1)) rfl
  have g1 := g0.drew_
  have k10 := g1.l.l.c 10 (v := .pointer (some ⟨A.bs, 0, none⟩)) rfl
  have c5 := g1.l.r.c 5 (v := .bool x.sn) rfl
  have HL := Lib.hid ((core_sh (shi_grey x.sn _)).l.l.on g1)
  have HI := Lib.hid fun w => word_index (c.F + 1) 1 w (by omega) (by omega)
  rw [show ixB (c.F + 1) 1 = true by unfold ixB; simp, show ixI (c.F + 1) 1 = c.F by unfold ixI ixB; simp] at HI
  unfold Rs.v
  unfold cx at HI
  generalize fl (c.F + 1) = z1 at *
  generalize fl 1 = z2 at *
  simp only [zeroRes] at *
  clear h g0 g1 hat hw1 hw2
  go_enter Tryz.func117, Tryz.ntmps117
  go_upto_region 1 with fail
  generalize w.alloc _ = w1 at *
  go_wp2_with fail
  refine wp_scope_via 2 fun F hF => ?_
  go_wp2_with fail
  refine wp_goto (show Exit.via F _ _ 2 (.goto 1) _ _ from ⟨_, by rw [hF.out]; rfl, ?_⟩)
  go_wp2_with fail
  with_reducible refine (HI.out _).mono ?_
  rintro e w3 ⟨rfl, rfl⟩
  clear HI
  go_wp2_with fail
  go_still_tail 9, (by kernel_rfl)
  change wpList _ _ _ _ _ w1.drew
  generalize w1.drew = w2 at *
  go_wp2_with fail
  with_reducible refine HL.out.mono ?_
  rintro e w3 ⟨r, ⟨rfl, _⟩, hgx⟩
  have hg0 : Goes (Sep (Sep (Core A c q) (Thr b t ov lv { x with at_ := 5, w1 := z1, w2 := z2 } X)) (Var rb #[.int .i64 0, .int .i64 0, .int .i64 0, .bool false, .complex .f64 0 0] 41)) S w w3 := hgx
  have d11 := hg0.l.r.c 11 (v := .int .i64 5) rfl
  have f11 := hg0.l.r.fr 11
  have hg := hg0.then fun S h => goesL (fun S h => goesR (B' := Thr b t ov lv { x with at_ := 6, w1 := z1, w2 := z2 } X) (fun S h => (Goes.begin h).put 11 (.int .i64 6) (cs' := thCells t ov lv { x with at_ := 6, w1 := z1, w2 := z2 }) rfl) S h) S h
  clear hgx HL k10 c5 c11 c16
  go_wp2_with fail
  refine wp_goto (show Exit.via F _ _ 1 (.goto 4) _ _ from ⟨_, by rw [hF.out]; rfl, ?_⟩)
  clear hF hg0
  generalize World.setCell _ _ _ = w6 at *
  have q0_ := hg.r.vc 0 (v := .int .i64 0) rfl
  have p0_ := hg.r.vf 0
  have q1_ := hg.r.vc 1 (v := .int .i64 0) rfl
  have p1_ := hg.r.vf 1
  have q2_ := hg.r.vc 2 (v := .int .i64 0) rfl
  have p2_ := hg.r.vf 2
  have q3_ := hg.r.vc 3 (v := .bool false) rfl
  have p3_ := hg.r.vf 3
  have q4_ := hg.r.vc 4 (v := .complex .f64 0 0) rfl
  have p4_ := hg.r.vf 4
  have g8_ := hg.then fun S h => goesR (fun S h => (((((Goes.begin h).vput 0 (.int .i64 (0)) rfl).vput 1 (.int .i64 (0)) rfl).vput 2 (.int .i64 (0)) rfl).vput 3 (.bool (false)) rfl).vput 4 (.complex .f64 0 0) rfl) S h
  have k0_ := g8_.r.vc 0 (v := .int .i64 (0)) rfl
  have k1_ := g8_.r.vc 1 (v := .int .i64 (0)) rfl
  have k2_ := g8_.r.vc 2 (v := .int .i64 (0)) rfl
  have k3_ := g8_.r.vc 3 (v := .bool (false)) rfl
  have k4_ := g8_.r.vc 4 (v := .complex .f64 0 0) rfl
  have HF := Lib.hid g8_.l
  clear hg g8_
  go_wp2_with fail
  (try rw [via_ret])
  exact bodyPost_ret (v := .tuple #[.agg #[.int .i64 (0), .int .i64 (0), .int .i64 (0), .bool (false), .complex .f64 0 0], .bool false]) (by simp [results, Tryz.results117, go_sem, k0_, k1_, k2_, k3_, k4_]) rfl ⟨rfl, HF.out⟩
end
end Go.Proofs.YtnkgnhpapcnebaaGreat
/- A thread: it writes a word. -/
namespace Go.Proofs.YtnkgnhpapcnebaaGreat
open Go.RowKit
attribute [local go_sem] run_store_complex via_ret via_normal via_exit via_panic
section
variable {b t : Nat} {ov lv : Value} {x : Tc} {X : Thing} {S : Nat → Prop} {w w' : World} {A : CA} {c : Cf} {q : Q} {lg n : Nat} {l : Nat → Lc}
set_option maxRecDepth 100000 in
theorem act_stores_old {F ad : Nat} (hc : c.ok) (hF : F ≤ 16) (hat : x.at_ = 3) (hx : x.addr = (ad : Int)) (had : ad < c.words) (hv : ∀ f, MemOk c q.m f → f ad = cx 0 1) (hw1 : x.w1 = fl (F + 1)) (hw2 : x.w2 = fl 1) (h : (Sep (Core A c q) (Thr b t ov lv x X)).at_ S w) :
    Calls Tryz.prog 117 #[.pointer (some ⟨b, 0, none⟩), .pointer (some ⟨A.b, 0, none⟩)] w fun e w' => e = .returned (Rs.v ⟨0, 0, 0, false, 0, 0, false⟩) ∧ Goes (Sep (Core A c q) (Thr b t ov lv { x with at_ := if bth x.st then 5 else 6, o1 := fl 0, o2 := fl 1 } X)) S w w' := by
  obtain ⟨x, rfl⟩ : ∃ y : Tc, x = { y with addr := (ad : Int), at_ := 3, w1 := fl (F + 1), w2 := fl 1 } := ⟨x, by rw [← hx, ← hat, ← hw1, ← hw2]⟩
  have g0 := (Goes.begin h).moreSt (St.fresh zeroRes 41)
  obtain ⟨rb, hrb⟩ : ∃ k, w.heap.size = k := ⟨_, rfl⟩
  rw [hrb] at g0
  have c11 := g0.l.r.c 11 (v := .int .i64 3) rfl
  have g1 := g0.drew_
  have HL := Lib.hid ((core_memR (memi_read ad hc had _)).l.l.on g1)
  have HV := Lib.hid hv
  have HI := Lib.hid fun w => word_is 0 1 w (by omega) (by omega)
  rw [show ((1 : Nat) == 1) = true from rfl] at HI
  have HX := Lib.hid fun w => word_index 0 1 w (by omega) (by omega)
  rw [show ixI 0 1 = 0 from rfl, show ixB 0 1 = false from rfl] at HX
  have HBH := Lib.hid fun w5 (hg : Goes (Sep (Sep (Core A c q) (Thr b t ov lv { x with addr := (ad : Int), at_ := 3, w1 := fl (F + 1), w2 := fl 1, o1 := fl 0, o2 := fl 1 } X)) (Var rb zeroRes 41)) S w w5) => act_behind hF rfl rfl hg.l.r.is
  dsimp only at HBH
  generalize hk5 : (if bth x.st = true then (5 : Int) else 6) = k5 at *
  unfold Rs.v
  unfold cx at *
  generalize fl (F + 1) = z1 at *
  generalize fl 1 = z2 at *
  generalize fl 0 = z0 at *
  simp only [zeroRes] at *
  clear h g0 hv hc hat hx hw1 hw2 hk5
  go_enter Tryz.func117, Tryz.ntmps117
  go_upto_region 1 with fail
  generalize w.alloc _ = w1 at *
  go_wp2_with fail
  refine wp_scope_via 2 fun F hF => ?_
  go_wp2_with fail
  refine wp_region_held_drew (S := fun w' => w'.cell? ⟨A.b, 9, none⟩ = some (.pointer (some ⟨A.bm, 0, none⟩)) ∧ w'.cell? ⟨b, 13, none⟩ = some (.int .i64 (ad : Int))) (by kernel_rfl) ⟨g1.l.l.c 9 (v := .pointer (some ⟨A.bm, 0, none⟩)) rfl, g1.l.r.c 13 (v := .int .i64 (ad : Int)) rfl⟩ (fun hHeld => ?_)
  refine wpAnyH_take (i := 0) (oi := _) (v := ?_) rfl (by kernel_rfl) (by kernel_rfl) (by kernel_rfl) (fun _ _ _ h => h) (Or.inl ⟨by rfl, ?_⟩) (by assumption) ?_
  rotate_left
  · intro w hSw
    (try dsimp only at hSw)
    go_simp
    with_reducible rfl
  try simp only [Act.put, List.setIfInBounds_toArray, List.set_cons_zero, List.set_cons_succ]
  refine wpAnyH_take (i := 1) (oi := _) (v := ?_) rfl (by kernel_rfl) (by kernel_rfl) (by kernel_rfl) (fun _ _ _ h => h) (Or.inl ⟨by rfl, ?_⟩) (by assumption) ?_
  rotate_left
  · intro w hSw
    (try dsimp only at hSw)
    go_simp
    with_reducible rfl
  try simp only [Act.put, List.setIfInBounds_toArray, List.set_cons_zero, List.set_cons_succ]
  refine wpAnyH_take (i := 2) (oi := _) (v := ?_) rfl (by kernel_rfl) (by kernel_rfl) (by kernel_rfl) (fun _ _ _ h => h) (Or.inl ⟨by rfl, ?_⟩) (by assumption) ?_
  rotate_left
  · intro w hSw
    (try dsimp only at hSw)
    go_simp
    with_reducible rfl
  try simp only [Act.put, List.setIfInBounds_toArray, List.set_cons_zero, List.set_cons_succ]
  refine wpAnyH_take (i := 3) (oi := _) (v := ?_) rfl (by kernel_rfl) (by kernel_rfl) (by kernel_rfl) (fun _ _ _ h => h) (Or.inl ⟨by rfl, ?_⟩) (by assumption) ?_
  rotate_left
  · intro w hSw
    (try dsimp only at hSw)
    go_simp
    with_reducible rfl
  try simp only [Act.put, List.setIfInBounds_toArray, List.set_cons_zero, List.set_cons_succ]
  refine wpAnyH_take (i := 4) (oi := _) (v := ?_) rfl (by kernel_rfl) (by kernel_rfl) (by kernel_rfl) (fun _ _ _ h => h) (Or.inl ⟨by rfl, ?_⟩) (by assumption) ?_
  rotate_left
  · intro w hSw
    (try dsimp only at hSw)
    go_simp
    with_reducible rfl
  try simp only [Act.put, List.setIfInBounds_toArray, List.set_cons_zero, List.set_cons_succ]
  refine wpAnyH_take (i := 5) (oi := _) (v := ?_) rfl (by kernel_rfl) (by kernel_rfl) (by kernel_rfl) (fun _ _ _ h => h) (Or.inl ⟨by rfl, ?_⟩) (by assumption) ?_
  rotate_left
  · intro w hSw
    (try dsimp only at hSw)
    go_simp
    with_reducible rfl
  try simp only [Act.put, List.setIfInBounds_toArray, List.set_cons_zero, List.set_cons_succ]
  refine wpAnyH_take (i := 6) (oi := _) (v := ?_) rfl (by kernel_rfl) (by kernel_rfl) (by kernel_rfl) (fun _ _ _ h => h) (Or.inl ⟨by rfl, ?_⟩) (by assumption) ?_
  rotate_left
  · intro w hSw
    (try dsimp only at hSw)
    go_simp
    with_reducible rfl
  try simp only [Act.put, List.setIfInBounds_toArray, List.set_cons_zero, List.set_cons_succ]
  refine wpAnyH_take (i := 7) (oi := _) (v := ?_) rfl (by kernel_rfl) (by kernel_rfl) (by kernel_rfl) (fun _ _ _ h => h) (Or.inl ⟨by rfl, ?_⟩) (by assumption) ?_
  rotate_left
  · intro w hSw
    (try dsimp only at hSw)
    go_simp
    with_reducible rfl
  try simp only [Act.put, List.setIfInBounds_toArray, List.set_cons_zero, List.set_cons_succ]
  refine wpAnyH_take (i := 8) (oi := _) (v := ?_) rfl (by kernel_rfl) (by kernel_rfl) (by kernel_rfl) (fun _ _ _ h => h) (Or.inl ⟨by rfl, ?_⟩) (by assumption) ?_
  rotate_left
  · intro w hSw
    (try dsimp only at hSw)
    go_simp
    with_reducible rfl
  try simp only [Act.put, List.setIfInBounds_toArray, List.set_cons_zero, List.set_cons_succ]
  refine wpAnyH_take (i := 9) (oi := _) (v := ?_) rfl (by kernel_rfl) (by kernel_rfl) (by kernel_rfl) (fun _ _ _ h => h) (Or.inl ⟨by rfl, ?_⟩) (by assumption) ?_
  rotate_left
  · intro w hSw
    (try dsimp only at hSw)
    go_simp
    with_reducible rfl
  try simp only [Act.put, List.setIfInBounds_toArray, List.set_cons_zero, List.set_cons_succ]
  refine wpAnyH_ready (rs := [10]) (by kernel_rfl) (by simp) ?_
  refine AllReadyH.cons (o := _) rfl (fun K hK => ?_) AllReadyH.nil
  go_simp
  with_reducible refine HL.out.mono ?_
  rintro e w3 ⟨v, ⟨rfl, f, hf, rfl⟩, hgx⟩
  have hg : Goes (Sep (Sep (Core A c q) (Thr b t ov lv { x with addr := (ad : Int), at_ := 3, w1 := z1, w2 := z2 } X)) (Var rb #[.int .i64 0, .int .i64 0, .int .i64 0, .bool false, .complex .f64 0 0] 41)) S w w3 := hgx
  rw [HV.out f hf]
  clear HL hHeld hf hgx g1
  go_wp2_with fail
  refine hK.out _ _ ⟨hg.l.l.c 9 (v := .pointer (some ⟨A.bm, 0, none⟩)) rfl, hg.l.r.c 13 (v := .int .i64 (ad : Int)) rfl⟩ (fun hHeld => ?_)
  clear hK K
  try simp only [Act.put, List.setIfInBounds_toArray, List.set_cons_zero, List.set_cons_succ]
  refine wpAnyH_take (i := 11) (oi := _) (v := ?_) rfl (by kernel_rfl) (by kernel_rfl) (by kernel_rfl) (fun _ _ _ h => h) (Or.inl ⟨by rfl, ?_⟩) (by assumption) ?_
  rotate_left
  · intro w hSw
    (try dsimp only at hSw)
    go_simp
    with_reducible rfl
  try simp only [Act.put, List.setIfInBounds_toArray, List.set_cons_zero, List.set_cons_succ]
  refine wpAnyH_take (i := 12) (oi := _) (v := ?_) rfl (by kernel_rfl) (by kernel_rfl) (by kernel_rfl) (fun _ _ _ h => h) (Or.inl ⟨by rfl, ?_⟩) (by assumption) ?_
  rotate_left
  · intro w hSw
    (try dsimp only at hSw)
    go_simp
    with_reducible rfl
  try simp only [Act.put, List.setIfInBounds_toArray, List.set_cons_zero, List.set_cons_succ]
  refine wpAnyH_take (i := 13) (oi := _) (v := ?_) rfl (by kernel_rfl) (by kernel_rfl) (by kernel_rfl) (fun _ _ _ h => h) (Or.inl ⟨by rfl, ?_⟩) (by assumption) ?_
  rotate_left
  · intro w hSw
    (try dsimp only at hSw)
    go_simp
    with_reducible rfl
  try simp only [Act.put, List.setIfInBounds_toArray, List.set_cons_zero, List.set_cons_succ]
  refine wpAnyH_take (i := 14) (oi := _) (v := ?_) rfl (by kernel_rfl) (by kernel_rfl) (by kernel_rfl) (fun _ _ _ h => h) (Or.inl ⟨by rfl, ?_⟩) (by assumption) ?_
  rotate_left
  · intro w hSw
    (try dsimp only at hSw)
    go_simp
    with_reducible rfl
  try simp only [Act.put, List.setIfInBounds_toArray, List.set_cons_zero, List.set_cons_succ]
  refine wpAnyH_take (i := 15) (oi := _) (v := ?_) rfl (by kernel_rfl) (by kernel_rfl) (by kernel_rfl) (fun _ _ _ h => h) (Or.inl ⟨by rfl, ?_⟩) (by assumption) ?_
  rotate_left
  · intro w hSw
    (try dsimp only at hSw)
    go_simp
    with_reducible rfl
  try simp only [Act.put, List.setIfInBounds_toArray, List.set_cons_zero, List.set_cons_succ]
  refine wpAnyH_take (i := 16) (oi := _) (v := ?_) rfl (by kernel_rfl) (by kernel_rfl) (by kernel_rfl) (fun _ _ _ h => h) (Or.inl ⟨by rfl, ?_⟩) (by assumption) ?_
  rotate_left
  · intro w hSw
    (try dsimp only at hSw)
    go_simp
    with_reducible rfl
  try simp only [Act.put, List.setIfInBounds_toArray, List.set_cons_zero, List.set_cons_succ]
  have d15 := hg.l.r.c 15 (v := .complex .f64 x.o1 x.o2) rfl
  have f15 := hg.l.r.fr 15
  have hg2 := hg.then fun S h => goesL (fun S h => goesR (B' := Thr b t ov lv { x with addr := (ad : Int), at_ := 3, w1 := z1, w2 := z2, o1 := z0, o2 := z2 } X) (fun S h => (Goes.begin h).put 15 (.complex .f64 z0 z2) (cs' := thCells t ov lv { x with addr := (ad : Int), at_ := 3, w1 := z1, w2 := z2, o1 := z0, o2 := z2 }) rfl) S h) S h
  refine wpAnyH_ready (rs := [17]) (by kernel_rfl) (by simp) ?_
  refine AllReadyH.cons (o := _) rfl (fun K hK => ?_) AllReadyH.nil
  go_simp
  refine hK.out _ _ ⟨hg2.l.l.c 9 (v := .pointer (some ⟨A.bm, 0, none⟩)) rfl, hg2.l.r.c 13 (v := .int .i64 (ad : Int)) rfl⟩ (fun hHeld => ?_)
  clear hK K hg d15 f15
  try simp only [Act.put, List.setIfInBounds_toArray, List.set_cons_zero, List.set_cons_succ]
  generalize World.setCell _ _ _ = w4 at *
  refine wpAnyH_ready (rs := [18]) (by kernel_rfl) (by simp) ?_
  refine AllReadyH.cons (o := _) rfl (fun K hK => ?_) AllReadyH.nil
  go_simp
  refine hK.out _ _ ⟨hg2.l.l.c 9 (v := .pointer (some ⟨A.bm, 0, none⟩)) rfl, hg2.l.r.c 13 (v := .int .i64 (ad : Int)) rfl⟩ (fun hHeld => ?_)
  clear hK K
  try simp only [Act.put, List.setIfInBounds_toArray, List.set_cons_zero, List.set_cons_succ]
  refine wpAnyH_done (by kernel_rfl) ?_ _
  have d15 := hg2.l.r.c 15 (v := .complex .f64 z0 z2) rfl
  have HB2 := Lib.hid (HBH.out _ hg2)
  have HG2 := Lib.hid hg2
  clear hg2 HBH
  go_wp2_with fail
  with_reducible refine (HI.out _).mono ?_
  rintro e w5 ⟨rfl, rfl⟩
  go_wp2_with fail
  with_reducible refine (HX.out _).mono ?_
  rintro e w5 ⟨rfl, rfl⟩
  clear HI HX
  go_wp2_with fail
  refine wp_goto (show Exit.via F _ _ 2 (.goto 5) _ _ from ⟨_, by rw [hF.out]; rfl, ?_⟩)
  go_wp2_with fail
  with_reducible refine HB2.out.mono ?_
  rintro e w5 ⟨rfl, rfl⟩
  have hg0 := HG2.out
  have d11 := hg0.l.r.c 11 (v := .int .i64 3) rfl
  have f11 := hg0.l.r.fr 11
  have hg : Goes (Sep (Sep (Core A c q) (Thr b t ov lv { x with addr := (ad : Int), at_ := k5, w1 := z1, w2 := z2, o1 := z0, o2 := z2 } X)) (Var rb #[.int .i64 0, .int .i64 0, .int .i64 0, .bool false, .complex .f64 0 0] 41)) S w _ := hg0.then fun S h => goesL (fun S h => goesR (fun S h => (Goes.begin h).put 11 (.int .i64 k5) (cs' := thCells t ov lv { x with addr := (ad : Int), at_ := k5, w1 := z1, w2 := z2, o1 := z0, o2 := z2 }) rfl) S h) S h
  clear HB2 HG2 hg0 d15
  go_wp2_with fail
  refine wp_goto (show Exit.via F _ _ 1 (.goto 4) _ _ from ⟨_, by rw [hF.out]; rfl, ?_⟩)
  clear hF d11 f11
  generalize World.setCell _ _ _ = w6 at *
  have q0_ := hg.r.vc 0 (v := .int .i64 0) rfl
  have p0_ := hg.r.vf 0
  have q1_ := hg.r.vc 1 (v := .int .i64 0) rfl
  have p1_ := hg.r.vf 1
  have q2_ := hg.r.vc 2 (v := .int .i64 0) rfl
  have p2_ := hg.r.vf 2
  have q3_ := hg.r.vc 3 (v := .bool false) rfl
  have p3_ := hg.r.vf 3
  have q4_ := hg.r.vc 4 (v := .complex .f64 0 0) rfl
  have p4_ := hg.r.vf 4
  have g8_ := hg.then fun S h => goesR (fun S h => (((((Goes.begin h).vput 0 (.int .i64 (0)) rfl).vput 1 (.int .i64 (0)) rfl).vput 2 (.int .i64 (0)) rfl).vput 3 (.bool (false)) rfl).vput 4 (.complex .f64 0 0) rfl) S h
  have k0_ := g8_.r.vc 0 (v := .int .i64 (0)) rfl
  have k1_ := g8_.r.vc 1 (v := .int .i64 (0)) rfl
  have k2_ := g8_.r.vc 2 (v := .int .i64 (0)) rfl
  have k3_ := g8_.r.vc 3 (v := .bool (false)) rfl
  have k4_ := g8_.r.vc 4 (v := .complex .f64 0 0) rfl
  have HF := Lib.hid g8_.l
  clear hg g8_
  go_wp2_with fail
  (try rw [via_ret])
  exact bodyPost_ret (v := .tuple #[.agg #[.int .i64 (0), .int .i64 (0), .int .i64 (0), .bool (false), .complex .f64 0 0], .bool false]) (by simp [results, Tryz.results117, go_sem, k0_, k1_, k2_, k3_, k4_]) rfl ⟨rfl, HF.out⟩
end
end Go.Proofs.YtnkgnhpapcnebaaGreat
/- A thread: it makes an object's words. -/
namespace Go.Proofs.YtnkgnhpapcnebaaGreat
open Go.RowKit
attribute [local go_sem] run_store_complex via_ret via_normal via_exit via_panic
section
variable {b t : Nat} {ov lv : Value} {x : Tc} {X : Thing} {S : Nat → Prop} {w w' : World} {A : CA} {c : Cf} {q : Q} {lg n : Nat} {l : Nat → Lc}
set_option maxRecDepth 100000 in
theorem act_makes_last {ad y1 y2 : Nat} {m' : Mq} {v : Value} (hc : c.ok) (hwr : x.wr = v) (had : ad < c.words) (hm : ∀ f, MemOk c q.m f → MemOk c m' (setV f ad (.complex .f64 y1 y2)))
    (h : (Sep (Sep (Core A c q) (Thr b t ov lv x X)) (Seq 2 v 1 (.int .i64 (ad : Int) :: .complex .f64 y1 y2 :: []))).at_ S w) :
    Calls Tryz.prog 113 #[.pointer (some ⟨b, 0, none⟩), .pointer (some ⟨A.b, 0, none⟩)] w fun e w' => ∃ v', e = .returned (Rs.v ⟨0, 0, 0, false, 0, 0, false⟩) ∧ Goes (Sep (Core A c { q with m := m' }) (Thr b t ov lv { x with wr := v', at_ := 8 } X)) S w w' := by
  obtain ⟨gs, o, cp, rfl, h1, h2⟩ := seq_form (Goes.begin h).r.is
  obtain ⟨x, rfl⟩ : ∃ y : Tc, x = { y with wr := .slice (some ⟨gs, o, none⟩) 1 cp } := ⟨x, by rw [← hwr]⟩
  have g0 := (Goes.begin h).moreSt (St.fresh zeroRes 41)
  obtain ⟨rb, hrb⟩ : ∃ k, w.heap.size = k := ⟨_, rfl⟩
  rw [hrb] at g0
  have g1 := g0.drew_
  have k9 := g1.l.l.l.c 9 (v := .pointer (some ⟨A.bm, 0, none⟩)) rfl
  have c18 := g1.l.l.r.c 18 (v := .slice (some ⟨gs, o, none⟩) 1 cp) rfl
  have s0 := g1.l.r.seq (i := 0) (x := .int .i64 (ad : Int)) rfl
  have s1 := g1.l.r.seq (i := 1) (x := .complex .f64 y1 y2) rfl
  have HL := Lib.hid ((core_mem (m := fun _ => m') (memi_write ad y1 y2 hc had hm _)).l.l.l.on g1)
  simp only [Nat.add_zero] at s0
  unfold Rs.v
  simp only [zeroRes] at *
  clear h g0 g1 hc hm hwr
  go_enter Tryz.func113, Tryz.ntmps113
  go_upto_region 1 with fail
  generalize w.alloc _ = w1 at *
  go_still_tail 20, (by kernel_rfl)
  change wpList _ _ _ _ _ w1.drew
  generalize w1.drew = w2 at *
  go_wp2_with fail
  with_reducible refine HL.out.mono ?_
  rintro e w3 ⟨_, rfl, hgx⟩
  have hg0 : Goes (Sep (Sep (Sep (Core A c { q with m := m' }) (Thr b t ov lv { x with wr := .slice (some ⟨gs, o, none⟩) 1 cp } X)) (Seq 2 (.slice (some ⟨gs, o, none⟩) 1 cp) 1 (.int .i64 (ad : Int) :: .complex .f64 y1 y2 :: []))) (Var rb #[.int .i64 0, .int .i64 0, .int .i64 0, .bool false, .complex .f64 0 0] 41)) S w w3 := hgx
  have d18 := hg0.l.l.r.c 18 (v := .slice (some ⟨gs, o, none⟩) 1 cp) rfl
  have f18 := hg0.l.l.r.fr 18
  clear HL hgx k9 c18 s0 s1
  have hcw : cp = 1 ∨ 2 ≤ cp := by omega
  rcases hcw with rfl | hcw
  case inl =>
    have hg1 := (hg0.drop (Part.both (Part.left _ _) (Part.refl _))).then fun S h => goesL (fun S h => goesR (B' := Thr b t ov lv { x with wr := .slice (some ⟨gs, o, none⟩) 0 0 } X) (fun S h => (Goes.begin h).put 18 (.slice (some ⟨gs, o, none⟩) 0 0) (cs' := thCells t ov lv { x with wr := .slice (some ⟨gs, o, none⟩) 0 0 }) rfl) S h) S h
    have e18 := hg1.l.r.c 18 (v := .slice (some ⟨gs, o, none⟩) 0 0) rfl
    have e11 := hg1.l.r.c 11 (v := .int .i64 x.at_) rfl
    have f11 := hg1.l.r.fr 11
    have hg := hg1.then fun S h => goesL (fun S h => goesR (B' := Thr b t ov lv { x with wr := .slice (some ⟨gs, o, none⟩) 0 0, at_ := 8 } X) (fun S h => (Goes.begin h).put 11 (.int .i64 8) (cs' := thCells t ov lv { x with wr := .slice (some ⟨gs, o, none⟩) 0 0, at_ := 8 }) rfl) S h) S h
    clear hg0 hg1
    go_upto_region 6 with fail
    generalize World.setCell _ _ _ = w6 at *
    clear d18 f18 e18 e11 f11
    have q0_ := hg.r.vc 0 (v := .int .i64 0) rfl
    have p0_ := hg.r.vf 0
    have q1_ := hg.r.vc 1 (v := .int .i64 0) rfl
    have p1_ := hg.r.vf 1
    have q2_ := hg.r.vc 2 (v := .int .i64 0) rfl
    have p2_ := hg.r.vf 2
    have q3_ := hg.r.vc 3 (v := .bool false) rfl
    have p3_ := hg.r.vf 3
    have q4_ := hg.r.vc 4 (v := .complex .f64 0 0) rfl
    have p4_ := hg.r.vf 4
    have g8_ := hg.then fun S h => goesR (fun S h => (((((Goes.begin h).vput 0 (.int .i64 (0)) rfl).vput 1 (.int .i64 (0)) rfl).vput 2 (.int .i64 (0)) rfl).vput 3 (.bool (false)) rfl).vput 4 (.complex .f64 0 0) rfl) S h
    have k0_ := g8_.r.vc 0 (v := .int .i64 (0)) rfl
    have k1_ := g8_.r.vc 1 (v := .int .i64 (0)) rfl
    have k2_ := g8_.r.vc 2 (v := .int .i64 (0)) rfl
    have k3_ := g8_.r.vc 3 (v := .bool (false)) rfl
    have k4_ := g8_.r.vc 4 (v := .complex .f64 0 0) rfl
    have HF := Lib.hid g8_.l
    clear hg g8_
    go_wp2_with fail
    (try rw [via_ret])
    exact bodyPost_ret (v := .tuple #[.agg #[.int .i64 (0), .int .i64 (0), .int .i64 (0), .bool (false), .complex .f64 0 0], .bool false]) (by simp [results, Tryz.results113, go_sem, k0_, k1_, k2_, k3_, k4_]) rfl ⟨_, rfl, HF.out⟩
  case inr =>
    have hg1 := (hg0.drop (Part.both (Part.left _ _) (Part.refl _))).then fun S h => goesL (fun S h => goesR (B' := Thr b t ov lv { x with wr := .slice (some ⟨gs, o + 2, none⟩) 0 (cp - 1) } X) (fun S h => (Goes.begin h).put 18 (.slice (some ⟨gs, o + 2, none⟩) 0 (cp - 1)) (cs' := thCells t ov lv { x with wr := .slice (some ⟨gs, o + 2, none⟩) 0 (cp - 1) }) rfl) S h) S h
    have e18 := hg1.l.r.c 18 (v := .slice (some ⟨gs, o + 2, none⟩) 0 (cp - 1)) rfl
    have e11 := hg1.l.r.c 11 (v := .int .i64 x.at_) rfl
    have f11 := hg1.l.r.fr 11
    have hg := hg1.then fun S h => goesL (fun S h => goesR (B' := Thr b t ov lv { x with wr := .slice (some ⟨gs, o + 2, none⟩) 0 (cp - 1), at_ := 8 } X) (fun S h => (Goes.begin h).put 11 (.int .i64 8) (cs' := thCells t ov lv { x with wr := .slice (some ⟨gs, o + 2, none⟩) 0 (cp - 1), at_ := 8 }) rfl) S h) S h
    clear hg0 hg1
    go_upto_region 6 with fail
    generalize World.setCell _ _ _ = w6 at *
    clear d18 f18 e18 e11 f11
    have q0_ := hg.r.vc 0 (v := .int .i64 0) rfl
    have p0_ := hg.r.vf 0
    have q1_ := hg.r.vc 1 (v := .int .i64 0) rfl
    have p1_ := hg.r.vf 1
    have q2_ := hg.r.vc 2 (v := .int .i64 0) rfl
    have p2_ := hg.r.vf 2
    have q3_ := hg.r.vc 3 (v := .bool false) rfl
    have p3_ := hg.r.vf 3
    have q4_ := hg.r.vc 4 (v := .complex .f64 0 0) rfl
    have p4_ := hg.r.vf 4
    have g8_ := hg.then fun S h => goesR (fun S h => (((((Goes.begin h).vput 0 (.int .i64 (0)) rfl).vput 1 (.int .i64 (0)) rfl).vput 2 (.int .i64 (0)) rfl).vput 3 (.bool (false)) rfl).vput 4 (.complex .f64 0 0) rfl) S h
    have k0_ := g8_.r.vc 0 (v := .int .i64 (0)) rfl
    have k1_ := g8_.r.vc 1 (v := .int .i64 (0)) rfl
    have k2_ := g8_.r.vc 2 (v := .int .i64 (0)) rfl
    have k3_ := g8_.r.vc 3 (v := .bool (false)) rfl
    have k4_ := g8_.r.vc 4 (v := .complex .f64 0 0) rfl
    have HF := Lib.hid g8_.l
    clear hg g8_
    go_wp2_with fail
    (try rw [via_ret])
    exact bodyPost_ret (v := .tuple #[.agg #[.int .i64 (0), .int .i64 (0), .int .i64 (0), .bool (false), .complex .f64 0 0], .bool false]) (by simp [results, Tryz.results113, go_sem, k0_, k1_, k2_, k3_, k4_]) rfl ⟨_, rfl, HF.out⟩
set_option maxRecDepth 100000 in
theorem act_makes_on {r N : Nat} {rest : List Value} (hr : r ≤ 10) (hN : r + 2 = N) {ad y1 y2 : Nat} {m' : Mq} {v : Value} (hc : c.ok) (hwr : x.wr = v) (had : ad < c.words) (hm : ∀ f, MemOk c q.m f → MemOk c m' (setV f ad (.complex .f64 y1 y2)))
    (h : (Sep (Sep (Core A c q) (Thr b t ov lv x X)) (Seq 2 v N (.int .i64 (ad : Int) :: .complex .f64 y1 y2 :: rest))).at_ S w) :
    Calls Tryz.prog 113 #[.pointer (some ⟨b, 0, none⟩), .pointer (some ⟨A.b, 0, none⟩)] w fun e w' => ∃ v', e = .returned (Rs.v ⟨0, 0, 0, false, 0, 0, false⟩) ∧ Goes (Sep (Sep (Core A c { q with m := m' }) (Thr b t ov lv { x with wr := v' } X)) (Seq 2 v' (r + 1) rest)) S w w' := by
  obtain ⟨gs, o, cp, rfl, h1, h2⟩ := seq_form (Goes.begin h).r.is
  obtain ⟨x, rfl⟩ : ∃ y : Tc, x = { y with wr := .slice (some ⟨gs, o, none⟩) N cp } := ⟨x, by rw [← hwr]⟩
  have g0 := (Goes.begin h).moreSt (St.fresh zeroRes 41)
  obtain ⟨rb, hrb⟩ : ∃ k, w.heap.size = k := ⟨_, rfl⟩
  rw [hrb] at g0
  have g1 := g0.drew_
  have hN0 : 0 < N := by omega
  have hN1 : (0 : Int) < (N : Int) := by omega
  have hN2 : N ≤ 12 := by omega
  have hN3 : 2 ≤ N := by omega
  have k9 := g1.l.l.l.c 9 (v := .pointer (some ⟨A.bm, 0, none⟩)) rfl
  have c18 := g1.l.l.r.c 18 (v := .slice (some ⟨gs, o, none⟩) N cp) rfl
  have s0 := g1.l.r.seq (i := 0) (x := .int .i64 (ad : Int)) rfl
  have s1 := g1.l.r.seq (i := 1) (x := .complex .f64 y1 y2) rfl
  have HL := Lib.hid ((core_mem (m := fun _ => m') (memi_write ad y1 y2 hc had hm _)).l.l.l.on g1)
  simp only [Nat.add_zero] at s0
  unfold Rs.v
  simp only [zeroRes] at *
  clear h g0 g1 hc hm hwr
  go_enter Tryz.func113, Tryz.ntmps113
  go_upto_region 1 with fail
  generalize w.alloc _ = w1 at *
  go_still_tail 20, (by kernel_rfl)
  change wpList _ _ _ _ _ w1.drew
  generalize w1.drew = w2 at *
  go_wp2_with fail
  with_reducible refine HL.out.mono ?_
  rintro e w3 ⟨_, rfl, hgx⟩
  have hg0 : Goes (Sep (Sep (Sep (Core A c { q with m := m' }) (Thr b t ov lv { x with wr := .slice (some ⟨gs, o, none⟩) N cp } X)) (Seq 2 (.slice (some ⟨gs, o, none⟩) N cp) N (.int .i64 (ad : Int) :: .complex .f64 y1 y2 :: rest))) (Var rb #[.int .i64 0, .int .i64 0, .int .i64 0, .bool false, .complex .f64 0 0] 41)) S w w3 := hgx
  have d18 := hg0.l.l.r.c 18 (v := .slice (some ⟨gs, o, none⟩) N cp) rfl
  have f18 := hg0.l.l.r.fr 18
  clear HL hgx k9 c18 s0 s1
  have hg1 := hg0.then fun S h => goesL (fun S h => goesL (fun S h => goesR (B' := Thr b t ov lv { x with wr := .slice (some ⟨gs, o + 2, none⟩) (N - 1) (cp - 1) } X) (fun S h => (Goes.begin h).put 18 (.slice (some ⟨gs, o + 2, none⟩) (N - 1) (cp - 1)) (cs' := thCells t ov lv { x with wr := .slice (some ⟨gs, o + 2, none⟩) (N - 1) (cp - 1) }) rfl) S h) S h) S h
  have hg : Goes (Sep (Sep (Sep (Core A c { q with m := m' }) (Thr b t ov lv { x with wr := .slice (some ⟨gs, o + 2, none⟩) (N - 1) (cp - 1) } X)) (Seq 2 (.slice (some ⟨gs, o + 2, none⟩) (N - 1) (cp - 1)) (r + 1) rest)) (Var rb #[.int .i64 0, .int .i64 0, .int .i64 0, .bool false, .complex .f64 0 0] 41)) S w _ := hg1.conv fun S w h => sepAt.monoL (fun S h => sepAt.monoR (fun S h => (by subst hN; exact seq_tail (n := r + 1) (ys := [.int .i64 (ad : Int), .complex .f64 y1 y2]) rfl h)) h) h
  have e18 := hg.l.l.r.c 18 (v := .slice (some ⟨gs, o + 2, none⟩) (N - 1) (cp - 1)) rfl
  have hr2 : ¬ (N - 1 = 0) := by omega
  have hr3 : ¬ (((N - 1 : Nat) : Int) = 0) := by omega
  have hcw : 2 ≤ cp := by omega
  clear hg0 hg1
  go_upto_region 6 with fail
  generalize World.setCell _ _ _ = w6 at *
  clear d18 f18 e18
  have q0_ := hg.r.vc 0 (v := .int .i64 0) rfl
  have p0_ := hg.r.vf 0
  have q1_ := hg.r.vc 1 (v := .int .i64 0) rfl
  have p1_ := hg.r.vf 1
  have q2_ := hg.r.vc 2 (v := .int .i64 0) rfl
  have p2_ := hg.r.vf 2
  have q3_ := hg.r.vc 3 (v := .bool false) rfl
  have p3_ := hg.r.vf 3
  have q4_ := hg.r.vc 4 (v := .complex .f64 0 0) rfl
  have p4_ := hg.r.vf 4
  have g8_ := hg.then fun S h => goesR (fun S h => (((((Goes.begin h).vput 0 (.int .i64 (0)) rfl).vput 1 (.int .i64 (0)) rfl).vput 2 (.int .i64 (0)) rfl).vput 3 (.bool (false)) rfl).vput 4 (.complex .f64 0 0) rfl) S h
  have k0_ := g8_.r.vc 0 (v := .int .i64 (0)) rfl
  have k1_ := g8_.r.vc 1 (v := .int .i64 (0)) rfl
  have k2_ := g8_.r.vc 2 (v := .int .i64 (0)) rfl
  have k3_ := g8_.r.vc 3 (v := .bool (false)) rfl
  have k4_ := g8_.r.vc 4 (v := .complex .f64 0 0) rfl
  have HF := Lib.hid g8_.l
  clear hg g8_
  go_wp2_with fail
  (try rw [via_ret])
  exact bodyPost_ret (v := .tuple #[.agg #[.int .i64 (0), .int .i64 (0), .int .i64 (0), .bool (false), .complex .f64 0 0], .bool false]) (by simp [results, Tryz.results113, go_sem, k0_, k1_, k2_, k3_, k4_]) rfl ⟨_, rfl, HF.out⟩
end
end Go.Proofs.YtnkgnhpapcnebaaGreat
