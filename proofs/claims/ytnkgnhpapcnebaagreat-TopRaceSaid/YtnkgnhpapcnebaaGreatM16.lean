/- The contracts of package plan: Object. -/
import Derived.Test.YtnkgnhpapcnebaaGreatM15
import Derived.Lib.SliceRun
set_option linter.unusedVariables false
set_option linter.unusedSimpArgs false
set_option maxHeartbeats 8000000
namespace Go.Proofs.YtnkgnhpapcnebaaGreat
open Go.RowKit
attribute [local go_sem] run_store_complex via_ret via_normal via_exit via_panic
set_option maxRecDepth 100000 in
theorem vals_congr {q n : Nat} {t : TypeId} {m m' : Nat → Value} {S : Nat → Prop} {w : World} (hm : ∀ j, j < n → m j = m' j) (h : (Vals q n t m).at_ S w) : (Vals q n t m').at_ S w := by
  obtain ⟨cs, h1, h2, h3, h4, h5⟩ := h
  exact ⟨cs, h1, h2, fun j hj => by rw [← hm j hj]; exact h3 j hj, h4, h5⟩
set_option maxRecDepth 100000 in
theorem vals_fill {q n : Nat} {t : TypeId} {m m' : Nat → Value} {S : Nat → Prop} {w : World} (vs : List Value) (hl : vs.length = n) (hv : ∀ j, j < n → vs[j]? = some (m' j)) (h : (Vals q n t m).at_ S w) : Goes (Vals q n t m') S w (setCells w q 0 vs) := by
  obtain ⟨cs, h1, h2, h3, h4, h5⟩ := h
  refine ⟨⟨S, ⟨vs.toArray, h1.fill vs (by omega), by simpa using hl, fun j hj => by simpa using hv j hj, h4, h5⟩, fun _ h => .inl h⟩, ?_⟩
  have : ∀ (vs : List Value) (w0 : World) (i : Nat), Turned S w w0 → Turned S w (setCells w0 q i vs) := by
    intro vs
    induction vs with
    | nil => intro w0 i h; exact h
    | cons v vs ih => intro w0 i h; exact ih _ _ (h.setCell (.inl h4) v)
  exact this vs w 0 (Turned.refl S w)
/-- What the words are when the fields are laid. -/
def yl (l : List Bool) (j : Nat) : Nat := fl (plB l j)
set_option maxRecDepth 100000 in
theorem sepAt.four {A B C D : Thing} {S : Nat → Prop} {w : World} (h : (Sep (Sep (Sep A B) C) D).at_ S w) : (Sep (Sep A C) (Sep B D)).at_ S w :=
  sepAt.assoc (sepAt.monoL (fun S h => sepAt.assoc' (sepAt.monoR (fun S h => sepAt.swap h) (sepAt.assoc h))) h)
set_option maxRecDepth 100000 in
theorem vals_zero8 (w : World) (z : Value) (t : TypeId) : St w (Vals w.heap.size 8 t fun _ => z) (w.alloc (.cells #[z, z, z, z, z, z, z, z] t)) :=
  ⟨⟨fun k => k = w.heap.size, ⟨_, Blk.new w _ _, rfl, fun j hj => by
    have hcase : j = 0 ∨ j = 1 ∨ j = 2 ∨ j = 3 ∨ j = 4 ∨ j = 5 ∨ j = 6 ∨ j = 7 := by omega
    rcases hcase with rfl | rfl | rfl | rfl | rfl | rfl | rfl | rfl <;> rfl, rfl, fun _ h => h⟩, fun k hk => by omega⟩, (Below.refl _ _).alloc (Nat.le_refl _) _⟩
set_option maxRecDepth 100000 in
theorem Part.trans {A B C : Thing} (h1 : Part A B) (h2 : Part B C) : Part A C := fun S w h => by
  obtain ⟨S1, a, b⟩ := h1 S w h
  obtain ⟨S2, a2, b2⟩ := h2 S1 w a
  exact ⟨S2, a2, fun k hk => b k (b2 k hk)⟩
section
variable {c : Cf} {g cap F : Nat} {S : Nat → Prop} {w w' : World} {v : Value} {X : Thing}
set_option maxRecDepth 100000 in
theorem plan_object {l : List Bool} (hc : c.ok) (hs : c.shapes[0]? = some (false, l)) (h : (Sep (Conf c g cap) (Got v c.F)).at_ S w) :
    Calls Tryz.prog 190 #[cfV c g cap, .int .i64 0, v] w fun e w' => ∃ u, e = .returned (.tuple #[u, .int .i64 0]) ∧ Goes (Sep (Sep (Conf c g cap) (Got v c.F)) (RowG 245 2 u 8 (wc c.F (yl l) 8))) S w w' := by
  have g0 := (Goes.begin h).moreSt (St.fresh (cfCells c (.slice (some ⟨g, 0, none⟩) c.shapes.length cap)) 36)
  obtain ⟨bx, hbx⟩ : ∃ bx, w.heap.size = bx := ⟨_, rfl⟩
  rw [hbx] at g0
  obtain ⟨gs, o, cp, rfl, h1, h2⟩ := seq_form g0.l.r.is
  have hl6 : l.length ≤ 6 := (hc.shape _ (List.mem_of_getElem? hs)).1
  have hFf : c.F < c.frags := by have := hc.frags; unfold Cf.F; omega
  have HW := Lib.hid (g0.callx (R := fun u e => e = .returned (.tuple #[.agg #[.bool false, u], .int .i64 0])) (O' := fun u => Sep (Sep (Sep (Conf c g cap) (Got (.slice (some ⟨gs, o, none⟩) 1 cp) c.F)) (Var bx (cfCells c (.slice (some ⟨g, 0, none⟩) c.shapes.length cap)) 36)) (Refs u l))
    (Does.lX fun S h => plan_wrong hc hs h))
  obtain ⟨c0, c1, c2, c3, c4, c5, c6, c7, c8⟩ := cf9 (goesBlk g0.swap)
  have HK := Lib.hid hc
  clear h hs hc g0
  unfold cfV at *
  simp only [cfCells] at *
  go_enter Tryz.func190, Tryz.ntmps190
  go_wp2_with fail
  generalize w.alloc _ = w1 at *
  refine wp_scope_via 1 fun F hF => ?_
  clear hF
  go_wp2_with fail
  with_reducible refine HW.out.mono ?_
  rintro e w2 ⟨u, rfl, hg⟩
  obtain ⟨x1, k1, rfl⟩ := hg.r.is.1.slice
  have hg := hg.moreSt (St.fresh #[.bool false, .slice x1 l.length k1] 57)
  have HG := Lib.hid hg
  clear hg HW c0 c1 c2 c3 c4 c5 c6 c7 c8
  generalize hsb : w2.heap.size = sb at HG
  go_upto_region 2 with fail
  generalize w2.alloc _ = w3 at *
  clear hsb
  have hg := (HG.out.moreSt (vals_zero8 w3 (.complex .f64 0 0) 299)).conv fun S w h => sepAt.four h
  have HG4 := Lib.hid hg
  generalize hwb : w3.heap.size = wb at HG4
  clear HG hg
  go_upto_region 6 with fail
  generalize w3.alloc _ = w4 at *
  clear hwb
  go_wp2_with fail
  apply wp_label
  go_wp2_with fail
  with_reducible refine (word_none _).mono ?_
  rintro e w5 ⟨rfl, rfl⟩
  have q0 := vals_cell (j := 0) HG4.out.r.r.is (by omega)
  have q1 := vals_cell (j := 1) HG4.out.r.r.is (by omega)
  have q2 := vals_cell (j := 2) HG4.out.r.r.is (by omega)
  have q3 := vals_cell (j := 3) HG4.out.r.r.is (by omega)
  have q4 := vals_cell (j := 4) HG4.out.r.r.is (by omega)
  have q5 := vals_cell (j := 5) HG4.out.r.r.is (by omega)
  have q6 := vals_cell (j := 6) HG4.out.r.r.is (by omega)
  have q7 := vals_cell (j := 7) HG4.out.r.r.is (by omega)
  have p0 := vals_free HG4.out.r.r.is 0
  have p1 := vals_free HG4.out.r.r.is 1
  have p2 := vals_free HG4.out.r.r.is 2
  have p3 := vals_free HG4.out.r.r.is 3
  have p4 := vals_free HG4.out.r.r.is 4
  have p5 := vals_free HG4.out.r.r.is 5
  have p6 := vals_free HG4.out.r.r.is 6
  have p7 := vals_free HG4.out.r.r.is 7
  have HG5 := Lib.hid (HG4.out.then fun S h => goesR (fun S h => goesR (fun S h => vals_fill (n := 8) (m' := fun j => if j = 0 then vNone else .complex .f64 0 0) [vNone, .complex .f64 0 0, .complex .f64 0 0, .complex .f64 0 0, .complex .f64 0 0, .complex .f64 0 0, .complex .f64 0 0, .complex .f64 0 0] rfl (fun j hj => by
    have hcase : j = 0 ∨ j = 1 ∨ j = 2 ∨ j = 3 ∨ j = 4 ∨ j = 5 ∨ j = 6 ∨ j = 7 := by omega
    rcases hcase with rfl | rfl | rfl | rfl | rfl | rfl | rfl | rfl <;> rfl) h) S h) S h)
  unfold vNone at *
  simp only [setCells] at HG5
  clear HG4
  go_upto_region 9 with fail
  generalize World.setCell _ _ _ = w5 at *
  clear q0 q1 q2 q3 q4 q5 q6 q7 p0 p1 p2 p3 p4 p5 p6 p7
  have HH0 := word_head 0 0 w5 (by omega) (by omega)
  unfold cx at HH0
  rw [fl0] at HH0
  simp only [Int.natCast_zero] at HH0
  go_wp2_with fail
  with_reducible refine (HH0).mono ?_
  rintro e w6 ⟨rfl, rfl⟩
  clear HH0
  have q1 : w5.cell? ⟨wb, 1, none⟩ = some (.complex .f64 0 0) := vals_cell HG5.out.r.r.is (by omega)
  have p1 := vals_free HG5.out.r.r.is 1
  have HG6 := Lib.hid (HG5.out.then fun S h => goesR (fun S h => goesR (fun S h => vals_set h 1 (.complex .f64 0 0)) S h) S h)
  clear HG5
  go_upto_region 10 with fail
  generalize World.setCell _ _ _ = w6 at *
  clear q1 p1
  go_wp2_with fail
  with_reducible refine (stock_side _ _ _).mono ?_
  rintro e w7 ⟨rfl, rfl⟩
  have HH0 := word_head 0 1 w6 (by omega) (by omega)
  unfold cx at HH0
  rw [fl0, fl1] at HH0
  simp only [Int.natCast_zero] at HH0
  rw [show ((1 : Nat) : Int) = 1 from rfl] at HH0
  go_wp2_with fail
  with_reducible refine (HH0).mono ?_
  rintro e w7 ⟨rfl, rfl⟩
  clear HH0
  have q1 : w6.cell? ⟨wb, 1, none⟩ = some (.complex .f64 0 0) := vals_cell HG6.out.r.r.is (by omega)
  have p1 := vals_free HG6.out.r.r.is 1
  have HG7 := HG6.out.then fun S h => goesR (fun S h => goesR (fun S h => vals_set h 1 (.complex .f64 0 4607182418800017408)) S h) S h
  have HG7 := Lib.hid (HG7.conv fun S w h => sepAt.monoR (fun S h => sepAt.monoR (fun S h => vals_congr (m' := mq l 0) (fun j hj => by
    have hcase : j = 0 ∨ j = 1 ∨ j = 2 ∨ j = 3 ∨ j = 4 ∨ j = 5 ∨ j = 6 ∨ j = 7 := by omega
    rcases hcase with rfl | rfl | rfl | rfl | rfl | rfl | rfl | rfl <;> simp [setV, mq, cx, fl0, fl1]) h) h) h)
  clear HG6
  go_upto_region 12 with fail
  generalize World.setCell _ _ _ = w7 at *
  clear q1 p1
  have s0 := HG7.out.l.r.vc 0 (v := .bool false) rfl
  have s1 := HG7.out.l.r.vc 1 (v := .slice x1 l.length k1) rfl
  have HFL := Lib.hid (HG7.out.call (sepR fun S h => plan_fields hl6 h))
  clear HG7
  go_wp2_with fail
  with_reducible refine (HFL.out).mono ?_
  rintro e w8 ⟨rfl, hg⟩
  clear HFL s0 s1
  have HG8 := Lib.hid hg
  have G9 := hg.drew_
  obtain ⟨c0, c1, c2, c3, c4, c5, c6, c7, c8⟩ := cf9 (goesBlk G9.l.l.swap)
  have gq := G9.l.l.l.r.seq (i := 0) (x := .int .i64 (c.F : Int)) rfl
  have v0 := vals_cell (j := 0) G9.r.r.is (by omega)
  have v1 := vals_cell (j := 1) G9.r.r.is (by omega)
  have v2 := vals_cell (j := 2) G9.r.r.is (by omega)
  have v3 := vals_cell (j := 3) G9.r.r.is (by omega)
  have v4 := vals_cell (j := 4) G9.r.r.is (by omega)
  have v5 := vals_cell (j := 5) G9.r.r.is (by omega)
  have v6 := vals_cell (j := 6) G9.r.r.is (by omega)
  have v7 := vals_cell (j := 7) G9.r.r.is (by omega)
  rw [mq_end] at v0 v1 v2 v3 v4 v5 v6 v7
  unfold cx at v0 v1 v2 v3 v4 v5 v6 v7
  have HWH := Lib.hid (plan_whole (y := yl l) HK.out hFf G9.l.l.l.l.is)
  unfold cfV wordsV yl at HWH
  simp only [Nat.add_zero] at gq
  clear hg
  go_wp2_with fail
  refine wp_region_held_drew (S := (fun w' => w'.cell? ⟨bx, 0, none⟩ = some (.int .i64 c.frags) ∧ w'.cell? ⟨bx, 1, none⟩ = some (.int .i64 c.spine) ∧ w'.cell? ⟨bx, 2, none⟩ = some (.int .i64 c.globals) ∧ w'.cell? ⟨bx, 3, none⟩ = some (.int .i64 c.threads) ∧ w'.cell? ⟨bx, 4, none⟩ = some (.int .i64 c.locals) ∧ w'.cell? ⟨bx, 5, none⟩ = some (.int .i64 0) ∧ w'.cell? ⟨bx, 6, none⟩ = some (.int .i64 c.stack) ∧ w'.cell? ⟨bx, 7, none⟩ = some (.int .i64 c.low) ∧ w'.cell? ⟨bx, 8, none⟩ = some (.slice (some ⟨g, 0, none⟩) c.shapes.length cap) ∧ w'.cell? ⟨gs, o, none⟩ = some (.int .i64 (c.F : Int)) ∧ w'.cell? ⟨wb, 0, none⟩ = some (.complex .f64 (fl 0) (fl (plB l 0))) ∧ w'.cell? ⟨wb, 1, none⟩ = some (.complex .f64 (fl 0) (fl (plB l 1))) ∧ w'.cell? ⟨wb, 2, none⟩ = some (.complex .f64 (fl 0) (fl (plB l 2))) ∧ w'.cell? ⟨wb, 3, none⟩ = some (.complex .f64 (fl 0) (fl (plB l 3))) ∧ w'.cell? ⟨wb, 4, none⟩ = some (.complex .f64 (fl 0) (fl (plB l 4))) ∧ w'.cell? ⟨wb, 5, none⟩ = some (.complex .f64 (fl 0) (fl (plB l 5))) ∧ w'.cell? ⟨wb, 6, none⟩ = some (.complex .f64 (fl 0) (fl (plB l 6))) ∧ w'.cell? ⟨wb, 7, none⟩ = some (.complex .f64 (fl 0) (fl (plB l 7))))) (by kernel_rfl) ⟨c0, c1, c2, c3, c4, c5, c6, c7, c8, gq, v0, v1, v2, v3, v4, v5, v6, v7⟩ (fun hHeld => ?_)
  refine wpAnyH_take (i := 0) (oi := _) (v := ?_) rfl (by kernel_rfl) (by kernel_rfl) (by kernel_rfl) (fun _ _ _ h => h) (Or.inl ⟨by rfl, ?_⟩) (by assumption) ?_
  rotate_left
  · intro w hSw
    (try dsimp only at hSw)
    go_simp
    with_reducible rfl
  try simp only [Act.put, List.setIfInBounds_toArray, List.set_cons_zero, List.set_cons_succ]
  refine wpAnyH_take (i := 1) (oi := _) (v := ?_) rfl (by kernel_rfl) (by kernel_rfl) (by kernel_rfl) (fun _ _ _ h => h) (Or.inl ⟨by rfl, ?_⟩) (by assumption) ?_
  rotate_left
  · intro w hSw
    (try dsimp only at hSw)
    go_simp
    with_reducible rfl
  try simp only [Act.put, List.setIfInBounds_toArray, List.set_cons_zero, List.set_cons_succ]
  refine wpAnyH_take (i := 2) (oi := _) (v := ?_) rfl (by kernel_rfl) (by kernel_rfl) (by kernel_rfl) (fun _ _ _ h => h) (Or.inl ⟨by rfl, ?_⟩) (by assumption) ?_
  rotate_left
  · intro w hSw
    (try dsimp only at hSw)
    go_simp
    with_reducible rfl
  try simp only [Act.put, List.setIfInBounds_toArray, List.set_cons_zero, List.set_cons_succ]
  refine wpAnyH_take (i := 3) (oi := _) (v := ?_) rfl (by kernel_rfl) (by kernel_rfl) (by kernel_rfl) (fun _ _ _ h => h) (Or.inl ⟨by rfl, ?_⟩) (by assumption) ?_
  rotate_left
  · intro w hSw
    (try dsimp only at hSw)
    go_simp
    with_reducible rfl
  try simp only [Act.put, List.setIfInBounds_toArray, List.set_cons_zero, List.set_cons_succ]
  refine wpAnyH_take (i := 4) (oi := _) (v := ?_) rfl (by kernel_rfl) (by kernel_rfl) (by kernel_rfl) (fun _ _ _ h => h) (Or.inl ⟨by rfl, ?_⟩) (by assumption) ?_
  rotate_left
  · intro w hSw
    (try dsimp only at hSw)
    go_simp
    with_reducible rfl
  try simp only [Act.put, List.setIfInBounds_toArray, List.set_cons_zero, List.set_cons_succ]
  refine wpAnyH_take (i := 5) (oi := _) (v := ?_) rfl (by kernel_rfl) (by kernel_rfl) (by kernel_rfl) (fun _ _ _ h => h) (Or.inl ⟨by rfl, ?_⟩) (by assumption) ?_
  rotate_left
  · intro w hSw
    (try dsimp only at hSw)
    go_simp
    with_reducible rfl
  try simp only [Act.put, List.setIfInBounds_toArray, List.set_cons_zero, List.set_cons_succ]
  refine wpAnyH_take (i := 6) (oi := _) (v := ?_) rfl (by kernel_rfl) (by kernel_rfl) (by kernel_rfl) (fun _ _ _ h => h) (Or.inl ⟨by rfl, ?_⟩) (by assumption) ?_
  rotate_left
  · intro w hSw
    (try dsimp only at hSw)
    go_simp
    with_reducible rfl
  try simp only [Act.put, List.setIfInBounds_toArray, List.set_cons_zero, List.set_cons_succ]
  refine wpAnyH_ready (rs := [7]) (by kernel_rfl) (by simp) ?_
  refine AllReadyH.cons (o := _) rfl (fun K hK => ?_) AllReadyH.nil
  go_simp
  with_reducible refine HWH.out.mono ?_
  rintro e w9 ⟨u, rfl, hst⟩
  have G10 := HG8.out.drew_.moreSt hst
  clear hHeld HWH c0 c1 c2 c3 c4 c5 c6 c7 c8 gq v0 v1 v2 v3 v4 v5 v6 v7 G9 HG8 hst
  have HF := Lib.hid (G10.drop (Part.both (Part.trans (Part.left _ _) (Part.trans (Part.left _ _) (Part.left _ _))) (Part.refl _)))
  obtain ⟨c0, c1, c2, c3, c4, c5, c6, c7, c8⟩ := cf9 (goesBlk G10.l.l.l.swap)
  have gq := G10.l.l.l.l.r.seq (i := 0) (x := .int .i64 (c.F : Int)) rfl
  have v0 := vals_cell (j := 0) G10.l.r.r.is (by omega)
  have v1 := vals_cell (j := 1) G10.l.r.r.is (by omega)
  have v2 := vals_cell (j := 2) G10.l.r.r.is (by omega)
  have v3 := vals_cell (j := 3) G10.l.r.r.is (by omega)
  have v4 := vals_cell (j := 4) G10.l.r.r.is (by omega)
  have v5 := vals_cell (j := 5) G10.l.r.r.is (by omega)
  have v6 := vals_cell (j := 6) G10.l.r.r.is (by omega)
  have v7 := vals_cell (j := 7) G10.l.r.r.is (by omega)
  rw [mq_end] at v0 v1 v2 v3 v4 v5 v6 v7
  unfold cx at v0 v1 v2 v3 v4 v5 v6 v7
  simp only [Nat.add_zero] at gq
  clear G10
  go_wp2_with fail
  refine hK.out _ _ ⟨c0, c1, c2, c3, c4, c5, c6, c7, c8, gq, v0, v1, v2, v3, v4, v5, v6, v7⟩ (fun hHeld => ?_)
  clear hK K c0 c1 c2 c3 c4 c5 c6 c7 c8 gq v0 v1 v2 v3 v4 v5 v6 v7
  try simp only [Act.put, List.setIfInBounds_toArray, List.set_cons_zero, List.set_cons_succ]
  refine wpAnyH_take (i := 8) (oi := _) (v := ?_) rfl (by kernel_rfl) (by kernel_rfl) (by kernel_rfl) (fun _ _ _ h => h) (Or.inl ⟨by rfl, ?_⟩) (by assumption) ?_
  rotate_left
  · intro w hSw
    (try dsimp only at hSw)
    go_simp
    with_reducible rfl
  try simp only [Act.put, List.setIfInBounds_toArray, List.set_cons_zero, List.set_cons_succ]
  refine wpAnyH_done (by kernel_rfl) ?_ _
  go_wp2_with fail
  (try rw [via_ret])
  go_ret2
  exact ⟨u, rfl, HF.out⟩
end
end Go.Proofs.YtnkgnhpapcnebaaGreat
/- A thread: its answers, its leave. -/
namespace Go.Proofs.YtnkgnhpapcnebaaGreat
open Go.RowKit
attribute [local go_sem] run_store_complex via_ret via_normal via_exit via_panic
set_option maxRecDepth 100000 in
theorem Tryz.info39 : (Tryz.prog.info? 39).map (fun i => (i.zero, i.size, i.bytes)) = some (some (.agg #[.bool false, .complex .f64 0 0]), 2, 24) := by kernel_rfl
section
variable {b t : Nat} {ov lv : Value} {x : Tc} {X : Thing} {S : Nat → Prop} {w w' : World} {A : CA} {c : Cf} {q : Q} {lg n : Nat} {l : Nat → Lc}
set_option maxRecDepth 100000 in
theorem act_answers_grey {v : Value} (hpc : x.pc = 1) (hv : x.grey = v) (h : (Sep (Sep (Core A c q) (Thr b t ov lv x X)) (Got v c.F)).at_ S w) :
    Calls Tryz.prog 107 #[.pointer (some ⟨b, 0, none⟩), .pointer (some ⟨A.b, 0, none⟩)] w fun e w' => ∃ v', e = .returned (.bool false) ∧ Goes (Sep (Core A c q) (Thr b t ov lv { x with grey := v', pc := 2 } X)) S w w' := by
  obtain ⟨gs, o, cp, rfl, h1, h2⟩ := seq_form (Goes.begin h).r.is
  have g0 := Goes.begin h
  have g1 := g0.drew_
  have k10 := g1.l.l.c 10 (v := .pointer (some ⟨A.bs, 0, none⟩)) rfl
  have c7 := g0.l.r.c 7 (v := .int .i64 x.pc) rfl
  rw [hpc] at c7
  have d9 := g1.l.r.c 9 (v := x.grey) rfl
  rw [hv] at d9
  have d5 := g1.l.r.c 5 (v := .bool x.sn) rfl
  have ds := g1.r.seq (i := 0) (x := .int .i64 (c.F : Int)) rfl
  have HL := Lib.hid ((core_sh (shi_grey x.sn _)).l.l.on g1)
  have HV := Lib.hid hv
  have HX := Lib.hid hpc
  clear g0 g1 h hv hpc
  simp only [Nat.add_zero] at ds
  go_enter Tryz.func107, Tryz.ntmps107
  go_wp2_with fail
  go_still_tail 14, (by kernel_rfl)
  change wpList _ _ _ _ _ w.drew
  generalize w.drew = w1 at *
  go_wp2_with fail
  with_reducible refine HL.out.mono ?_
  rintro e w2 ⟨r, ⟨rfl, _⟩, hg⟩
  have hg : Goes (Sep (Sep (Core A c q) (Thr b t ov lv x X)) (Got (.slice (some ⟨gs, o, none⟩) 1 cp) c.F)) S w w2 := hg
  have e9 := hg.l.r.c 9 (v := x.grey) rfl
  rw [HV.out] at e9
  have f9 := hg.l.r.fr 9
  have HG := Lib.hid hg.l
  clear HL hg k10 d9 d5 ds c7
  have hcw : cp = 1 ∨ 2 ≤ cp := by omega
  rcases hcw with rfl | hcw
  · have g3 : Goes (Sep (Core A c q) (Thr b t ov lv { x with grey := .slice (some ⟨gs, o, none⟩) 0 0 } X)) S w _ := HG.out.then fun S h => goesR (fun S h => (Goes.begin h).put 9 (.slice (some ⟨gs, o, none⟩) 0 0) (cs' := thCells t ov lv { x with grey := .slice (some ⟨gs, o, none⟩) 0 0 }) rfl) S h
    have d9 := g3.r.c 9 (v := .slice (some ⟨gs, o, none⟩) 0 0) rfl
    have d7 := g3.r.c 7 (v := .int .i64 x.pc) rfl
    have f7 := g3.r.fr 7
    have g4 : Goes (Sep (Core A c q) (Thr b t ov lv { x with grey := .slice (some ⟨gs, o, none⟩) 0 0, pc := 2 } X)) S w _ := g3.then fun S h => goesR (fun S h => (Goes.begin h).put 7 (.int .i64 2) (cs' := thCells t ov lv { x with grey := .slice (some ⟨gs, o, none⟩) 0 0, pc := 2 }) rfl) S h
    have G4 := Lib.hid g4
    clear HG g3 g4
    go_wp2_with fail
    go_ret
    exact ⟨_, rfl, G4.out⟩
  · have g3 : Goes (Sep (Core A c q) (Thr b t ov lv { x with grey := .slice (some ⟨gs, o + 1, none⟩) 0 (cp - 1) } X)) S w _ := HG.out.then fun S h => goesR (fun S h => (Goes.begin h).put 9 (.slice (some ⟨gs, o + 1, none⟩) 0 (cp - 1)) (cs' := thCells t ov lv { x with grey := .slice (some ⟨gs, o + 1, none⟩) 0 (cp - 1) }) rfl) S h
    have d9 := g3.r.c 9 (v := .slice (some ⟨gs, o + 1, none⟩) 0 (cp - 1)) rfl
    have d7 := g3.r.c 7 (v := .int .i64 x.pc) rfl
    have f7 := g3.r.fr 7
    have g4 : Goes (Sep (Core A c q) (Thr b t ov lv { x with grey := .slice (some ⟨gs, o + 1, none⟩) 0 (cp - 1), pc := 2 } X)) S w _ := g3.then fun S h => goesR (fun S h => (Goes.begin h).put 7 (.int .i64 2) (cs' := thCells t ov lv { x with grey := .slice (some ⟨gs, o + 1, none⟩) 0 (cp - 1), pc := 2 }) rfl) S h
    have G4 := Lib.hid g4
    clear HG g3 g4
    go_wp2_with fail
    go_ret
    exact ⟨_, rfl, G4.out⟩
set_option maxRecDepth 100000 in
theorem act_answers_give (hpc : x.pc = 2) (ht : t < c.threads) (hc : c.ok) (ho : q.h.own t ≠ -1) (hs0 : 0 ≤ x.seen) (hs4 : x.seen ≤ 4) (h : (Sep (Core A c q) (Thr b t ov lv x X)).at_ S w) :
    Calls Tryz.prog 107 #[.pointer (some ⟨b, 0, none⟩), .pointer (some ⟨A.b, 0, none⟩)] w fun e w' => e = .returned (.bool true) ∧ Goes (Sep (Core A c { q with h := { q.h with own := setI q.h.own t x.seen } }) (Thr b t ov lv { x with st := x.seen } X)) S w w' := by
  have g0 := Goes.begin h
  have g1 := g0.drew_
  have k12 := g1.l.c 12 (v := .pointer (some ⟨A.bh, 0, none⟩)) rfl
  have c7 := g0.r.c 7 (v := .int .i64 x.pc) rfl
  rw [hpc] at c7
  have d0 := g1.r.c 0 (v := .int .i64 (t : Int)) rfl
  have d8 := g1.r.c 8 (v := .int .i64 x.seen) rfl
  have HL := Lib.hid ((core_hn (k := fun _ => { q.h with own := setI q.h.own t x.seen }) (hni_answer t x.seen ht hc.threads.2 ho hs0 hs4 _)).l.on g1)
  clear g0 g1 h hpc hc ho
  go_enter Tryz.func107, Tryz.ntmps107
  go_wp2_with fail
  go_still_tail 12, (by kernel_rfl)
  change wpList _ _ _ _ _ w.drew
  generalize w.drew = w1 at *
  go_wp2_with fail
  with_reducible refine HL.out.mono ?_
  rintro e w2 ⟨_, rfl, hg⟩
  have e8 := hg.r.c 8 (v := .int .i64 x.seen) rfl
  have e4 := hg.r.c 4 (v := .int .i64 x.st) rfl
  have f4 := hg.r.fr 4
  have g3 : Goes (Sep (Core A c { q with h := { q.h with own := setI q.h.own t x.seen } }) (Thr b t ov lv { x with st := x.seen } X)) S w _ := hg.then fun S h => goesR (fun S h => (Goes.begin h).put 4 (.int .i64 x.seen) (cs' := thCells t ov lv { x with st := x.seen }) rfl) S h
  have HG := Lib.hid g3
  clear HL hg k12 d0 d8 c7 g3
  go_wp2_with fail
  go_ret
  exact ⟨rfl, HG.out⟩
end
end Go.Proofs.YtnkgnhpapcnebaaGreat
/- A thread: its leave; the border. -/
namespace Go.Proofs.YtnkgnhpapcnebaaGreat
open Go.RowKit
attribute [local go_sem] run_store_complex via_ret via_normal via_exit via_panic
/-- Zero locals, as cells. -/
def zl : Nat → List Value
  | 0 => []
  | n + 1 => .bool false :: .complex .f64 0 0 :: zl n
set_option maxRecDepth 100000 in
theorem zl_len (n : Nat) : (zl n).length = n * 2 := by
  induction n with
  | zero => rfl
  | succ n ih => simp [zl, ih]; omega
set_option maxRecDepth 100000 in
theorem zl_get (n j : Nat) (h : j < n * 2) : (zl n)[j]? = some (locM (fun _ => ⟨false, 0, 0⟩) j) := by
  induction n generalizing j with
  | zero => omega
  | succ n ih =>
    match j, h with
    | 0, _ => rfl
    | 1, _ => show some (Value.complex .f64 0 0) = _; unfold locM cx; simp [fl0]
    | j + 2, h =>
      show (zl n)[j]? = _
      rw [ih j (by omega)]
      unfold locM
      have e1 : (j + 2) % 2 = j % 2 := by omega
      rw [e1]
set_option maxRecDepth 100000 in
theorem setCells_eq (b : Nat) : ∀ (vs : List Value) (o : Nat) (w : World), w.setCells b o vs = setCells w b o vs
  | [], _, _ => rfl
  | v :: r, o, w => setCells_eq b r (o + 1) _
set_option maxRecDepth 100000 in
theorem zl_cells (n : Nat) : (Builtin.zeroCells (Value.agg #[.bool false, .complex .f64 0 0]).cells n).toList = zl n := by
  apply List.ext_getElem?
  intro j
  by_cases h : j < n * 2
  · rw [zl_get n j h]
    simp [Builtin.zeroCells, Value.cells, h]
    unfold locM cx
    rcases Nat.mod_two_eq_zero_or_one j with e | e
    · rw [if_pos e]; simp [e]
    · rw [if_neg (by omega)]; simp [e, fl0]
  · rw [List.getElem?_eq_none (l := zl n) (by rw [zl_len]; omega), List.getElem?_eq_none (by simp [Builtin.zeroCells, Value.cells]; omega)]
section
variable {b t : Nat} {ov lv : Value} {x : Tc} {X : Thing} {S : Nat → Prop} {w w' : World} {A : CA} {c : Cf} {q : Q} {lg n : Nat} {l : Nat → Lc} {m : Nat → Value}
set_option maxRecDepth 100000 in
theorem run_clear_locals (hn : 0 < n) (h : (Vals lg (n * 2) 39 m).at_ S w) (ty : TypeId) : (Builtin.clear_ #[58] ty #[.slice (some ⟨lg, 0, none⟩) n n]).run Tryz.prog w = .ok (.tuple #[]) (setCells w lg 0 (zl n)) := by
  obtain ⟨i0, hi, hz0, hz1, hz2⟩ := info_parts Tryz.info39
  have hv : ∀ w, (zeroValue 39).run Tryz.prog w = .ok (.agg #[.bool false, .complex .f64 0 0]) w := fun w => by simp [zeroValue, typeInfo, hi, hz0]
  have hst := run_storeCells_cells (P := Tryz.prog) lg 0 (zl n) 0 w (fun j hj => by rw [zl_len] at hj; simp only [Nat.zero_add]; rw [vals_cell h hj]; rfl) (fun j hj => by simpa using vals_free h j) (fun v hv' => by
    obtain ⟨j, hj⟩ := List.mem_iff_getElem?.1 hv'
    have hl : j < (zl n).length := (List.getElem?_eq_some_iff.1 hj).1
    rw [zl_len] at hl
    rw [zl_get n j hl] at hj
    cases hj
    unfold locM cx; split <;> rfl)
  simp only [Nat.add_zero] at hst
  rw [setCells_eq] at hst
  obtain ⟨k, rfl⟩ : ∃ k, n = k + 1 := ⟨n - 1, by omega⟩
  simp [Builtin.clear_, run_underlying Tryz.underlying58, hv, zl_cells, hst]
set_option maxRecDepth 100000 in
theorem act_goes (ht : t < c.threads) (hn : 0 < n) (hc : c.ok) (ho : q.h.own t ≠ -1) (h : (Sep (Core A c q) (LThr b t ov lg n x l X)).at_ S w) :
    Calls Tryz.prog 109 #[.pointer (some ⟨b, 0, none⟩), .pointer (some ⟨A.b, 0, none⟩)] w fun e w' => e = .returned (.tuple #[]) ∧ Goes (Sep (Core A c { q with h := { q.h with own := setI q.h.own t (-1) } }) (LThr b t ov lg n { x with ph := 4 } (fun _ => ⟨false, 0, 0⟩) X)) S w w' := by
  have g1 := (Goes.begin h).drew_
  have k12 := g1.l.c 12 (v := .pointer (some ⟨A.bh, 0, none⟩)) rfl
  have d0 := g1.r.c 0 (v := .int .i64 (t : Int)) rfl
  have HL := Lib.hid ((core_hn (k := fun _ => { q.h with own := setI q.h.own t (-1) }) (hni_leave t ht hc.threads.2 ho _)).l.on g1)
  clear g1 h hc ho
  go_enter Tryz.func109, Tryz.ntmps109
  go_wp2_with fail
  go_still_tail 8, (by kernel_rfl)
  change wpList _ _ _ _ _ w.drew
  generalize w.drew = w1 at *
  go_wp2_with fail
  with_reducible refine HL.out.mono ?_
  rintro e w2 ⟨_, rfl, hg⟩
  have e3 := hg.r.c 3 (v := .int .i64 x.ph) rfl
  have f3 := hg.r.fr 3
  have g3 : Goes (Sep (Core A c { q with h := { q.h with own := setI q.h.own t (-1) } }) (LThr b t ov lg n { x with ph := 4 } l X)) S w _ := hg.then fun S h => goesR (fun S h => (Goes.begin h).put 3 (.int .i64 4) (cs' := thCells t ov (.slice (some ⟨lg, 0, none⟩) n n) { x with ph := 4 }) rfl) S h
  have HG := Lib.hid g3
  clear HL hg k12 d0 g3
  go_upto_region 2 with fail
  generalize World.setCell _ _ _ = w3 at *
  clear e3 f3
  have e2 := HG.out.r.c 2 (v := .slice (some ⟨lg, 0, none⟩) n n) rfl
  have hcl := run_clear_locals hn HG.out.r.r.l.is
  have g4 : Goes (Sep (Core A c { q with h := { q.h with own := setI q.h.own t (-1) } }) (LThr b t ov lg n { x with ph := 4 } (fun _ => ⟨false, 0, 0⟩) X)) S w _ := HG.out.then fun S h => goesR (fun S h => goesR (fun S h => goesL (fun S h => vals_fill (m' := locM fun _ => ⟨false, 0, 0⟩) (zl n) (zl_len n) (fun j hj => zl_get n j hj) h) S h) S h) S h
  have G4 := Lib.hid g4
  clear HG g4
  go_wp2_with fail
  go_end0
  exact ⟨rfl, G4.out⟩
end
end Go.Proofs.YtnkgnhpapcnebaaGreat
/- A thread at the border; a step. -/
namespace Go.Proofs.YtnkgnhpapcnebaaGreat
open Go.RowKit
attribute [local go_sem] run_store_complex via_ret via_normal via_exit via_panic
section
variable {b t : Nat} {ov lv : Value} {x : Tc} {X : Thing} {S : Nat → Prop} {w w' : World} {A : CA} {c : Cf} {q : Q} {lg n : Nat} {l : Nat → Lc} {p : World → Prop}
set_option maxRecDepth 100000 in
theorem act_border_no (h7 : w.cell? ⟨b, 7, none⟩ = some (.int .i64 0)) (hL : Calls Tryz.prog 106 #[.pointer (some ⟨b, 0, none⟩), .pointer (some ⟨A.b, 0, none⟩)] w fun e w' => e = .returned (.bool false) ∧ p w') :
    Calls Tryz.prog 53 #[.pointer (some ⟨b, 0, none⟩), .pointer (some ⟨A.b, 0, none⟩)] w fun e w' => e = .returned (.tuple #[]) ∧ p w' := by
  have HL := Lib.hid hL
  clear hL
  go_enter Tryz.func53, Tryz.ntmps53
  go_wp2_with fail
  with_reducible refine HL.out.mono ?_
  rintro e w2 ⟨rfl, hg⟩
  have HG := Lib.hid hg
  clear HL hg h7
  go_wp2_with fail
  go_end0
  exact ⟨rfl, HG.out⟩
set_option maxRecDepth 100000 in
theorem act_border_grey (h7 : w.cell? ⟨b, 7, none⟩ = some (.int .i64 1)) (hL : Calls Tryz.prog 107 #[.pointer (some ⟨b, 0, none⟩), .pointer (some ⟨A.b, 0, none⟩)] w fun e w' => e = .returned (.bool false) ∧ p w') :
    Calls Tryz.prog 53 #[.pointer (some ⟨b, 0, none⟩), .pointer (some ⟨A.b, 0, none⟩)] w fun e w' => e = .returned (.tuple #[]) ∧ p w' := by
  have HL := Lib.hid hL
  clear hL
  go_enter Tryz.func53, Tryz.ntmps53
  go_wp2_with fail
  with_reducible refine HL.out.mono ?_
  rintro e w2 ⟨rfl, hg⟩
  have HG := Lib.hid hg
  clear HL hg h7
  go_wp2_with fail
  go_end0
  exact ⟨rfl, HG.out⟩
set_option maxRecDepth 100000 in
theorem act_border_leave (h7 : w.cell? ⟨b, 7, none⟩ = some (.int .i64 4)) (hL : Calls Tryz.prog 109 #[.pointer (some ⟨b, 0, none⟩), .pointer (some ⟨A.b, 0, none⟩)] w fun e w' => e = .returned (.tuple #[]) ∧ p w') :
    Calls Tryz.prog 53 #[.pointer (some ⟨b, 0, none⟩), .pointer (some ⟨A.b, 0, none⟩)] w fun e w' => e = .returned (.tuple #[]) ∧ p w' := by
  have HL := Lib.hid hL
  clear hL
  go_enter Tryz.func53, Tryz.ntmps53
  go_wp2_with fail
  with_reducible refine HL.out.mono ?_
  rintro e w2 ⟨rfl, hg⟩
  have HG := Lib.hid hg
  clear HL hg h7
  go_wp2_with fail
  go_end0
  exact ⟨rfl, HG.out⟩
set_option maxRecDepth 100000 in
theorem act_border_give (hpc : x.pc = 2) (ht : t < c.threads) (hc : c.ok) (ho : q.h.own t ≠ -1) (hs0 : 0 ≤ x.seen) (hs4 : x.seen ≤ 4) (h : (Sep (Core A c q) (Thr b t ov lv x X)).at_ S w) :
    Calls Tryz.prog 53 #[.pointer (some ⟨b, 0, none⟩), .pointer (some ⟨A.b, 0, none⟩)] w fun e w' => e = .returned (.tuple #[]) ∧ Goes (Sep (Core A c { q with h := { q.h with own := setI q.h.own t x.seen } }) (Thr b t ov lv { x with st := x.seen, pc := 0 } X)) S w w' := by
  have c7 := (Goes.begin h).r.c 7 (v := .int .i64 x.pc) rfl
  rw [hpc] at c7
  have HL := Lib.hid (act_answers_give hpc ht hc ho hs0 hs4 h)
  clear h
  go_enter Tryz.func53, Tryz.ntmps53
  go_wp2_with fail
  with_reducible refine HL.out.mono ?_
  rintro e w2 ⟨rfl, hg⟩
  have d7 := hg.r.c 7 (v := .int .i64 x.pc) rfl
  have f7 := hg.r.fr 7
  have g3 : Goes (Sep (Core A c { q with h := { q.h with own := setI q.h.own t x.seen } }) (Thr b t ov lv { x with st := x.seen, pc := 0 } X)) S w _ := hg.then fun S h => goesR (fun S h => (Goes.begin h).put 7 (.int .i64 0) (cs' := thCells t ov lv { x with st := x.seen, pc := 0 }) rfl) S h
  have HG := Lib.hid g3
  clear HL hg c7 g3
  go_wp2_with fail
  go_end0
  exact ⟨rfl, HG.out⟩
set_option maxRecDepth 100000 in
theorem act_border_drain (hpc : x.pc = 3) (ht : t < c.threads) (h : (Sep (Core A c q) (Thr b t ov lv x X)).at_ S w) :
    Calls Tryz.prog 53 #[.pointer (some ⟨b, 0, none⟩), .pointer (some ⟨A.b, 0, none⟩)] w fun e w' => e = .returned (.tuple #[]) ∧ Goes (Sep (Core A c q) (Thr b t ov lv { x with pc := 4 } X)) S w w' := by
  have g1 := (Goes.begin h).drew_
  have c7 := (Goes.begin h).r.c 7 (v := .int .i64 x.pc) rfl
  rw [hpc] at c7
  have k11 := g1.l.c 11 (v := .pointer (some ⟨A.bsp, 0, none⟩)) rfl
  have d0 := g1.r.c 0 (v := .int .i64 (t : Int)) rfl
  have HL := Lib.hid ((core_spR (sp_drain ht _)).l.on g1)
  clear g1 h hpc
  go_enter Tryz.func53, Tryz.ntmps53
  go_wp2_with fail
  go_still_tail 8, (by kernel_rfl)
  change wpList _ _ _ _ _ w.drew
  generalize w.drew = w1 at *
  go_wp2_with fail
  with_reducible refine HL.out.mono ?_
  rintro e w2 ⟨_, rfl, hg⟩
  have d7 := hg.r.c 7 (v := .int .i64 x.pc) rfl
  have f7 := hg.r.fr 7
  have g3 : Goes (Sep (Core A c q) (Thr b t ov lv { x with pc := 4 } X)) S w _ := hg.then fun S h => goesR (fun S h => (Goes.begin h).put 7 (.int .i64 4) (cs' := thCells t ov lv { x with pc := 4 }) rfl) S h
  have HG := Lib.hid g3
  clear HL hg c7 g3 k11 d0
  go_wp2_with fail
  go_end0
  exact ⟨rfl, HG.out⟩
set_option maxRecDepth 100000 in
theorem act_border_end {a : Option Addr} {no cp : Nat} (hov : ov = .slice a no cp) (hpc : x.pc = 0) (hst : q.h.st = x.st) (hnx : no ≤ x.nx) (h : (Sep (Core A c q) (Thr b t ov lv x X)).at_ S w) :
    Calls Tryz.prog 53 #[.pointer (some ⟨b, 0, none⟩), .pointer (some ⟨A.b, 0, none⟩)] w fun e w' => e = .returned (.tuple #[]) ∧ Goes (Sep (Core A c q) (Thr b t ov lv { x with pc := 3 } X)) S w w' := by
  have c7 := (Goes.begin h).r.c 7 (v := .int .i64 x.pc) rfl
  rw [hpc] at c7
  have HL := Lib.hid (act_looks_eq hst h)
  have HO := Lib.hid hov
  clear h hov hst
  go_enter Tryz.func53, Tryz.ntmps53
  go_wp2_with fail
  with_reducible refine HL.out.mono ?_
  rintro e w2 ⟨rfl, hg⟩
  have c6 := hg.r.c 6 (v := .int .i64 (x.nx : Int)) rfl
  have c1 := hg.r.c 1 (v := ov) rfl
  rw [HO.out] at c1
  have hg1 := hg.drewN_
  have HG := Lib.hid hg
  have hd : decide ((no : Int) ≤ (x.nx : Int)) = true := by simp; omega
  clear HL hg c7 hg1
  go_wp2_with fail
  go_quiet (fail)
  have g2 := HG.out.drewN_ nq
  have d7 := g2.r.c 7 (v := .int .i64 x.pc) rfl
  have f7 := g2.r.fr 7
  have g3 : Goes (Sep (Core A c q) (Thr b t ov lv { x with pc := 3 } X)) S w _ := g2.then fun S h => goesR (fun S h => (Goes.begin h).put 7 (.int .i64 3) (cs' := thCells t ov lv { x with pc := 3 }) rfl) S h
  have HG3 := Lib.hid g3
  clear HG g2 g3 c6 c1
  go_wp2_with fail
  go_end0
  exact ⟨rfl, HG3.out⟩
/-- A thread with an operation at hand. -/
def Tc.fresh (x : Tc) : Tc := { x with ph := 2, own := 0, at_ := 0, f := .pointer none, addr := 0, ref := false, o1 := 0, o2 := 0, w1 := 0, w2 := 0, got := .slice none 0 0, wr := .slice none 0 0 }
set_option maxRecDepth 100000 in
theorem act_border_go {a : Option Addr} {no cp : Nat} (hov : ov = .slice a no cp) (hpc : x.pc = 0) (hst : q.h.st = x.st) (hnx : x.nx < no) (h : (Sep (Core A c q) (Thr b t ov lv x X)).at_ S w) :
    Calls Tryz.prog 53 #[.pointer (some ⟨b, 0, none⟩), .pointer (some ⟨A.b, 0, none⟩)] w fun e w' => e = .returned (.tuple #[]) ∧ Goes (Sep (Core A c q) (Thr b t ov lv x.fresh X)) S w w' := by
  have c7 := (Goes.begin h).r.c 7 (v := .int .i64 x.pc) rfl
  rw [hpc] at c7
  have HL := Lib.hid (act_looks_eq hst h)
  have HO := Lib.hid hov
  clear h hov hst
  go_enter Tryz.func53, Tryz.ntmps53
  go_wp2_with fail
  with_reducible refine HL.out.mono ?_
  rintro e w2 ⟨rfl, hg⟩
  have c6 := hg.r.c 6 (v := .int .i64 (x.nx : Int)) rfl
  have c1 := hg.r.c 1 (v := ov) rfl
  rw [HO.out] at c1
  have HG := Lib.hid hg
  have hd : decide ((no : Int) ≤ (x.nx : Int)) = false := by simp; omega
  have hd2 : ¬ no ≤ x.nx := by omega
  clear HL hg c7
  go_wp2_with fail
  go_quiet (fail)
  have g2 := HG.out.drewN_ nq
  clear HG c6 c1
  generalize w2.drewN nq = w3 at *
  have c3 := g2.r.c 3 (v := .int .i64 x.ph) rfl
  have c10 := g2.r.c 10 (v := .int .i64 x.own) rfl
  have c11 := g2.r.c 11 (v := .int .i64 x.at_) rfl
  have c12 := g2.r.c 12 (v := x.f) rfl
  have c13 := g2.r.c 13 (v := .int .i64 x.addr) rfl
  have c14 := g2.r.c 14 (v := .bool x.ref) rfl
  have c15 := g2.r.c 15 (v := .complex .f64 x.o1 x.o2) rfl
  have c16 := g2.r.c 16 (v := .complex .f64 x.w1 x.w2) rfl
  have c17 := g2.r.c 17 (v := x.got) rfl
  have c18 := g2.r.c 18 (v := x.wr) rfl
  have f3 := g2.r.fr 3
  have f10 := g2.r.fr 10
  have f11 := g2.r.fr 11
  have f12 := g2.r.fr 12
  have f13 := g2.r.fr 13
  have f14 := g2.r.fr 14
  have f15 := g2.r.fr 15
  have f16 := g2.r.fr 16
  have f17 := g2.r.fr 17
  have f18 := g2.r.fr 18
  have g3 : Goes (Sep (Core A c q) (Thr b t ov lv x.fresh X)) S w _ := g2.then fun S h => goesR (fun S h => goesL (fun S h => ((((((((((Goes.begin h).vput 3 (.int .i64 2) (cs' := thCells t ov lv { x with ph := 2 }) rfl).vput 10 (.int .i64 0) (cs' := thCells t ov lv { x with ph := 2, own := 0 }) rfl).vput 11 (.int .i64 0) (cs' := thCells t ov lv { x with ph := 2, own := 0, at_ := 0 }) rfl).vput 12 (.pointer none) (cs' := thCells t ov lv { x with ph := 2, own := 0, at_ := 0, f := .pointer none }) rfl).vput 13 (.int .i64 0) (cs' := thCells t ov lv { x with ph := 2, own := 0, at_ := 0, f := .pointer none, addr := 0 }) rfl).vput 14 (.bool false) (cs' := thCells t ov lv { x with ph := 2, own := 0, at_ := 0, f := .pointer none, addr := 0, ref := false }) rfl).vput 15 (.complex .f64 0 0) (cs' := thCells t ov lv { x with ph := 2, own := 0, at_ := 0, f := .pointer none, addr := 0, ref := false, o1 := 0, o2 := 0 }) rfl).vput 16 (.complex .f64 0 0) (cs' := thCells t ov lv { x with ph := 2, own := 0, at_ := 0, f := .pointer none, addr := 0, ref := false, o1 := 0, o2 := 0, w1 := 0, w2 := 0 }) rfl).vput 17 (.slice none 0 0) (cs' := thCells t ov lv { x with ph := 2, own := 0, at_ := 0, f := .pointer none, addr := 0, ref := false, o1 := 0, o2 := 0, w1 := 0, w2 := 0, got := .slice none 0 0 }) rfl).vput 18 (.slice none 0 0) (cs' := thCells t ov lv { x with ph := 2, own := 0, at_ := 0, f := .pointer none, addr := 0, ref := false, o1 := 0, o2 := 0, w1 := 0, w2 := 0, got := .slice none 0 0, wr := .slice none 0 0 }) rfl) S h) S h
  have HG3 := Lib.hid g3
  clear g2 g3
  go_wp2_with fail
  go_end0
  exact ⟨rfl, HG3.out⟩
end
end Go.Proofs.YtnkgnhpapcnebaaGreat
