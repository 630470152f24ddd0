/- Makers: a thread. -/
import Derived.Test.YtnkgnhpapcnebaaGreatM23
set_option linter.unusedVariables false
set_option linter.unusedSimpArgs false
set_option maxHeartbeats 8000000
namespace Go.Proofs.YtnkgnhpapcnebaaGreat
open Go.RowKit
attribute [local go_sem] run_store_complex via_ret via_normal via_exit via_panic
/-- A thread's cells at first. -/
def tc0 : Tc := ⟨0, 0, false, 0, 0, 0, .slice none 0 0, 0, 0, .pointer none, 0, false, 0, 0, 0, 0, .slice none 0 0, .slice none 0 0⟩
def lc0 : Nat → Lc := fun _ => ⟨false, 0, 0⟩
set_option maxRecDepth 100000 in
theorem make_locals (n : Nat) (hn : n ≤ 100) (w : World) : (Instr.makeSlice 58 (.int .i64 n) (.int .i64 n)).run Tryz.prog w = .ok (.slice (some ⟨w.heap.size, 0, none⟩) n n) (w.alloc (.cells (madeCells #[.bool false, .complex .f64 0 0] (n * 2)) 39)) := by
  obtain ⟨i0, hi, hz0, hz1, hz2⟩ := info_parts Tryz.info39
  have := run_make (P := Tryz.prog) w 58 39 i0 _ Tryz.underlying58 hi hz0 .i64 .i64 n n (by omega) (by omega) (by rw [hz2]; omega) (by omega)
  rw [this, hz1]; simp [Value.cells]
set_option maxRecDepth 100000 in
theorem St.locals (w : World) (n : Nat) : St w (Vals w.heap.size (n * 2) 39 (locM lc0)) (w.alloc (.cells (madeCells #[.bool false, .complex .f64 0 0] (n * 2)) 39)) :=
  ⟨⟨fun k => k = w.heap.size, ⟨_, Blk.new w _ _, by simp [madeCells], fun j hj => by
    have h2 : j % 2 = 0 ∨ j % 2 = 1 := by omega
    unfold locM lc0 cx
    rw [fl0]
    rcases h2 with h2 | h2 <;> simp [madeCells, hj, h2], rfl, fun _ h => h⟩, fun k hk => by omega⟩, (Below.refl _ _).alloc (Nat.le_refl _) _⟩
section
variable {S : Nat → Prop} {w w' : World} {v : Value} {n no t : Nat} {xs : List Value} {O : Thing}
set_option maxRecDepth 100000 in
theorem act_new (hn : 1 ≤ n) (hn8 : n ≤ 8) (hno : no ≤ 1000) (hne : no ≠ 0) (hx : ∀ x ∈ xs, x.oneCell' = true) (hO : ∀ S w, O.at_ S w → ∃ S', (Seq 6 v no xs).at_ S' w) (h : O.at_ S w) :
    Calls Tryz.prog 14 #[.int .i64 (t : Int), .int .i64 (n : Int), v] w fun e w' => ∃ b og oc lg, e = .returned (.pointer (some ⟨b, 0, none⟩)) ∧ Goes (Sep O (LThr b t (.slice (some ⟨og, 0, none⟩) no oc) lg n tc0 lc0 (Seq 6 (.slice (some ⟨og, 0, none⟩) no oc) no xs))) S w w' := by
  have g0 := (Goes.begin h).drew_
  have HC := Lib.hid fun w1 (gg : Goes O S w w1) => clone_ops hno hne hx (hO _ _ gg.is).choose_spec
  have HC2 := Lib.hid fun w1 Z (gg : Goes (Sep O Z) S w w1) => clone_ops hno hne hx (hO _ _ gg.l.is).choose_spec
  have hmk := fun w => make_locals n (by omega) w
  have hmax : max (n : Int) 0 = (n : Int) := by omega
  clear h hx hO
  go_enter Tryz.func14, Tryz.ntmps14
  go_wp2_with fail
  refine wp_region_held_drew (S := fun w' => True) (by kernel_rfl) trivial (fun hHeld => ?_)
  generalize w.drew = wd at *
  refine wpAnyH_take (i := 0) (oi := _) (v := ?_) rfl (by kernel_rfl) (by kernel_rfl) (by kernel_rfl) (fun _ _ _ h => h) (Or.inl ⟨by rfl, ?_⟩) (by assumption) ?_
  rotate_left
  · intro w hSw
    (try dsimp only at hSw)
    go_simp
    with_reducible rfl
  try simp only [Act.put, List.setIfInBounds_toArray, List.set_cons_zero, List.set_cons_succ]
  refine wpAnyH_take (i := 1) (oi := _) (v := ?_) rfl (by kernel_rfl) (by kernel_rfl) (by kernel_rfl) (fun _ _ _ h => h) (Or.inl ⟨by rfl, ?_⟩) (by assumption) ?_
  rotate_left
  · intro w hSw
    (try dsimp only at hSw)
    go_simp
    with_reducible rfl
  try simp only [Act.put, List.setIfInBounds_toArray, List.set_cons_zero, List.set_cons_succ]
  refine wpAnyH_take (i := 3) (oi := _) (v := ?_) rfl (by kernel_rfl) (by kernel_rfl) (by kernel_rfl) (fun _ _ _ h => h) (Or.inl ⟨by rfl, ?_⟩) (by assumption) ?_
  rotate_left
  · intro w hSw
    (try dsimp only at hSw)
    go_simp
    with_reducible rfl
  try simp only [Act.put, List.setIfInBounds_toArray, List.set_cons_zero, List.set_cons_succ]
  refine wpAnyH_take (i := 4) (oi := _) (v := ?_) rfl (by kernel_rfl) (by kernel_rfl) (by kernel_rfl) (fun _ _ _ h => h) (Or.inl ⟨by rfl, ?_⟩) (by assumption) ?_
  rotate_left
  · intro w hSw
    (try dsimp only at hSw)
    go_simp
    with_reducible rfl
  try simp only [Act.put, List.setIfInBounds_toArray, List.set_cons_zero, List.set_cons_succ]
  refine wpAnyH_ready (rs := [2, 5]) (by kernel_rfl) (by simp) ?_
  refine AllReadyH.cons (o := _) rfl ?cA (AllReadyH.cons (o := _) rfl ?cB AllReadyH.nil)
  case cA =>
    intro K hK
    go_simp
    with_reducible refine (HC.out _ g0).mono ?_
    rintro e w1 ⟨og, oc, rfl, hs⟩
    have g1 := g0.moreSt hs
    go_wp2_with fail
    refine hK.out _ _ trivial (fun hHeld => ?_)
    clear hK K
    try simp only [Act.put, List.getElem_toArray, List.getElem_cons_zero, List.getElem_cons_succ, List.setIfInBounds_toArray, List.set_cons_zero, List.set_cons_succ]
    refine wpAnyH_ready (rs := [5]) (by kernel_rfl) (by simp) ?_
    refine AllReadyH.cons (o := _) rfl (fun K hK => ?_) AllReadyH.nil
    go_simp
    have g2 := g1.moreSt (St.locals w1 n)
    generalize w1.heap.size = lb at *
    generalize w1.alloc _ = w2 at *
    go_wp2_with fail
    refine hK.out _ _ trivial (fun hHeld => ?_)
    clear hK K
    try simp only [Act.put, List.getElem_toArray, List.getElem_cons_zero, List.getElem_cons_succ, List.setIfInBounds_toArray, List.set_cons_zero, List.set_cons_succ]
    clear hHeld
    have g3 := g2.moreSt (St.fresh (thCells t (.slice (some ⟨og, 0, none⟩) no oc) (.slice (some ⟨lb, 0, none⟩) n n) tc0) 125)
    have HG := Lib.hid (g3.conv (O' := Sep O (LThr w2.heap.size t (.slice (some ⟨og, 0, none⟩) no oc) lb n tc0 lc0 (Seq 6 (.slice (some ⟨og, 0, none⟩) no oc) no xs))) fun S w h => sepAt.monoR (fun _ h => sepAt.swap (sepAt.monoL (fun _ h => sepAt.swap h) h)) (sepAt.assoc (sepAt.monoL (fun _ h => sepAt.assoc h) h)))
    simp only [thCells, tc0] at HG
    clear g3 g2 g1 g0 HC HC2 hmk hmax
    refine wpAnyH_take (i := 6) (oi := _) (v := ?_) rfl (by kernel_rfl) (by kernel_rfl) (by kernel_rfl) (fun _ _ _ h => h) (Or.inl ⟨by rfl, ?_⟩) (by assumption) ?_
    rotate_left
    · intro w hSw
      (try dsimp only at hSw)
      go_simp
      with_reducible rfl
    try simp only [Act.put, List.setIfInBounds_toArray, List.set_cons_zero, List.set_cons_succ]
    refine wpAnyH_ready (rs := [7]) (by kernel_rfl) (by simp) ?_
    refine AllReadyH.cons (o := _) rfl (fun K hK => ?_) AllReadyH.nil
    go_simp
    go_wp2_with fail
    refine hK.out _ _ trivial (fun hHeld => ?_)
    clear hK K
    try simp only [Act.put, List.getElem_toArray, List.getElem_cons_zero, List.getElem_cons_succ, List.setIfInBounds_toArray, List.set_cons_zero, List.set_cons_succ]
    refine wpAnyH_take (i := 8) (oi := _) (v := ?_) rfl (by kernel_rfl) (by kernel_rfl) (by kernel_rfl) (fun _ _ _ h => h) (Or.inl ⟨by rfl, ?_⟩) (by assumption) ?_
    rotate_left
    · intro w hSw
      (try dsimp only at hSw)
      go_simp
      with_reducible rfl
    try simp only [Act.put, List.getElem_toArray, List.getElem_cons_zero, List.getElem_cons_succ, List.setIfInBounds_toArray, List.set_cons_zero, List.set_cons_succ]
    refine wpAnyH_done (by kernel_rfl) ?_ _
    clear hHeld
    go_wp2_with fail
    go_ret
    exact ⟨_, _, _, _, rfl, HG.out⟩
  case cB =>
    intro K hK
    go_simp
    have g1 := g0.moreSt (St.locals wd n)
    go_wp2_with fail
    refine hK.out _ _ trivial (fun hHeld => ?_)
    clear hK K
    try simp only [Act.put, List.getElem_toArray, List.getElem_cons_zero, List.getElem_cons_succ, List.setIfInBounds_toArray, List.set_cons_zero, List.set_cons_succ]
    generalize wd.heap.size = lb at *
    generalize wd.alloc _ = w1 at *
    refine wpAnyH_ready (rs := [2]) (by kernel_rfl) (by simp) ?_
    refine AllReadyH.cons (o := _) rfl (fun K hK => ?_) AllReadyH.nil
    go_simp
    with_reducible refine (HC2.out _ _ g1).mono ?_
    rintro e w2 ⟨og, oc, rfl, hs⟩
    have g2 := (g1.moreSt hs).conv fun S w h => sepAt.rot h
    go_wp2_with fail
    refine hK.out _ _ trivial (fun hHeld => ?_)
    clear hK K
    try simp only [Act.put, List.getElem_toArray, List.getElem_cons_zero, List.getElem_cons_succ, List.setIfInBounds_toArray, List.set_cons_zero, List.set_cons_succ]
    clear hHeld
    have g3 := g2.moreSt (St.fresh (thCells t (.slice (some ⟨og, 0, none⟩) no oc) (.slice (some ⟨lb, 0, none⟩) n n) tc0) 125)
    have HG := Lib.hid (g3.conv (O' := Sep O (LThr w2.heap.size t (.slice (some ⟨og, 0, none⟩) no oc) lb n tc0 lc0 (Seq 6 (.slice (some ⟨og, 0, none⟩) no oc) no xs))) fun S w h => sepAt.monoR (fun _ h => sepAt.swap (sepAt.monoL (fun _ h => sepAt.swap h) h)) (sepAt.assoc (sepAt.monoL (fun _ h => sepAt.assoc h) h)))
    simp only [thCells, tc0] at HG
    clear g3 g2 g1 g0 HC HC2 hmk hmax
    refine wpAnyH_take (i := 6) (oi := _) (v := ?_) rfl (by kernel_rfl) (by kernel_rfl) (by kernel_rfl) (fun _ _ _ h => h) (Or.inl ⟨by rfl, ?_⟩) (by assumption) ?_
    rotate_left
    · intro w hSw
      (try dsimp only at hSw)
      go_simp
      with_reducible rfl
    try simp only [Act.put, List.setIfInBounds_toArray, List.set_cons_zero, List.set_cons_succ]
    refine wpAnyH_ready (rs := [7]) (by kernel_rfl) (by simp) ?_
    refine AllReadyH.cons (o := _) rfl (fun K hK => ?_) AllReadyH.nil
    go_simp
    go_wp2_with fail
    refine hK.out _ _ trivial (fun hHeld => ?_)
    clear hK K
    try simp only [Act.put, List.getElem_toArray, List.getElem_cons_zero, List.getElem_cons_succ, List.setIfInBounds_toArray, List.set_cons_zero, List.set_cons_succ]
    refine wpAnyH_take (i := 8) (oi := _) (v := ?_) rfl (by kernel_rfl) (by kernel_rfl) (by kernel_rfl) (fun _ _ _ h => h) (Or.inl ⟨by rfl, ?_⟩) (by assumption) ?_
    rotate_left
    · intro w hSw
      (try dsimp only at hSw)
      go_simp
      with_reducible rfl
    try simp only [Act.put, List.getElem_toArray, List.getElem_cons_zero, List.getElem_cons_succ, List.setIfInBounds_toArray, List.set_cons_zero, List.set_cons_succ]
    refine wpAnyH_done (by kernel_rfl) ?_ _
    clear hHeld
    go_wp2_with fail
    go_ret
    exact ⟨_, _, _, _, rfl, HG.out⟩
end
end Go.Proofs.YtnkgnhpapcnebaaGreat
/- Makers: the space. -/
namespace Go.Proofs.YtnkgnhpapcnebaaGreat
open Go.RowKit
attribute [local go_sem] run_store_complex via_ret via_normal via_exit via_panic
set_option maxRecDepth 100000 in
theorem Tryz.info164 : (Tryz.prog.info? 164).map (fun i => (i.zero, i.size, i.bytes)) = some (some (.pointer none), 1, 8) := by kernel_rfl
set_option maxRecDepth 100000 in
theorem ptrs_push (f : Nat → Nat) (n b : Nat) : ptrs (fun i => if i = n then b else f i) (n + 1) = ptrs f n ++ [.pointer (some ⟨b, 0, none⟩)] := by
  unfold ptrs
  rw [List.range_succ, List.map_append]
  congr 1
  · apply List.map_congr_left
    intro i hi
    have := List.mem_range.1 hi
    show Value.pointer (some ⟨if i = n then b else f i, 0, none⟩) = _
    rw [if_neg (by omega)]
  · simp
section
variable {A B C D E F G H O : Thing} {S : Nat → Prop} {w w' : World} {P : Program}
set_option maxRecDepth 100000 in
theorem sep12 (h : (Sep A (Sep B C)).at_ S w) : (Sep B (Sep A C)).at_ S w := sepAt.assoc (sepAt.monoL (fun _ h => sepAt.swap h) (sepAt.assoc' h))
set_option maxRecDepth 100000 in
theorem all_push {f : Nat → Nat} {T : Nat → Thing} {n b : Nat} (h : (Sep (All n fun i => T (f i)) (T b)).at_ S w) : (All (n + 1) fun i => T (if i = n then b else f i)).at_ S w := by
  have e : All (n + 1) (fun i => T (if i = n then b else f i)) = Sep (All n fun i => T (f i)) (T b) := by
    simp only [All]
    rw [all_congr (T := fun i => T (if i = n then b else f i)) (T' := fun i => T (f i)) fun k hk => by rw [if_neg (by omega)]]
    simp
  rw [e]; exact h
set_option maxRecDepth 100000 in
theorem row_empty {A : Thing} {e sz : Nat} (h : Goes A S w w') : Goes (Sep A (RowG e sz (.slice none 0 0) 0 [])) S w w' := h.more ⟨_, rowG_nil e sz w', fun k hk => hk.elim⟩ (Below.refl _ _)
set_option maxRecDepth 100000 in
/-- What the space is made of, in order. -/
theorem space_order (h : (Sep (Sep (Sep (Sep (Sep (Sep (Sep (Sep O A) B) C) D) E) F) G) H).at_ S w) : (Sep O (Sep A (Sep F (Sep D (Sep B (Sep C (Sep E (Sep G H)))))))).at_ S w := by
  have h1 : (Sep O (Sep A (Sep B (Sep C (Sep D (Sep E (Sep F (Sep G H)))))))).at_ S w := sepAt.assoc (sepAt.assoc (sepAt.assoc (sepAt.assoc (sepAt.assoc (sepAt.assoc (sepAt.assoc h))))))
  refine sepAt.monoR (fun _ h => sepAt.monoR (fun _ h => ?_) h) h1
  have h2 := sepAt.monoR (fun _ h => sepAt.monoR (fun _ h => sepAt.monoR (fun _ h => sep12 h) h) h) h
  have h3 := sepAt.monoR (fun _ h => sepAt.monoR (fun _ h => sep12 h) h) h2
  have h4 := sepAt.monoR (fun _ h => sep12 h) h3
  have h5 := sep12 h4
  exact sepAt.monoR (fun _ h => sep12 (sepAt.monoR (fun _ h => sep12 h) h)) h5
end
section
variable {S : Nat → Prop} {w w' : World} {c : Cf} {g cap bt : Nat} {O : Thing}
/-- The space under way: sv its stocks so far. -/
def SpN (O : Thing) (c : Cf) (g cap cb bt p pg k g' cap' wl b : Nat) (sv : Value) (j : Nat) (f : Nat → Nat) : Thing :=
  Sep (Sep (Sep (Sep (Sep (Sep (Sep (Sep O (Var cb (cfCells c (.slice (some ⟨g, 0, none⟩) c.shapes.length cap)) 36)) (Pool p pg c.frags full)) (Coil k (c.spine : Int) cNew)) (Conf c g' cap')) (Lne wl)) (Var b (spCells c bt ⟨g', cap', p, k, wl, sv, false, 0⟩) 163)) (RowG 164 1 sv j (ptrs f j))) (All j fun i => Stk (f i))
set_option maxRecDepth 100000 in
theorem spn_done {p pg k g' cap' wl b cb : Nat} {sv : Value} {f : Nat → Nat} (hn : c.threads ≠ 0) (h : Goes (SpN O c g cap cb bt p pg k g' cap' wl b sv c.threads f) S w w') : Goes (Sep O (SpI b bt c false)) S w w' := by
  have h1 := (h.conv fun _ _ h => space_order h).drop (Part.both (Part.refl O) (Part.right _ _))
  refine h1.conv fun S w h => sepAt.monoR (fun S h => ?_) h
  refine ⟨⟨g', cap', p, k, wl, sv, false, 0⟩, sepAt.monoR (fun S h => sepAt.monoR (fun S h => ?_) h) h⟩
  refine sepAt.monoL (fun S h => ⟨(pg, full), fun _ => rfl, h⟩) (sepAt.monoR (fun S h => sepAt.monoL (fun S h => ⟨false, h⟩) (sepAt.monoR (fun S h => sepAt.monoR (fun S h => ?_) h) h)) h)
  exact ⟨f, sepAt.monoL (fun S h => seq_of_row h hn) h⟩
set_option maxRecDepth 100000 in
theorem space_new (hc : c.ok) (hcf : ∀ S w, O.at_ S w → ∃ S', (Conf c g cap).at_ S' w) (htl : ∀ S w, O.at_ S w → Calls Tryz.prog 72 #[.pointer (some ⟨bt, 0, none⟩)] w fun e w' => e = .returned (.int .i64 (c.frags : Int)) ∧ w = w') (h : O.at_ S w) :
    Calls Tryz.prog 33 #[cfV c g cap, .pointer (some ⟨bt, 0, none⟩)] w fun e w' => ∃ b, e = .returned (.tuple #[.pointer (some ⟨b, 0, none⟩), .int .i64 0]) ∧ Goes (Sep O (SpI b bt c false)) S w w' := by
  obtain ⟨i0, hi, hz0, hz1, hz2⟩ := info_parts Tryz.info164
  have g0 := (Goes.begin h).moreSt (St.fresh (cfCells c (.slice (some ⟨g, 0, none⟩) c.shapes.length cap)) 36)
  obtain ⟨cb, hcb⟩ : ∃ k, w.heap.size = k := ⟨_, rfl⟩
  rw [hcb] at g0
  have cf9 : ∀ (O' : Thing) (w1 : World), Goes (Sep O' (Var cb (cfCells c (.slice (some ⟨g, 0, none⟩) c.shapes.length cap)) 36)) S w w1 → w1.cell? ⟨cb, 0, none⟩ = some (.int .i64 c.frags) ∧ w1.cell? ⟨cb, 1, none⟩ = some (.int .i64 c.spine) ∧ w1.cell? ⟨cb, 2, none⟩ = some (.int .i64 c.globals) ∧ w1.cell? ⟨cb, 3, none⟩ = some (.int .i64 c.threads) ∧
    w1.cell? ⟨cb, 4, none⟩ = some (.int .i64 c.locals) ∧ w1.cell? ⟨cb, 5, none⟩ = some (.int .i64 0) ∧ w1.cell? ⟨cb, 6, none⟩ = some (.int .i64 c.stack) ∧ w1.cell? ⟨cb, 7, none⟩ = some (.int .i64 c.low) ∧ w1.cell? ⟨cb, 8, none⟩ = some (.slice (some ⟨g, 0, none⟩) c.shapes.length cap) := fun _ _ h => ⟨h.r.vc 0 rfl, h.r.vc 1 rfl, h.r.vc 2 rfl, h.r.vc 3 rfl, h.r.vc 4 rfl, h.r.vc 5 rfl, h.r.vc 6 rfl, h.r.vc 7 rfl, h.r.vc 8 rfl⟩
  have C9 := Lib.hid cf9
  have HCK := Lib.hid fun w1 (gg : Goes (Sep O (Var cb (cfCells c (.slice (some ⟨g, 0, none⟩) c.shapes.length cap)) 36)) S w w1) => gg.plain (conf_check hc (hcf _ _ gg.l.is).choose_spec)
  have HCP := Lib.hid fun w1 X (gg : Goes (Sep O X) S w w1) => conf_copy hc (hcf _ _ gg.l.is).choose_spec
  have HTL := Lib.hid fun w1 X (gg : Goes (Sep O X) S w w1) => htl _ _ gg.l.is
  have HP := Lib.hid fun w => pool_new c.frags w hc.frags.2
  have HK := Lib.hid fun w => coil_new (c.spine : Int) w (by omega) (by have := hc.spine; omega)
  have hth := hc.threads
  unfold cfV at *
  simp only [cfCells] at *
  clear h hcf htl cf9 hc
  go_enter Tryz.func33, Tryz.ntmps33
  go_upto_region 1 with fail
  generalize w.alloc _ = w1 at *
  obtain ⟨c0, c1, c2, c3, c4, c5, c6, c7, c8⟩ := C9.out _ _ g0
  have HCA := Lib.hid (HCK.out _ g0)
  clear HCK g0
  go_wp2_with fail
  with_reducible refine HCA.out.mono ?_
  rintro e w2 ⟨rfl, hg⟩
  clear HCA c0 c1 c2 c3 c4 c5 c6 c7 c8
  go_wp2_with fail
  have g2 := hg.drew_
  clear hg
  refine wp_region_held_drew (S := fun w' => w'.cell? ⟨cb, 0, none⟩ = some (.int .i64 c.frags)) (by kernel_rfl) (g2.r.vc 0 (v := .int .i64 c.frags) rfl) (fun hHeld => ?_)
  generalize w2.drew = wd at *
  refine wpAnyH_take (i := 0) (oi := _) (v := ?_) rfl (by kernel_rfl) (by kernel_rfl) (by kernel_rfl) (fun _ _ _ h => h) (Or.inl ⟨by rfl, ?_⟩) (by assumption) ?_
  rotate_left
  · intro w hSw
    (try dsimp only at hSw)
    go_simp
    with_reducible rfl
  try simp only [Act.put, List.setIfInBounds_toArray, List.set_cons_zero, List.set_cons_succ]
  refine wpAnyH_take (i := 2) (oi := _) (v := ?_) rfl (by kernel_rfl) (by kernel_rfl) (by kernel_rfl) (fun _ _ _ h => h) (Or.inl ⟨by rfl, ?_⟩) (by assumption) ?_
  rotate_left
  · intro w hSw
    (try dsimp only at hSw)
    go_simp
    with_reducible rfl
  try simp only [Act.put, List.setIfInBounds_toArray, List.set_cons_zero, List.set_cons_succ]
  refine wpAnyH_take (i := 3) (oi := _) (v := ?_) rfl (by kernel_rfl) (by kernel_rfl) (by kernel_rfl) (fun _ _ _ h => h) (Or.inl ⟨by rfl, ?_⟩) (by assumption) ?_
  rotate_left
  · intro w hSw
    (try dsimp only at hSw)
    go_simp
    with_reducible rfl
  try simp only [Act.put, List.setIfInBounds_toArray, List.set_cons_zero, List.set_cons_succ]
  refine wpAnyH_ready (rs := [1]) (by kernel_rfl) (by simp) ?_
  refine AllReadyH.cons (o := _) rfl (fun K hK => ?_) AllReadyH.nil
  go_simp
  with_reducible refine (HTL.out _ _ g2).mono ?_
  rintro e w3 ⟨rfl, rfl⟩
  go_wp2_with fail
  refine hK.out _ _ (g2.r.vc 0 (v := .int .i64 c.frags) rfl) (fun hHeld => ?_)
  clear hK K
  try simp only [Act.put, List.getElem_toArray, List.getElem_cons_zero, List.getElem_cons_succ, List.setIfInBounds_toArray, List.set_cons_zero, List.set_cons_succ]
  refine wpAnyH_take (i := 4) (oi := _) (v := ?_) rfl (by kernel_rfl) (by kernel_rfl) (by kernel_rfl) (fun _ _ _ h => h) (Or.inl ⟨by rfl, ?_⟩) (by assumption) ?_
  rotate_left
  · intro w hSw
    (try dsimp only at hSw)
    go_simp
    with_reducible rfl
  try simp only [Act.put, List.setIfInBounds_toArray, List.set_cons_zero, List.set_cons_succ]
  refine wpAnyH_done (by kernel_rfl) ?_ _
  clear hHeld HTL
  have c0 := g2.r.vc 0 (v := .int .i64 c.frags) rfl
  go_wp2_with fail
  with_reducible refine (HP.out _).mono ?_
  rintro e w3 ⟨p, pg, rfl, hs⟩
  have g3 := g2.moreSt hs
  clear HP hs g2 c0
  have c1 := g3.l.r.vc 1 (v := .int .i64 c.spine) rfl
  go_wp2_with fail
  with_reducible refine (HK.out _).mono ?_
  rintro e w4 ⟨k, rfl, hs⟩
  have g4 := g3.moreSt hs
  clear HK hs g3 c1
  obtain ⟨c0, c1, c2, c3, c4, c5, c6, c7, c8⟩ := C9.out _ _ g4.l.l
  have g4b := g4.conv fun _ _ h => sepAt.assoc (sepAt.assoc h)
  have HCA := Lib.hid (HCP.out _ _ g4b)
  clear HCP g4b
  go_wp2_with fail
  with_reducible refine HCA.out.mono ?_
  rintro e w5 ⟨g', cap', rfl, hs⟩
  have g5 := g4.moreSt hs
  clear HCA hs g4 c0 c1 c2 c3 c4 c5 c6 c7 c8
  unfold cfV
  go_wp2_with fail
  with_reducible refine (line_new _).mono ?_
  rintro e w6 ⟨wl, rfl, hs⟩
  have g6 := (g5.moreSt hs).moreSt (St.fresh (spCells c bt ⟨g', cap', p, k, wl, .slice none 0 0, false, 0⟩) 163)
  clear hs g5
  have g7 : Goes (SpN O c g cap cb bt p pg k g' cap' wl w6.heap.size (.slice none 0 0) 0 (fun _ => 0)) S w _ := (row_empty g6).conv fun _ _ h => emp_more h
  have HG := Lib.hid g7
  simp only [spCells] at HG
  clear g6 g7
  go_upto_region 13 with fail
  generalize w6.heap.size = b at *
  generalize w6.alloc _ = w7 at *
  have c3 := HG.out.l.l.l.l.l.l.l.r.vc 3 (v := .int .i64 c.threads) rfl
  go_wp2_with fail
  clear c3
  go_loopw [11, 12, 52] (fun _ _ i wr => ∃ (j : Nat) (sv : Value) (f : Nat → Nat), j ≤ c.threads ∧ i = .int .i64 j ∧ Goes (SpN O c g cap cb bt p pg k g' cap' wl b sv j f) S w wr) (fun _ _ i _ => c.threads - (intOf i).toNat)
  case atStart => exact ⟨0, _, _, Nat.zero_le _, rfl, HG.out⟩
  case round =>
    clear HG
    obtain ⟨j, sv, f, hj, rfl, hg⟩ := hrel
    by_cases hlt : j < c.threads
    · have c5 := hg.l.l.l.l.l.l.l.r.vc 5 (v := .int .i64 0) rfl
      have HG := Lib.hid hg
      have HJ := Lib.hid (show j ≤ 16 by omega)
      clear hg hj
      go_wp2_with fail
      with_reducible refine (stock_new _).mono ?_
      rintro e w8 ⟨b', rfl, hs⟩
      have g1 := HG.out.moreSt hs
      have c1 := g1.l.l.l.r.vc 1 (v := sv) rfl
      have hrow := g1.l.l.r.is.1
      have H1 := Lib.hid g1
      have HR := Lib.hid hrow
      clear HG hs g1 hrow c5
      obtain ⟨sa, scap, hsv, _, _⟩ := slice_of_owns HR.out
      have HSV := Lib.hid hsv
      rw [hsv] at c1
      go_wp2_with (at_builtin; refine wpList_app rfl _ _ 161 rfl 164 i0 (.pointer none) 1 8 Tryz.underlying161 hi hz0 hz1 hz2 rfl (by decide) _ _ _ rfl ((hsv ▸ HR.out).alloc _) ⟨w8.heap.size, 0, none⟩ 1 1 [.pointer (some ⟨b', 0, none⟩)] rfl rfl ?c1 ?c2 ?c3 (by decide) ?_)
      case c1 =>
        intro j u hj
        rw [add_none, (Blk.new w8 #[.pointer (some ⟨b', 0, none⟩)] 164).cell, Nat.zero_add]
        simpa using hj
      case c2 => intro u hu; simp at hu; subst hu; rfl
      case c3 => have := HJ.out; omega
      intro v' w9 ho hgr hbk
      obtain ⟨na, ncap, rfl, _, _⟩ := slice_of_owns ho
      have g2 := H1.out.then fun S h => goesL (fun S h => goesL (fun S h => goesR (fun S h => rowG_push h ((Below.refl w8.heap.size w8).alloc (Nat.le_refl _) (.cells #[.pointer (some ⟨b', 0, none⟩)] 164)) ho (by rw [HSV.out]; exact hgr) (by rw [HSV.out]; simpa using hbk)) S h) S h) S h
      have g3 := g2.then fun S h => goesL (fun S h => goesL (fun S h => goesL (fun S h => goesR (fun S h => (Goes.begin h).vput 1 (.slice na (j + 1) ncap) (cs' := spCells c bt ⟨g', cap', p, k, wl, .slice na (j + 1) ncap, false, 0⟩) rfl) S h) S h) S h) S h
      have c1 := g2.l.l.l.r.vc 1 (v := sv) rfl
      rw [HSV.out] at c1
      have f1 := g2.l.l.l.r.vf 1
      have H3 := Lib.hid g3
      clear H1 HR ho hgr hbk g2 g3
      go_wp2_with fail
      go_round
      case rel =>
        refine ⟨j + 1, .slice na (j + 1) ncap, fun i => if i = j then b' else f i, by omega, by go_num, ?_⟩
        refine H3.out.conv fun S w h => ?_
        have h1 := sepAt.assoc h
        refine sepAt.monoR (fun _ h => all_push h) (sepAt.monoL (fun _ h => sepAt.monoR (fun _ h => ?_) h) h1)
        rw [ptrs_push]; exact h
      case measure => simp [intOf]; omega
    · obtain rfl : j = c.threads := by omega
      have HF := Lib.hid (spn_done (by omega) hg)
      clear hg
      go_wp2_with fail
      go_ret2
      exact ⟨_, rfl, HF.out⟩
end
end Go.Proofs.YtnkgnhpapcnebaaGreat
