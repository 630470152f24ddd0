/- Makers: the core. -/
import Derived.Test.YtnkgnhpapcnebaaGreatM24
import Derived.Test.YtnkgnhpapcnebaaGreatM4
set_option linter.unusedVariables false
set_option linter.unusedSimpArgs false
set_option maxHeartbeats 8000000
namespace Go.Proofs.YtnkgnhpapcnebaaGreat
open Go.RowKit
attribute [local go_sem] run_store_complex via_ret via_normal via_exit via_panic
/-- The shared things at first. -/
def q0 : Q := ⟨⟨0, false, 0, 0⟩, ⟨0, false, gone⟩, false, false⟩
section
variable {A B C D E F G H O : Thing} {S : Nat → Prop} {w w' : World}
set_option maxRecDepth 100000 in
theorem core_order (h : (Sep (Sep (Sep (Sep (Sep (Sep (Sep O B) C) D) E) F) G) H).at_ S w) : (Sep O (Sep B (Sep H (Sep G (Sep C (Sep D (Sep E F))))))).at_ S w := by
  have h1 : (Sep O (Sep B (Sep C (Sep D (Sep E (Sep F (Sep G H))))))).at_ S w := sepAt.assoc (sepAt.assoc (sepAt.assoc (sepAt.assoc (sepAt.assoc (sepAt.assoc h)))))
  refine sepAt.monoR (fun _ h => sepAt.monoR (fun S2 h => ?_) h) h1
  have h2 : (Sep (Sep (Sep (Sep (Sep C D) E) F) G) H).at_ S2 w := sepAt.assoc' (sepAt.assoc' (sepAt.assoc' (sepAt.assoc' h)))
  have h3 : (Sep H (Sep G (Sep (Sep (Sep C D) E) F))).at_ S2 w := sepAt.monoR (fun _ h => sepAt.swap h) (sepAt.swap h2)
  exact sepAt.monoR (fun _ h => sepAt.monoR (fun _ h => sepAt.assoc (sepAt.assoc h)) h) h3
end
section
variable {S : Nat → Prop} {w w' : World} {c : Cf} {g cap : Nat} {O : Thing}
/-- What lies in memory behind j globals. -/
structure MemN (c : Cf) (j : Nat) (m : Nat → Value) : Prop where
  lo : ∀ k, k < c.glob 0 → m k = .complex .f64 0 0
  hi : ∀ i, i < j → m (c.glob i) = cx 0 1
set_option maxRecDepth 100000 in
theorem memN_step {j : Nat} {m : Nat → Value} (h : MemN c j m) : MemN c (j + 1) (setV m (c.glob j) vNone) where
  lo := fun k hk => by
    unfold setV
    rw [if_neg (by unfold Cf.glob at *; omega)]
    exact h.lo k hk
  hi := fun i hi => by
    unfold setV
    by_cases e : i = j
    · subst e; rw [if_pos rfl, ← cx01]
    · rw [if_neg (by unfold Cf.glob; omega)]; exact h.hi i (by omega)
set_option maxRecDepth 100000 in
theorem memN_ok {m : Nat → Value} (hc : c.ok) (h : MemN c c.globals m) : MemOk c q0.m m where
  plan := fun j _ _ hj => absurd hj (Nat.not_lt_zero _)
  last := by
    have := hc.frags
    rw [h.lo _ (by unfold Cf.glob Cf.F; omega)]
    show _ = cx 0 0
    unfold cx
    rw [fl0]
  glob := fun g hg => by rw [h.hi g hg]; simp [q0]
/-- The core under way. -/
def CoN (O : Thing) (c : Cf) (g cap cb bm mg bs bt bp bsp bh hg : Nat) (m : Nat → Value) : Thing :=
  Sep (Sep (Sep (Sep (Sep O (Var cb (cfCells c (.slice (some ⟨g, 0, none⟩) c.shapes.length cap)) 36)) (Mem bm mg c.words m)) (Shade bs bt bp c.frags blank [] (c.stack : Int) false 0)) (SpI bsp bt c false)) (Hnd bh hg c.threads 0 false gone 0)
set_option maxRecDepth 100000 in
theorem con_done {cb bm mg bs bt bp bsp bh hg g' cap' b : Nat} {m : Nat → Value} (hc : c.ok) (hm : MemN c c.globals m) (h : Goes (Sep (Sep (CoN O c g cap cb bm mg bs bt bp bsp bh hg m) (Conf c g' cap')) (Var b (coreCells c ⟨b, g', cap', bm, bs, bt, bsp, bh⟩) 114)) S w w') : Goes (Sep O (Core ⟨b, g', cap', bm, bs, bt, bsp, bh⟩ c q0)) S w w' := by
  have h1 := (h.conv fun _ _ h => core_order h).drop (Part.both (Part.refl O) (Part.right _ _))
  refine h1.conv fun S w h => sepAt.monoR (fun S h => ?_) h
  have hst := hc.stack
  refine sepAt.monoR (fun S h => sepAt.monoR (fun S h => ?_) h) h
  refine sepAt.monoL (fun S h => ⟨(mg, m), memN_ok hc hm, h⟩) (sepAt.monoR (fun S h => ?_) h)
  refine sepAt.monoL (fun S h => ⟨⟨bp, blank, [], false, 0⟩, ⟨fun j hj => by simp [blank] at hj, fun y hy => by simp at hy, by show 0 ≤ c.stack; omega, hst.2⟩, h⟩) (sepAt.monoR (fun S h => ?_) h)
  exact sepAt.monoR (fun S h => ⟨(hg, 0), h⟩) h
set_option maxRecDepth 100000 in
theorem core_new (hc : c.ok) (hcf : ∀ S w, O.at_ S w → ∃ S', (Conf c g cap).at_ S' w) (h : O.at_ S w) :
    Calls Tryz.prog 12 #[cfV c g cap] w fun e w' => ∃ A : CA, e = .returned (.tuple #[.pointer (some ⟨A.b, 0, none⟩), .int .i64 0]) ∧ Goes (Sep O (Core A c q0)) S w w' := by
  have g0 := (Goes.begin h).moreSt (St.fresh (cfCells c (.slice (some ⟨g, 0, none⟩) c.shapes.length cap)) 36)
  obtain ⟨cb, hcb⟩ : ∃ k, w.heap.size = k := ⟨_, rfl⟩
  rw [hcb] at g0
  have cf9 : ∀ (O' : Thing) (w1 : World), Goes (Sep O' (Var cb (cfCells c (.slice (some ⟨g, 0, none⟩) c.shapes.length cap)) 36)) S w w1 → w1.cell? ⟨cb, 0, none⟩ = some (.int .i64 c.frags) ∧ w1.cell? ⟨cb, 1, none⟩ = some (.int .i64 c.spine) ∧ w1.cell? ⟨cb, 2, none⟩ = some (.int .i64 c.globals) ∧ w1.cell? ⟨cb, 3, none⟩ = some (.int .i64 c.threads) ∧
    w1.cell? ⟨cb, 4, none⟩ = some (.int .i64 c.locals) ∧ w1.cell? ⟨cb, 5, none⟩ = some (.int .i64 0) ∧ w1.cell? ⟨cb, 6, none⟩ = some (.int .i64 c.stack) ∧ w1.cell? ⟨cb, 7, none⟩ = some (.int .i64 c.low) ∧ w1.cell? ⟨cb, 8, none⟩ = some (.slice (some ⟨g, 0, none⟩) c.shapes.length cap) := fun _ _ h => ⟨h.r.vc 0 rfl, h.r.vc 1 rfl, h.r.vc 2 rfl, h.r.vc 3 rfl, h.r.vc 4 rfl, h.r.vc 5 rfl, h.r.vc 6 rfl, h.r.vc 7 rfl, h.r.vc 8 rfl⟩
  have C9 := Lib.hid cf9
  have hwd : (c.frags : Int) * 8 + c.spine + c.spine + c.globals = ((c.words : Nat) : Int) := by unfold Cf.words; push_cast; omega
  have HCK := Lib.hid fun w1 X (gg : Goes (Sep O X) S w w1) => gg.plain (conf_check hc (hcf _ _ gg.l.is).choose_spec)
  have HWD := Lib.hid fun w1 X (gg : Goes (Sep O X) S w w1) => gg.plain (area_words hc (hcf _ _ gg.l.is).choose_spec)
  rw [hwd] at HWD
  have HCP := Lib.hid fun w1 X (gg : Goes (Sep O X) S w w1) => conf_copy hc (hcf _ _ gg.l.is).choose_spec
  have HGL := Lib.hid fun j (hj : j < c.globals) w1 X (gg : Goes (Sep O X) S w w1) => gg.plain (area_global j hc (hcf _ _ gg.l.is).choose_spec hj)
  have HM := Lib.hid fun w => mem_new c.words w (words_small hc)
  have HS := Lib.hid fun w => shade_new c.frags (c.stack : Int) w hc.frags.2 (by have := hc.stack; omega) (by have := hc.stack; omega)
  have HH := Lib.hid fun w => hand_new c.threads w hc.threads.1 hc.threads.2
  have HSP := Lib.hid fun bt w1 X1 X2 X3 (htl : ∀ S w, (Sep (Sep (Sep O X1) X2) X3).at_ S w → Calls Tryz.prog 72 #[.pointer (some ⟨bt, 0, none⟩)] w fun e w' => e = .returned (.int .i64 (c.frags : Int)) ∧ w = w') (gg : Goes (Sep (Sep (Sep O X1) X2) X3) S w w1) => gg.callx (fun S h => space_new hc (fun S w h => let ⟨S1, a, _⟩ := sepAt.l h; let ⟨S2, b, _⟩ := sepAt.l a; let ⟨S3, d, _⟩ := sepAt.l b; hcf S3 w d) htl h)
  have HC := Lib.hid hc
  have HWS := Lib.hid (words_small hc)
  have hgl := hc.globals
  unfold cfV at *
  simp only [cfCells] at *
  clear h hcf cf9 hc
  go_enter Tryz.func12, Tryz.ntmps12
  go_upto_region 1 with fail
  generalize w.alloc _ = w1 at *
  obtain ⟨c0, c1, c2, c3, c4, c5, c6, c7, c8⟩ := C9.out _ _ g0
  have HCA := Lib.hid (HCK.out _ _ g0)
  clear HCK g0
  go_wp2_with fail
  with_reducible refine HCA.out.mono ?_
  rintro e w2 ⟨rfl, hg⟩
  clear HCA c0 c1 c2 c3 c4 c5 c6 c7 c8
  obtain ⟨c0, c1, c2, c3, c4, c5, c6, c7, c8⟩ := C9.out _ _ hg
  have HCA := Lib.hid (HWD.out _ _ hg)
  clear HWD hg
  go_wp2_with fail
  with_reducible refine HCA.out.mono ?_
  rintro e w3 ⟨rfl, hg⟩
  clear HCA c0 c1 c2 c3 c4 c5 c6 c7 c8
  go_wp2_with fail
  with_reducible refine (HM.out _).mono ?_
  rintro e w4 ⟨bm, mg, rfl, hs⟩
  have g4 := hg.moreSt hs
  clear HM hg hs
  have c0 := g4.l.r.vc 0 (v := .int .i64 c.frags) rfl
  have c6 := g4.l.r.vc 6 (v := .int .i64 c.stack) rfl
  go_wp2_with fail
  with_reducible refine (HS.out _).mono ?_
  rintro e w5 ⟨bs, bt, bp, rfl, hs⟩
  have g5 := g4.moreSt hs
  clear HS g4 hs c0 c6
  go_wp2_with fail
  have g6 := g5.drew_
  clear g5
  refine wp_region_held_drew (S := fun w' => w'.cell? ⟨bs, 0, none⟩ = some (.pointer (some ⟨bt, 0, none⟩)) ∧ w'.cell? ⟨cb, 0, none⟩ = some (.int .i64 c.frags) ∧ w'.cell? ⟨cb, 1, none⟩ = some (.int .i64 c.spine) ∧ w'.cell? ⟨cb, 2, none⟩ = some (.int .i64 c.globals) ∧ w'.cell? ⟨cb, 3, none⟩ = some (.int .i64 c.threads) ∧ w'.cell? ⟨cb, 4, none⟩ = some (.int .i64 c.locals) ∧ w'.cell? ⟨cb, 5, none⟩ = some (.int .i64 0) ∧ w'.cell? ⟨cb, 6, none⟩ = some (.int .i64 c.stack) ∧ w'.cell? ⟨cb, 7, none⟩ = some (.int .i64 c.low) ∧ w'.cell? ⟨cb, 8, none⟩ = some (.slice (some ⟨g, 0, none⟩) c.shapes.length cap)) (by kernel_rfl) ⟨g6.r.c 0 (v := .pointer (some ⟨bt, 0, none⟩)) rfl, C9.out _ _ g6.l.l⟩ (fun hHeld => ?_)
  generalize w5.drew = wd at *
  refine wpAnyH_take (i := 0) (oi := _) (v := ?_) rfl (by kernel_rfl) (by kernel_rfl) (by kernel_rfl) (fun _ _ _ h => h) (Or.inl ⟨by rfl, ?_⟩) (by assumption) ?_
  rotate_left
  · intro w hSw
    (try dsimp only at hSw)
    go_simp
    with_reducible rfl
  try simp only [Act.put, List.setIfInBounds_toArray, List.set_cons_zero, List.set_cons_succ]
  refine wpAnyH_take (i := 1) (oi := _) (v := ?_) rfl (by kernel_rfl) (by kernel_rfl) (by kernel_rfl) (fun _ _ _ h => h) (Or.inl ⟨by rfl, ?_⟩) (by assumption) ?_
  rotate_left
  · intro w hSw
    (try dsimp only at hSw)
    go_simp
    with_reducible rfl
  try simp only [Act.put, List.setIfInBounds_toArray, List.set_cons_zero, List.set_cons_succ]
  refine wpAnyH_take (i := 2) (oi := _) (v := ?_) rfl (by kernel_rfl) (by kernel_rfl) (by kernel_rfl) (fun _ _ _ h => h) (Or.inl ⟨by rfl, ?_⟩) (by assumption) ?_
  rotate_left
  · intro w hSw
    (try dsimp only at hSw)
    go_simp
    with_reducible rfl
  try simp only [Act.put, List.setIfInBounds_toArray, List.set_cons_zero, List.set_cons_succ]
  refine wpAnyH_take (i := 3) (oi := _) (v := ?_) rfl (by kernel_rfl) (by kernel_rfl) (by kernel_rfl) (fun _ _ _ h => h) (Or.inl ⟨by rfl, ?_⟩) (by assumption) ?_
  rotate_left
  · intro w hSw
    (try dsimp only at hSw)
    go_simp
    with_reducible rfl
  try simp only [Act.put, List.setIfInBounds_toArray, List.set_cons_zero, List.set_cons_succ]
  refine wpAnyH_take (i := 4) (oi := _) (v := ?_) rfl (by kernel_rfl) (by kernel_rfl) (by kernel_rfl) (fun _ _ _ h => h) (Or.inl ⟨by rfl, ?_⟩) (by assumption) ?_
  rotate_left
  · intro w hSw
    (try dsimp only at hSw)
    go_simp
    with_reducible rfl
  try simp only [Act.put, List.setIfInBounds_toArray, List.set_cons_zero, List.set_cons_succ]
  have HTB := Lib.hid (g6.plain (shade_table bt _))
  clear g6
  refine wpAnyH_ready (rs := [5]) (by kernel_rfl) (by simp) ?_
  refine AllReadyH.cons (o := _) rfl (fun K hK => ?_) AllReadyH.nil
  go_simp
  with_reducible refine HTB.out.mono ?_
  rintro e w6 ⟨rfl, hg⟩
  clear HTB hHeld
  go_wp2_with fail
  refine hK.out _ _ ⟨hg.r.c 0 (v := .pointer (some ⟨bt, 0, none⟩)) rfl, C9.out _ _ hg.l.l⟩ (fun hHeld => ?_)
  clear hK K
  try simp only [Act.put, List.getElem_toArray, List.getElem_cons_zero, List.getElem_cons_succ, List.setIfInBounds_toArray, List.set_cons_zero, List.set_cons_succ]
  have HSA := Lib.hid (HSP.out bt _ _ _ _ (fun S w h => let ⟨S1, a, _⟩ := sepAt.r h; let ⟨S2, b, _⟩ := sepAt.r a; let ⟨S3, d, _⟩ := sepAt.l b; tint_len d) hg)
  clear HSP hg hHeld
  refine wpAnyH_ready (rs := [6]) (by kernel_rfl) (by simp) ?_
  refine AllReadyH.cons (o := _) rfl (fun K hK => ?_) AllReadyH.nil
  go_simp
  with_reducible refine HSA.out.mono ?_
  rintro e w7 ⟨bsp, rfl, hg⟩
  clear HSA
  go_wp2_with fail
  refine hK.out _ _ ⟨hg.l.r.c 0 (v := .pointer (some ⟨bt, 0, none⟩)) rfl, C9.out _ _ hg.l.l.l⟩ (fun hHeld => ?_)
  clear hK K
  try simp only [Act.put, List.getElem_toArray, List.getElem_cons_zero, List.getElem_cons_succ, List.setIfInBounds_toArray, List.set_cons_zero, List.set_cons_succ]
  refine wpAnyH_take (i := 7) (oi := _) (v := ?_) rfl (by kernel_rfl) (by kernel_rfl) (by kernel_rfl) (fun _ _ _ h => h) (Or.inl ⟨by rfl, ?_⟩) (by assumption) ?_
  rotate_left
  · intro w hSw
    (try dsimp only at hSw)
    go_simp
    with_reducible rfl
  try simp only [Act.put, List.getElem_toArray, List.getElem_cons_zero, List.getElem_cons_succ, List.setIfInBounds_toArray, List.set_cons_zero, List.set_cons_succ]
  refine wpAnyH_take (i := 8) (oi := _) (v := ?_) rfl (by kernel_rfl) (by kernel_rfl) (by kernel_rfl) (fun _ _ _ h => h) (Or.inl ⟨by rfl, ?_⟩) (by assumption) ?_
  rotate_left
  · intro w hSw
    (try dsimp only at hSw)
    go_simp
    with_reducible rfl
  try simp only [Act.put, List.getElem_toArray, List.getElem_cons_zero, List.getElem_cons_succ, List.setIfInBounds_toArray, List.set_cons_zero, List.set_cons_succ]
  refine wpAnyH_take (i := 9) (oi := _) (v := ?_) rfl (by kernel_rfl) (by kernel_rfl) (by kernel_rfl) (fun _ _ _ h => h) (Or.inl ⟨by rfl, ?_⟩) (by assumption) ?_
  rotate_left
  · intro w hSw
    (try dsimp only at hSw)
    go_simp
    with_reducible rfl
  try simp only [Act.put, List.getElem_toArray, List.getElem_cons_zero, List.getElem_cons_succ, List.setIfInBounds_toArray, List.set_cons_zero, List.set_cons_succ]
  refine wpAnyH_take (i := 10) (oi := _) (v := ?_) rfl (by kernel_rfl) (by kernel_rfl) (by kernel_rfl) (fun _ _ _ h => h) (Or.inl ⟨by rfl, ?_⟩) (by assumption) ?_
  rotate_left
  · intro w hSw
    (try dsimp only at hSw)
    go_simp
    with_reducible rfl
  try simp only [Act.put, List.getElem_toArray, List.getElem_cons_zero, List.getElem_cons_succ, List.setIfInBounds_toArray, List.set_cons_zero, List.set_cons_succ]
  refine wpAnyH_take (i := 11) (oi := _) (v := ?_) rfl (by kernel_rfl) (by kernel_rfl) (by kernel_rfl) (fun _ _ _ h => h) (Or.inl ⟨by rfl, ?_⟩) (by assumption) ?_
  rotate_left
  · intro w hSw
    (try dsimp only at hSw)
    go_simp
    with_reducible rfl
  try simp only [Act.put, List.getElem_toArray, List.getElem_cons_zero, List.getElem_cons_succ, List.setIfInBounds_toArray, List.set_cons_zero, List.set_cons_succ]
  refine wpAnyH_done (by kernel_rfl) ?_ _
  clear hHeld
  have c3 := hg.l.l.l.r.vc 3 (v := .int .i64 c.threads) rfl
  go_wp2_with fail
  with_reducible refine (HH.out _).mono ?_
  rintro e w8 ⟨bh, hgb, rfl, hs⟩
  have g8 : Goes (CoN O c g cap cb bm mg bs bt bp bsp bh hgb fun _ => .complex .f64 0 0) S w w8 := hg.moreSt hs
  clear HH hs hg c3
  have HG := Lib.hid g8
  have c2 := g8.l.l.l.l.r.vc 2 (v := .int .i64 c.globals) rfl
  clear g8
  go_wp2_with fail
  clear c2
  go_loopw [10, 11, 12, 62] (fun _ _ _ i wr => ∃ (j : Nat) (m : Nat → Value), j ≤ c.globals ∧ i = .int .i64 j ∧ MemN c j m ∧ Goes (CoN O c g cap cb bm mg bs bt bp bsp bh hgb m) S w wr) (fun _ _ _ i _ => c.globals - (intOf i).toNat)
  case atStart => exact ⟨0, _, Nat.zero_le _, rfl, ⟨fun _ _ => rfl, fun _ h => absurd h (Nat.not_lt_zero _)⟩, HG.out⟩
  case round =>
    clear HG
    obtain ⟨j, m, hj, rfl, hm, hg⟩ := hrel
    by_cases hlt : j < c.globals
    · obtain ⟨c0, c1, c2, c3, c4, c5, c6, c7, c8⟩ := C9.out _ _ hg.l.l.l.l
      have eg : (j : Int) + (c.frags : Int) * 8 + c.spine + c.spine = ((c.glob j : Nat) : Int) := by unfold Cf.glob; push_cast; omega
      have hgw : c.glob j < c.words := by unfold Cf.glob Cf.words; omega
      have HGC := Lib.hid (HGL.out j hlt _ _ (hg.conv fun _ _ h => sepAt.assoc (sepAt.assoc (sepAt.assoc (sepAt.assoc h)))))
      rw [eg] at HGC
      have HM := Lib.hid hm
      clear hg hm HGL eg
      go_wp2_with fail
      with_reducible refine HGC.out.mono ?_
      rintro e w9 ⟨rfl, hgx⟩
      have hg : Goes (CoN O c g cap cb bm mg bs bt bp bsp bh hgb m) S w w9 := hgx.conv fun _ _ h => sepAt.assoc' (sepAt.assoc' (sepAt.assoc' (sepAt.assoc' h)))
      have HLY := Lib.hid (hg.call (sepL (sepL (sepL (sepR fun S h => mem_lay (c.glob j) 0 4607182418800017408 h hgw HWS.out)))))
      clear HGC hgx hg c0 c1 c2 c3 c4 c5 c6 c7 c8
      go_wp2_with fail
      with_reducible refine (word_none _).mono ?_
      rintro e w10 ⟨rfl, rfl⟩
      unfold vNone
      go_wp2_with fail
      with_reducible refine HLY.out.mono ?_
      rintro e w11 ⟨rfl, hg⟩
      have HG := Lib.hid hg
      clear HLY hg
      go_wp2_with fail
      go_round
      case rel => exact ⟨j + 1, _, by omega, by go_num, memN_step HM.out, HG.out⟩
      case measure => simp [intOf]; omega
    · obtain rfl : j = c.globals := by omega
      obtain ⟨c0, c1, c2, c3, c4, c5, c6, c7, c8⟩ := C9.out _ _ hg.l.l.l.l
      have HCA := Lib.hid (HCP.out _ _ (hg.conv fun _ _ h => sepAt.assoc (sepAt.assoc (sepAt.assoc (sepAt.assoc h)))))
      have HG := Lib.hid hg
      have HM := Lib.hid hm
      clear HCP hg hm HGL
      go_wp2_with fail
      with_reducible refine HCA.out.mono ?_
      rintro e w9 ⟨g', cap', rfl, hs⟩
      have g9 := (HG.out.moreSt hs).moreSt (St.fresh (coreCells c ⟨w9.heap.size, g', cap', bm, bs, bt, bsp, bh⟩) 114)
      have HF := Lib.hid (con_done HC.out HM.out g9)
      simp only [coreCells] at HF
      clear HCA HG hs g9 c0 c1 c2 c3 c4 c5 c6 c7 c8
      unfold cfV
      go_wp2_with fail
      go_ret2
      exact ⟨_, rfl, HF.out⟩
end
end Go.Proofs.YtnkgnhpapcnebaaGreat
/- Makers: the heap. -/
namespace Go.Proofs.YtnkgnhpapcnebaaGreat
open Go.RowKit
attribute [local go_sem] run_store_complex via_ret via_normal via_exit via_panic
set_option maxRecDepth 100000 in
theorem Tryz.info65 : (Tryz.prog.info? 65).map (fun i => (i.zero, i.size, i.bytes)) = some (some (.pointer none), 1, 8) := by kernel_rfl
def hpCells (ab yb : Nat) (sv : Value) (steps : Int) : Array Value := #[.pointer (some ⟨ab, 0, none⟩), .pointer (some ⟨yb, 0, none⟩), sv, .int .i64 steps]
def tptrs (fa : Nat → TA) (n : Nat) : List Value := ptrs (fun i => (fa i).b) n
/-- All threads. -/
def Ths (c : Cf) (n : Nat) (fa : Nat → TA) (no : Nat → Nat) (sc : Nat → Nat → Opn) (p : Nat → P) : Thing := All n fun t => Th (fa t) t c.locals (no t) (sc t) (p t)
/-- The machine. -/
def Hp (A : CA) (c : Cf) (q : Q) (yb : Nat) (y : Yc) (K : Thing) (hb : Nat) (sv : Value) (n : Nat) (fa : Nat → TA) (no : Nat → Nat) (sc : Nat → Nat → Opn) (steps : Int) (p : Nat → P) : Thing :=
  Sep (Sep (Var hb (hpCells A.b yb sv steps) 53) (Seq 1 sv n (tptrs fa n))) (Sep (Sep (Core A c q) (Cyc yb y K)) (Ths c n fa no sc p))
def y0 : Yc := ⟨0, 0, 0, 0, false, .pointer none, .pointer none, false, 0, 0, 0, 0, 0⟩
def p0 : P := ⟨tc0, lc0, Emp⟩
set_option maxRecDepth 100000 in
theorem tptrs_push (fa : Nat → TA) (n : Nat) (a : TA) : tptrs (fun i => if i = n then a else fa i) (n + 1) = tptrs fa n ++ [.pointer (some ⟨a.b, 0, none⟩)] := by
  unfold tptrs
  rw [← ptrs_push]
  congr 1
  funext i
  by_cases e : i = n <;> simp [e]
section
variable {S : Nat → Prop} {w w' : World} {α : Type}
set_option maxRecDepth 100000 in
theorem all_push2 {f : Nat → α} {T : Nat → α → Thing} {n : Nat} {b : α} (h : (Sep (All n fun i => T i (f i)) (T n b)).at_ S w) : (All (n + 1) fun i => T i (if i = n then b else f i)).at_ S w := by
  have e : All (n + 1) (fun i => T i (if i = n then b else f i)) = Sep (All n fun i => T i (f i)) (T n b) := by
    simp only [All]
    rw [all_congr (T := fun i => T i (if i = n then b else f i)) (T' := fun i => T i (f i)) fun k hk => by rw [if_neg (by omega)]]
    simp
  rw [e]; exact h
set_option maxRecDepth 100000 in
theorem opc_one (o : Opn) : ∀ u ∈ (opc o).toList, u.oneCell' = true := by
  intro u hu
  simp [opc] at hu
  rcases hu with rfl | rfl | rfl | rfl | rfl | rfl <;> rfl
set_option maxRecDepth 100000 in
theorem opL_one (o : Nat → Opn) (n : Nat) : ∀ u ∈ opL o n, u.oneCell' = true := by
  induction n with
  | zero => intro u hu; simp [opL] at hu
  | succ n ih =>
    intro u hu
    rw [opL, List.mem_append] at hu
    rcases hu with hu | hu
    · exact ih u hu
    · exact opc_one _ u hu
end
section
variable {S : Nat → Prop} {w w' : World} {c : Cf} {g cap : Nat} {O : Thing} {A : CA}
/-- The machine under way. -/
def HpN (O : Thing) (c : Cf) (g cap cb : Nat) (A : CA) (yb hb : Nat) (sv : Value) (j : Nat) (fa : Nat → TA) (no : Nat → Nat) (sc : Nat → Nat → Opn) : Thing :=
  Sep (Sep (Sep (Sep (Sep (Sep O (Var cb (cfCells c (.slice (some ⟨g, 0, none⟩) c.shapes.length cap)) 36)) (Core A c q0)) (Cyc yb y0 Emp)) (Var hb (hpCells A.b yb sv 0) 53)) (RowG 65 1 sv j (tptrs fa j))) (Ths c j fa no sc fun _ => p0)
set_option maxRecDepth 100000 in
theorem hp_order {A B C D E F : Thing} {O : Thing} (h : (Sep (Sep (Sep (Sep (Sep (Sep O B) C) D) E) F) A).at_ S w) : (Sep O (Sep B (Sep (Sep E F) (Sep (Sep C D) A)))).at_ S w := by
  have h1 : (Sep O (Sep B (Sep (Sep C D) (Sep (Sep E F) A)))).at_ S w := by
    have h2 : (Sep O (Sep B (Sep C (Sep D (Sep E (Sep F A)))))).at_ S w := sepAt.assoc (sepAt.assoc (sepAt.assoc (sepAt.assoc (sepAt.assoc h))))
    exact sepAt.monoR (fun _ h => sepAt.monoR (fun _ h => sepAt.assoc' (sepAt.monoR (fun _ h => sepAt.monoR (fun _ h => sepAt.assoc' h) h) h)) h) h2
  exact sepAt.monoR (fun _ h => sepAt.monoR (fun _ h => sep12 h) h) h1
set_option maxRecDepth 100000 in
theorem hpn_done {cb yb hb n : Nat} {sv : Value} {fa : Nat → TA} {no : Nat → Nat} {sc : Nat → Nat → Opn} (hn : n ≠ 0) (h : Goes (HpN O c g cap cb A yb hb sv n fa no sc) S w w') : Goes (Sep O (Hp A c q0 yb y0 Emp hb sv n fa no sc 0 fun _ => p0)) S w w' := by
  have h1 := (h.conv fun _ _ h => hp_order h).drop (Part.both (Part.refl O) (Part.right _ _))
  exact h1.conv fun S w h => sepAt.monoR (fun S h => sepAt.monoL (fun S h => sepAt.monoR (fun S h => seq_of_row h hn) h) h) h
end
end Go.Proofs.YtnkgnhpapcnebaaGreat
