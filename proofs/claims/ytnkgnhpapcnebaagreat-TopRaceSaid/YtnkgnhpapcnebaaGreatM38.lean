/- The collector: hauls (nothing to copy). -/
import Derived.Test.YtnkgnhpapcnebaaGreatM36
import Derived.Test.YtnkgnhpapcnebaaGreatM23
import Derived.Test.YtnkgnhpapcnebaaGreatM13
set_option linter.unusedVariables false
set_option linter.unusedSimpArgs false
set_option maxHeartbeats 8000000
namespace Go.Proofs.YtnkgnhpapcnebaaGreat
open Go.RowKit
attribute [local go_sem] run_store_complex via_ret via_normal via_exit via_panic
section
variable {b s : Nat} {w : World}
set_option maxRecDepth 100000 in
theorem coi_current (w : World) : Does Tryz.prog 96 #[.pointer (some ⟨b, 0, none⟩)] w (CoI b s) (fun (cur : Bool) e => e = .returned (.int .i64 (cN cur))) (fun _ => CoI b s) := by
  rintro S ⟨cur, h⟩
  exact (coil_current h).mono fun e w' ⟨he, hw⟩ => ⟨cur, he, hw ▸ Goes.same ⟨cur, h⟩⟩
set_option maxRecDepth 100000 in
theorem coi_used (k : Int) (hk : k = 0 ∨ k = 1) (w : World) : Does Tryz.prog 98 #[.pointer (some ⟨b, 0, none⟩), .int .i64 k] w (CoI b s) (fun (_ : Unit) e => e = .returned (.int .i64 0)) (fun _ => CoI b s) := by
  rintro S ⟨cur, h⟩
  rcases hk with rfl | rfl
  · exact (coil_used0 h).mono fun e w' ⟨he, hw⟩ => ⟨(), he, hw ▸ Goes.same ⟨cur, h⟩⟩
  · exact (coil_used1 h).mono fun e w' ⟨he, hw⟩ => ⟨(), he, hw ▸ Goes.same ⟨cur, h⟩⟩
end
/-- The core, with the space open. -/
def CoreX (A : CA) (c : Cf) (q : Q) (x : SpX) : Thing :=
  Sep (Var A.b (coreCells c A) 114) (Sep (Conf c A.g A.cap) (Sep (MemI A.bm c q.m) (Sep (ShI A.bs A.bt c.frags c.stack c.F q.bn) (Sep (Sp A.bsp A.bt c q.ask x) (HnI A.bh c.threads q.h)))))
section
variable {b : Nat} {y : Yc} {Kt : Thing} {S : Nat → Prop} {w w' : World} {A : CA} {c : Cf} {q : Q} {x : SpX} {Y : Thing} {P : Program} {f : FuncId} {args : Array Value} {α : Type} {R : α → Ending → Prop}
set_option maxRecDepth 100000 in
theorem corex_open (h : (Sep (Core A c q) Y).at_ S w) : ∃ x, (Sep (CoreX A c q x) Y).at_ S w := by
  obtain ⟨S1, T1, ⟨S2, T2, v, ⟨S3, T3, cf, ⟨S4, T4, m, ⟨S5, T5, sh, ⟨S6, T6, ⟨x, sp⟩, hn, r6⟩, r5⟩, r4⟩, r3⟩, r2⟩, k, r1⟩ := h
  exact ⟨x, S1, T1, ⟨S2, T2, v, ⟨S3, T3, cf, ⟨S4, T4, m, ⟨S5, T5, sh, ⟨S6, T6, sp, hn, r6⟩, r5⟩, r4⟩, r3⟩, r2⟩, k, r1⟩
set_option maxRecDepth 100000 in
theorem corex_shut (h : (Sep (CoreX A c q x) Y).at_ S w) : (Sep (Core A c q) Y).at_ S w := by
  obtain ⟨S1, T1, ⟨S2, T2, v, ⟨S3, T3, cf, ⟨S4, T4, m, ⟨S5, T5, sh, ⟨S6, T6, sp, hn, r6⟩, r5⟩, r4⟩, r3⟩, r2⟩, k, r1⟩ := h
  exact ⟨S1, T1, ⟨S2, T2, v, ⟨S3, T3, cf, ⟨S4, T4, m, ⟨S5, T5, sh, ⟨S6, T6, ⟨x, sp⟩, hn, r6⟩, r5⟩, r4⟩, r3⟩, r2⟩, k, r1⟩
set_option maxRecDepth 100000 in
theorem corex_coi (h : Does P f args w (CoI x.k c.spine) R (fun _ => CoI x.k c.spine)) : Does P f args w (CoreX A c q x) R (fun _ => CoreX A c q x) :=
  ((h.l.r.r.r : Does P f args w (Sp A.bsp A.bt c q.ask x) R _).l.r.r.r.r : Does P f args w (CoreX A c q x) R _)
set_option maxRecDepth 100000 in
theorem corex_conf (h : (CoreX A c q x).at_ S w) : ∃ S, (Conf c A.g A.cap).at_ S w := by
  obtain ⟨S1, h1, _⟩ := sepAt.r h
  obtain ⟨S2, h2, _⟩ := sepAt.l h1
  exact ⟨S2, h2⟩
set_option maxRecDepth 100000 in
theorem corex9 (h : Goes (CoreX A c q x) S w w') : w'.cell? ⟨A.b, 0, none⟩ = some (.int .i64 c.frags) ∧ w'.cell? ⟨A.b, 1, none⟩ = some (.int .i64 c.spine) ∧ w'.cell? ⟨A.b, 2, none⟩ = some (.int .i64 c.globals) ∧ w'.cell? ⟨A.b, 3, none⟩ = some (.int .i64 c.threads) ∧ w'.cell? ⟨A.b, 4, none⟩ = some (.int .i64 c.locals) ∧ w'.cell? ⟨A.b, 5, none⟩ = some (.int .i64 0) ∧ w'.cell? ⟨A.b, 6, none⟩ = some (.int .i64 c.stack) ∧ w'.cell? ⟨A.b, 7, none⟩ = some (.int .i64 c.low) ∧ w'.cell? ⟨A.b, 8, none⟩ = some (.slice (some ⟨A.g, 0, none⟩) c.shapes.length A.cap) :=
  ⟨h.c 0 rfl, h.c 1 rfl, h.c 2 rfl, h.c 3 rfl, h.c 4 rfl, h.c 5 rfl, h.c 6 rfl, h.c 7 rfl, h.c 8 rfl⟩
set_option maxRecDepth 100000 in
theorem corex12 (h : Goes (CoreX A c q x) S w w') : w'.cell? ⟨A.bsp, 4, none⟩ = some (.int .i64 c.frags) ∧ w'.cell? ⟨A.bsp, 5, none⟩ = some (.int .i64 c.spine) ∧ w'.cell? ⟨A.bsp, 6, none⟩ = some (.int .i64 c.globals) ∧ w'.cell? ⟨A.bsp, 7, none⟩ = some (.int .i64 c.threads) ∧ w'.cell? ⟨A.bsp, 8, none⟩ = some (.int .i64 c.locals) ∧ w'.cell? ⟨A.bsp, 9, none⟩ = some (.int .i64 0) ∧ w'.cell? ⟨A.bsp, 10, none⟩ = some (.int .i64 c.stack) ∧ w'.cell? ⟨A.bsp, 11, none⟩ = some (.int .i64 c.low) ∧ w'.cell? ⟨A.bsp, 12, none⟩ = some (.slice (some ⟨x.g, 0, none⟩) c.shapes.length x.cap) ∧ w'.cell? ⟨A.bsp, 13, none⟩ = some (.pointer (some ⟨x.p, 0, none⟩)) ∧ w'.cell? ⟨A.bsp, 14, none⟩ = some (.pointer (some ⟨x.k, 0, none⟩)) ∧ w'.cell? ⟨A.bsp, 15, none⟩ = some (.pointer (some ⟨x.w, 0, none⟩)) :=
  ⟨h.r.r.r.r.l.c 4 rfl, h.r.r.r.r.l.c 5 rfl, h.r.r.r.r.l.c 6 rfl, h.r.r.r.r.l.c 7 rfl, h.r.r.r.r.l.c 8 rfl, h.r.r.r.r.l.c 9 rfl, h.r.r.r.r.l.c 10 rfl, h.r.r.r.r.l.c 11 rfl, h.r.r.r.r.l.c 12 rfl, h.r.r.r.r.l.c 13 rfl, h.r.r.r.r.l.c 14 rfl, h.r.r.r.r.l.c 15 rfl⟩
set_option maxRecDepth 100000 in
theorem cy_hauls1 (hat : y.at_ = 2) (h : (Sep (Core A c q) (Cyc b y Kt)).at_ S w) :
    Calls Tryz.prog 48 #[.pointer (some ⟨b, 0, none⟩), .pointer (some ⟨A.b, 0, none⟩)] w fun e w' => e = .returned (.tuple #[]) ∧ Goes (Sep (Core A c { q with h := { q.h with st := 0, sn := q.h.sn != false } }) (Cyc b (y.to 8) Kt)) S w w' := by
  have c1 := (Goes.begin h).r.c 1 (v := .int .i64 y.at_) rfl
  rw [hat] at c1
  have k12 := (Goes.begin h).l.c 12 (v := .pointer (some ⟨A.bh, 0, none⟩)) rfl
  have HL := Lib.hid ((core_hn (k := fun _ => { q.h with st := 0, sn := q.h.sn != false }) (hni_post 0 false (by decide) (by decide) _)).l.on (Goes.begin h))
  clear h
  go_enter Tryz.func48, Tryz.ntmps48
  go_wp2_with fail
  with_reducible refine HL.out.mono ?_
  rintro e w2 ⟨_, rfl, hg⟩
  have HE := Lib.hid (hg.call (sepR fun S h => cy_enters 8 h))
  clear HL c1 k12 hg
  go_wp2_with fail
  with_reducible refine HE.out.mono ?_
  rintro e w2 ⟨rfl, hg⟩
  have HG := Lib.hid hg
  clear HE hg
  go_wp2_with fail
  first | go_end0 | ((try simp only [Exit.inBlock, Exit.then]); refine bodyPost_ret (results_none rfl _ _ _) rfl ?_)
  exact ⟨rfl, HG.out⟩
set_option maxRecDepth 100000 in
theorem cy_hauls0 (hc : c.ok) (hat : ¬ y.at_ = 2) (hh : y.h = .pointer none) (hmv : y.mv = 0) (h : (Sep (Core A c q) (Cyc b y Kt)).at_ S w) :
    Calls Tryz.prog 48 #[.pointer (some ⟨b, 0, none⟩), .pointer (some ⟨A.b, 0, none⟩)] w fun e w' => ∃ (hv : Value), e = .returned (.tuple #[]) ∧ Goes (Sep (Core A c q) (Cyc b { y with h := hv, at_ := 2 } Kt)) S w w' := by
  have HM0 := Lib.hid hmv
  clear hmv
  obtain ⟨x, h⟩ := corex_open h
  have g0 := Goes.begin h
  have c1 := g0.r.c 1 (v := .int .i64 y.at_) rfl
  have c6 := g0.r.c 6 (v := y.h) rfl
  rw [hh] at c6
  have k11 := g0.l.c 11 (v := .pointer (some ⟨A.bsp, 0, none⟩)) rfl
  obtain ⟨s0, s1, s2, s3, s4, s5, s6, s7, s8, s9, s10, s11⟩ := corex12 g0.l
  have HS := Lib.hid fun w1 (gg : Goes (Sep (CoreX A c q x) (Cyc b y Kt)) S w w1) => gg.plain (sh_coil (c := c) (x := x) w1)
  have HCU := Lib.hid fun w1 (gg : Goes (Sep (CoreX A c q x) (Cyc b y Kt)) S w w1) => (corex_coi (coi_current w1)).l.on gg
  have HUS := Lib.hid fun L (hL : L = 0 ∨ L = 1) w1 (gg : Goes (Sep (CoreX A c q x) (Cyc b y Kt)) S w w1) => (corex_coi (coi_used L hL w1)).l.on gg
  have HNW := Lib.hid fun L w1 (gg : Goes (Sep (CoreX A c q x) (Cyc b y Kt)) S w w1) => haul_new L y.sn hc (corex_conf gg.l.is).choose_spec
  have HST := Lib.hid fun L hb g' cap' (hL : L = 0 ∨ L = 1) w1 p q_ r (gg : Goes (Sep (Sep (CoreX A c q x) (Cyc b { y with h := .pointer (some ⟨hb, 0, none⟩) } Kt)) (Haul hb c g' cap' ⟨L, y.sn, 0, 0⟩)) S w w1) => gg.call (sepR fun S h => haul_step (t := ⟨L, y.sn, 0, 0⟩) hc hL rfl h p q_ r)
  have HS2 := Lib.hid fun hb L g' cap' w1 (gg : Goes (Sep (Sep (CoreX A c q x) (Cyc b { y with h := .pointer (some ⟨hb, 0, none⟩) } Kt)) (Haul hb c g' cap' ⟨L, y.sn, 0, 0⟩)) S w w1) => gg.plain (sh_coil (c := c) (x := x) w1)
  have HHH := Lib.hid hh
  have HSA := Lib.hid (HS.out _ g0)
  unfold shV at HS HSA HS2
  simp only [shCells] at HS HSA HS2
  unfold cfV at HNW
  clear h g0 hc hh
  go_enter Tryz.func48, Tryz.ntmps48
  go_wp2_with fail
  with_reducible refine HSA.out.mono ?_
  rintro e w1 ⟨rfl, hg⟩
  have HCA := Lib.hid (HCU.out _ hg)
  clear HSA HCU hg c1 c6 k11 s0 s1 s2 s3 s4 s5 s6 s7 s8 s9 s10 s11
  go_wp2_with fail
  with_reducible refine HCA.out.mono ?_
  rintro e w2 ⟨cur, rfl, hgx⟩
  have hg : Goes (Sep (CoreX A c q x) (Cyc b y Kt)) S w w2 := hgx
  clear HCA hgx
  have hL : ∃ L : Int, (1 - cN cur) = L ∧ IntKind.i64.wrap L = L ∧ (L = 0 ∨ L = 1) := by cases cur <;> exact ⟨_, rfl, by decide, by simp [cN]⟩
  obtain ⟨L, hL1, hL2, hL3⟩ := hL
  rw [show cN cur = 1 - L by omega]
  have e1 : (1 : Int) - (1 - L) = L := by omega
  clear hL1 cur
  have HL3 := Lib.hid hL3
  clear hL3
  go_upto_region 5 with fail
  have g5 := hg.drew_
  clear hg
  refine wp_region_held_drew (S := fun w' => w'.cell? ⟨A.b, 11, none⟩ = some (.pointer (some ⟨A.bsp, 0, none⟩)) ∧ w'.cell? ⟨b, 7, none⟩ = some (.bool y.sn) ∧ (w'.cell? ⟨A.b, 0, none⟩ = some (.int .i64 c.frags) ∧ w'.cell? ⟨A.b, 1, none⟩ = some (.int .i64 c.spine) ∧ w'.cell? ⟨A.b, 2, none⟩ = some (.int .i64 c.globals) ∧ w'.cell? ⟨A.b, 3, none⟩ = some (.int .i64 c.threads) ∧ w'.cell? ⟨A.b, 4, none⟩ = some (.int .i64 c.locals) ∧ w'.cell? ⟨A.b, 5, none⟩ = some (.int .i64 0) ∧ w'.cell? ⟨A.b, 6, none⟩ = some (.int .i64 c.stack) ∧ w'.cell? ⟨A.b, 7, none⟩ = some (.int .i64 c.low) ∧ w'.cell? ⟨A.b, 8, none⟩ = some (.slice (some ⟨A.g, 0, none⟩) c.shapes.length A.cap)) ∧ w'.cell? ⟨A.bsp, 4, none⟩ = some (.int .i64 c.frags) ∧ w'.cell? ⟨A.bsp, 5, none⟩ = some (.int .i64 c.spine) ∧ w'.cell? ⟨A.bsp, 6, none⟩ = some (.int .i64 c.globals) ∧ w'.cell? ⟨A.bsp, 7, none⟩ = some (.int .i64 c.threads) ∧ w'.cell? ⟨A.bsp, 8, none⟩ = some (.int .i64 c.locals) ∧ w'.cell? ⟨A.bsp, 9, none⟩ = some (.int .i64 0) ∧ w'.cell? ⟨A.bsp, 10, none⟩ = some (.int .i64 c.stack) ∧ w'.cell? ⟨A.bsp, 11, none⟩ = some (.int .i64 c.low) ∧ w'.cell? ⟨A.bsp, 12, none⟩ = some (.slice (some ⟨x.g, 0, none⟩) c.shapes.length x.cap) ∧ w'.cell? ⟨A.bsp, 13, none⟩ = some (.pointer (some ⟨x.p, 0, none⟩)) ∧ w'.cell? ⟨A.bsp, 14, none⟩ = some (.pointer (some ⟨x.k, 0, none⟩)) ∧ w'.cell? ⟨A.bsp, 15, none⟩ = some (.pointer (some ⟨x.w, 0, none⟩))) (by kernel_rfl) ⟨g5.l.c 11 (v := .pointer (some ⟨A.bsp, 0, none⟩)) rfl, g5.r.c 7 (v := .bool y.sn) rfl, corex9 g5.l, corex12 g5.l⟩ (fun hHeld => ?_)
  generalize w2.drew = wd at *
  refine wpAnyH_take (i := 0) (oi := _) (v := ?_) rfl (by kernel_rfl) (by kernel_rfl) (by kernel_rfl) (fun _ _ _ h => h) (Or.inl ⟨by rfl, ?_⟩) (by assumption) ?_
  rotate_left
  · intro w hSw
    (try dsimp only at hSw)
    go_simp
    with_reducible rfl
  try simp only [Act.put, List.setIfInBounds_toArray, List.set_cons_zero, List.set_cons_succ]
  refine wpAnyH_take (i := 1) (oi := _) (v := ?_) rfl (by kernel_rfl) (by kernel_rfl) (by kernel_rfl) (fun _ _ _ h => h) (Or.inl ⟨by rfl, ?_⟩) (by assumption) ?_
  rotate_left
  · intro w hSw
    (try dsimp only at hSw)
    go_simp
    with_reducible rfl
  try simp only [Act.put, List.setIfInBounds_toArray, List.set_cons_zero, List.set_cons_succ]
  refine wpAnyH_take (i := 2) (oi := _) (v := ?_) rfl (by kernel_rfl) (by kernel_rfl) (by kernel_rfl) (fun _ _ _ h => h) (Or.inl ⟨by rfl, ?_⟩) (by assumption) ?_
  rotate_left
  · intro w hSw
    (try dsimp only at hSw)
    go_simp
    with_reducible rfl
  try simp only [Act.put, List.setIfInBounds_toArray, List.set_cons_zero, List.set_cons_succ]
  refine wpAnyH_take (i := 3) (oi := _) (v := ?_) rfl (by kernel_rfl) (by kernel_rfl) (by kernel_rfl) (fun _ _ _ h => h) (Or.inl ⟨by rfl, ?_⟩) (by assumption) ?_
  rotate_left
  · intro w hSw
    (try dsimp only at hSw)
    go_simp
    with_reducible rfl
  try simp only [Act.put, List.setIfInBounds_toArray, List.set_cons_zero, List.set_cons_succ]
  refine wpAnyH_take (i := 4) (oi := _) (v := ?_) rfl (by kernel_rfl) (by kernel_rfl) (by kernel_rfl) (fun _ _ _ h => h) (Or.inl ⟨by rfl, ?_⟩) (by assumption) ?_
  rotate_left
  · intro w hSw
    (try dsimp only at hSw)
    go_simp
    with_reducible rfl
  try simp only [Act.put, List.setIfInBounds_toArray, List.set_cons_zero, List.set_cons_succ]
  refine wpAnyH_take (i := 5) (oi := _) (v := ?_) rfl (by kernel_rfl) (by kernel_rfl) (by kernel_rfl) (fun _ _ _ h => h) (Or.inl ⟨by rfl, ?_⟩) (by assumption) ?_
  rotate_left
  · intro w hSw
    (try dsimp only at hSw)
    go_simp
    with_reducible rfl
  try simp only [Act.put, List.setIfInBounds_toArray, List.set_cons_zero, List.set_cons_succ]
  refine wpAnyH_take (i := 6) (oi := _) (v := ?_) rfl (by kernel_rfl) (by kernel_rfl) (by kernel_rfl) (fun _ _ _ h => h) (Or.inl ⟨by rfl, ?_⟩) (by assumption) ?_
  rotate_left
  · intro w hSw
    (try dsimp only at hSw)
    go_simp
    with_reducible rfl
  try simp only [Act.put, List.setIfInBounds_toArray, List.set_cons_zero, List.set_cons_succ]
  refine wpAnyH_take (i := 7) (oi := _) (v := ?_) rfl (by kernel_rfl) (by kernel_rfl) (by kernel_rfl) (fun _ _ _ h => h) (Or.inl ⟨by rfl, ?_⟩) (by assumption) ?_
  rotate_left
  · intro w hSw
    (try dsimp only at hSw)
    go_simp
    with_reducible rfl
  try simp only [Act.put, List.setIfInBounds_toArray, List.set_cons_zero, List.set_cons_succ]
  refine wpAnyH_take (i := 8) (oi := _) (v := ?_) rfl (by kernel_rfl) (by kernel_rfl) (by kernel_rfl) (fun _ _ _ h => h) (Or.inl ⟨by rfl, ?_⟩) (by assumption) ?_
  rotate_left
  · intro w hSw
    (try dsimp only at hSw)
    go_simp
    with_reducible rfl
  try simp only [Act.put, List.setIfInBounds_toArray, List.set_cons_zero, List.set_cons_succ]
  refine wpAnyH_take (i := 9) (oi := _) (v := ?_) rfl (by kernel_rfl) (by kernel_rfl) (by kernel_rfl) (fun _ _ _ h => h) (Or.inl ⟨by rfl, ?_⟩) (by assumption) ?_
  rotate_left
  · intro w hSw
    (try dsimp only at hSw)
    go_simp
    with_reducible rfl
  try simp only [Act.put, List.setIfInBounds_toArray, List.set_cons_zero, List.set_cons_succ]
  refine wpAnyH_take (i := 10) (oi := _) (v := ?_) rfl (by kernel_rfl) (by kernel_rfl) (by kernel_rfl) (fun _ _ _ h => h) (Or.inl ⟨by rfl, ?_⟩) (by assumption) ?_
  rotate_left
  · intro w hSw
    (try dsimp only at hSw)
    go_simp
    with_reducible rfl
  try simp only [Act.put, List.setIfInBounds_toArray, List.set_cons_zero, List.set_cons_succ]
  refine wpAnyH_take (i := 11) (oi := _) (v := ?_) rfl (by kernel_rfl) (by kernel_rfl) (by kernel_rfl) (fun _ _ _ h => h) (Or.inl ⟨by rfl, ?_⟩) (by assumption) ?_
  rotate_left
  · intro w hSw
    (try dsimp only at hSw)
    go_simp
    with_reducible rfl
  try simp only [Act.put, List.setIfInBounds_toArray, List.set_cons_zero, List.set_cons_succ]
  refine wpAnyH_take (i := 12) (oi := _) (v := ?_) rfl (by kernel_rfl) (by kernel_rfl) (by kernel_rfl) (fun _ _ _ h => h) (Or.inl ⟨by rfl, ?_⟩) (by assumption) ?_
  rotate_left
  · intro w hSw
    (try dsimp only at hSw)
    go_simp
    with_reducible rfl
  try simp only [Act.put, List.setIfInBounds_toArray, List.set_cons_zero, List.set_cons_succ]
  refine wpAnyH_take (i := 14) (oi := _) (v := ?_) rfl (by kernel_rfl) (by kernel_rfl) (by kernel_rfl) (fun _ _ _ h => h) (Or.inl ⟨by rfl, ?_⟩) (by assumption) ?_
  rotate_left
  · intro w hSw
    (try dsimp only at hSw)
    go_simp
    with_reducible rfl
  try simp only [Act.put, List.setIfInBounds_toArray, List.set_cons_zero, List.set_cons_succ]
  refine wpAnyH_take (i := 16) (oi := _) (v := ?_) rfl (by kernel_rfl) (by kernel_rfl) (by kernel_rfl) (fun _ _ _ h => h) (Or.inl ⟨by rfl, ?_⟩) (by assumption) ?_
  rotate_left
  · intro w hSw
    (try dsimp only at hSw)
    go_simp
    with_reducible rfl
  try simp only [Act.put, List.setIfInBounds_toArray, List.set_cons_zero, List.set_cons_succ]
  refine wpAnyH_take (i := 17) (oi := _) (v := ?_) rfl (by kernel_rfl) (by kernel_rfl) (by kernel_rfl) (fun _ _ _ h => h) (Or.inl ⟨by rfl, ?_⟩) (by assumption) ?_
  rotate_left
  · intro w hSw
    (try dsimp only at hSw)
    go_simp
    with_reducible rfl
  try simp only [Act.put, List.setIfInBounds_toArray, List.set_cons_zero, List.set_cons_succ]
  refine wpAnyH_take (i := 18) (oi := _) (v := ?_) rfl (by kernel_rfl) (by kernel_rfl) (by kernel_rfl) (fun _ _ _ h => h) (Or.inl ⟨by rfl, ?_⟩) (by assumption) ?_
  rotate_left
  · intro w hSw
    (try dsimp only at hSw)
    go_simp
    with_reducible rfl
  try simp only [Act.put, List.setIfInBounds_toArray, List.set_cons_zero, List.set_cons_succ]
  refine wpAnyH_take (i := 19) (oi := _) (v := ?_) rfl (by kernel_rfl) (by kernel_rfl) (by kernel_rfl) (fun _ _ _ h => h) (Or.inl ⟨by rfl, ?_⟩) (by assumption) ?_
  rotate_left
  · intro w hSw
    (try dsimp only at hSw)
    go_simp
    with_reducible rfl
  try simp only [Act.put, List.setIfInBounds_toArray, List.set_cons_zero, List.set_cons_succ]
  have HSB := Lib.hid (HS.out _ g5)
  clear HS
  refine wpAnyH_ready (rs := [13]) (by kernel_rfl) (by simp) ?_
  refine AllReadyH.cons (o := _) rfl (fun K hK => ?_) AllReadyH.nil
  go_simp
  with_reducible refine HSB.out.mono ?_
  rintro e w3 ⟨rfl, hg⟩
  clear HSB g5 hHeld
  go_wp2_with fail
  refine hK.out _ _ ⟨hg.l.c 11 (v := .pointer (some ⟨A.bsp, 0, none⟩)) rfl, hg.r.c 7 (v := .bool y.sn) rfl, corex9 hg.l, corex12 hg.l⟩ (fun hHeld => ?_)
  clear hK K
  try simp only [Act.put, List.getElem_toArray, List.getElem_cons_zero, List.getElem_cons_succ, List.setIfInBounds_toArray, List.set_cons_zero, List.set_cons_succ]
  have HUA := Lib.hid (HUS.out L HL3.out _ hg)
  clear HUS hg hHeld
  refine wpAnyH_ready (rs := [15]) (by kernel_rfl) (by simp) ?_
  refine AllReadyH.cons (o := _) rfl (fun K hK => ?_) AllReadyH.nil
  go_simp
  with_reducible refine HUA.out.mono ?_
  rintro e w4 ⟨_, rfl, hgx⟩
  have hg : Goes (Sep (CoreX A c q x) (Cyc b y Kt)) S w w4 := hgx
  clear HUA hgx
  go_wp2_with fail
  refine hK.out _ _ ⟨hg.l.c 11 (v := .pointer (some ⟨A.bsp, 0, none⟩)) rfl, hg.r.c 7 (v := .bool y.sn) rfl, corex9 hg.l, corex12 hg.l⟩ (fun hHeld => ?_)
  clear hK K
  try simp only [Act.put, List.getElem_toArray, List.getElem_cons_zero, List.getElem_cons_succ, List.setIfInBounds_toArray, List.set_cons_zero, List.set_cons_succ]
  have HNA := Lib.hid (HNW.out L _ hg)
  clear HNW hHeld
  refine wpAnyH_ready (rs := [20]) (by kernel_rfl) (by simp) ?_
  refine AllReadyH.cons (o := _) rfl (fun K hK => ?_) AllReadyH.nil
  go_simp
  with_reducible refine HNA.out.mono ?_
  rintro e w5 ⟨hb, g', cap', rfl, hs⟩
  have g6 : Goes (Sep (Sep (CoreX A c q x) (Cyc b y Kt)) (Haul hb c g' cap' ⟨L, y.sn, 0, 0⟩)) S w w5 := hg.moreSt hs
  clear HNA hs hg
  go_wp2_with fail
  refine hK.out _ _ ⟨g6.l.l.c 11 (v := .pointer (some ⟨A.bsp, 0, none⟩)) rfl, g6.l.r.c 7 (v := .bool y.sn) rfl, corex9 g6.l.l, corex12 g6.l.l⟩ (fun hHeld => ?_)
  clear hK K
  try simp only [Act.put, List.getElem_toArray, List.getElem_cons_zero, List.getElem_cons_succ, List.setIfInBounds_toArray, List.set_cons_zero, List.set_cons_succ]
  refine wpAnyH_take (i := 21) (oi := _) (v := ?_) rfl (by kernel_rfl) (by kernel_rfl) (by kernel_rfl) (fun _ _ _ h => h) (Or.inl ⟨by rfl, ?_⟩) (by assumption) ?_
  rotate_left
  · intro w hSw
    (try dsimp only at hSw)
    go_simp
    with_reducible rfl
  try simp only [Act.put, List.setIfInBounds_toArray, List.set_cons_zero, List.set_cons_succ]
  refine wpAnyH_take (i := 22) (oi := _) (v := ?_) rfl (by kernel_rfl) (by kernel_rfl) (by kernel_rfl) (fun _ _ _ h => h) (Or.inl ⟨by rfl, ?_⟩) (by assumption) ?_
  rotate_left
  · intro w hSw
    (try dsimp only at hSw)
    go_simp
    with_reducible rfl
  try simp only [Act.put, List.setIfInBounds_toArray, List.set_cons_zero, List.set_cons_succ]
  have c6 := g6.l.r.c 6 (v := y.h) rfl
  rw [HHH.out] at c6
  have f6 := g6.l.r.fr 6
  have g7 : Goes (Sep (Sep (CoreX A c q x) (Cyc b { y with h := .pointer (some ⟨hb, 0, none⟩) } Kt)) (Haul hb c g' cap' ⟨L, y.sn, 0, 0⟩)) S w _ := g6.then fun S h => goesL (fun S h => goesR (fun S h => (Goes.begin h).put 6 (.pointer (some ⟨hb, 0, none⟩)) (cs' := cyCells { y with h := .pointer (some ⟨hb, 0, none⟩) }) rfl) S h) S h
  clear hHeld
  refine wpAnyH_ready (rs := [23]) (by kernel_rfl) (by simp) ?_
  refine AllReadyH.cons (o := _) rfl (fun K hK => ?_) AllReadyH.nil
  go_simp
  go_wp2_with fail
  refine hK.out _ _ ⟨g7.l.l.c 11 (v := .pointer (some ⟨A.bsp, 0, none⟩)) rfl, g7.l.r.c 7 (v := .bool y.sn) rfl, corex9 g7.l.l, corex12 g7.l.l⟩ (fun hHeld => ?_)
  clear hK K
  try simp only [Act.put, List.getElem_toArray, List.getElem_cons_zero, List.getElem_cons_succ, List.setIfInBounds_toArray, List.set_cons_zero, List.set_cons_succ]
  refine wpAnyH_done (by kernel_rfl) ?_ _
  clear hHeld g6 c6 f6 HHH
  generalize World.setCell _ _ _ = w6 at *
  go_wp2_with fail
  have g8 := g7.drew_
  clear g7
  refine wp_region_held_drew (S := fun w' => w'.cell? ⟨b, 6, none⟩ = some (.pointer (some ⟨hb, 0, none⟩)) ∧ w'.cell? ⟨A.b, 9, none⟩ = some (.pointer (some ⟨A.bm, 0, none⟩)) ∧ w'.cell? ⟨A.b, 10, none⟩ = some (.pointer (some ⟨A.bs, 0, none⟩)) ∧ w'.cell? ⟨A.b, 11, none⟩ = some (.pointer (some ⟨A.bsp, 0, none⟩)) ∧ w'.cell? ⟨A.bsp, 4, none⟩ = some (.int .i64 c.frags) ∧ w'.cell? ⟨A.bsp, 5, none⟩ = some (.int .i64 c.spine) ∧ w'.cell? ⟨A.bsp, 6, none⟩ = some (.int .i64 c.globals) ∧ w'.cell? ⟨A.bsp, 7, none⟩ = some (.int .i64 c.threads) ∧ w'.cell? ⟨A.bsp, 8, none⟩ = some (.int .i64 c.locals) ∧ w'.cell? ⟨A.bsp, 9, none⟩ = some (.int .i64 0) ∧ w'.cell? ⟨A.bsp, 10, none⟩ = some (.int .i64 c.stack) ∧ w'.cell? ⟨A.bsp, 11, none⟩ = some (.int .i64 c.low) ∧ w'.cell? ⟨A.bsp, 12, none⟩ = some (.slice (some ⟨x.g, 0, none⟩) c.shapes.length x.cap) ∧ w'.cell? ⟨A.bsp, 13, none⟩ = some (.pointer (some ⟨x.p, 0, none⟩)) ∧ w'.cell? ⟨A.bsp, 14, none⟩ = some (.pointer (some ⟨x.k, 0, none⟩)) ∧ w'.cell? ⟨A.bsp, 15, none⟩ = some (.pointer (some ⟨x.w, 0, none⟩))) (by kernel_rfl) ⟨g8.l.r.c 6 (v := .pointer (some ⟨hb, 0, none⟩)) rfl, g8.l.l.c 9 (v := .pointer (some ⟨A.bm, 0, none⟩)) rfl, g8.l.l.c 10 (v := .pointer (some ⟨A.bs, 0, none⟩)) rfl, g8.l.l.c 11 (v := .pointer (some ⟨A.bsp, 0, none⟩)) rfl, corex12 g8.l.l⟩ (fun hHeld => ?_)
  generalize w6.drew = wd at *
  refine wpAnyH_take (i := 0) (oi := _) (v := ?_) rfl (by kernel_rfl) (by kernel_rfl) (by kernel_rfl) (fun _ _ _ h => h) (Or.inl ⟨by rfl, ?_⟩) (by assumption) ?_
  rotate_left
  · intro w hSw
    (try dsimp only at hSw)
    go_simp
    with_reducible rfl
  try simp only [Act.put, List.setIfInBounds_toArray, List.set_cons_zero, List.set_cons_succ]
  refine wpAnyH_take (i := 1) (oi := _) (v := ?_) rfl (by kernel_rfl) (by kernel_rfl) (by kernel_rfl) (fun _ _ _ h => h) (Or.inl ⟨by rfl, ?_⟩) (by assumption) ?_
  rotate_left
  · intro w hSw
    (try dsimp only at hSw)
    go_simp
    with_reducible rfl
  try simp only [Act.put, List.setIfInBounds_toArray, List.set_cons_zero, List.set_cons_succ]
  refine wpAnyH_take (i := 2) (oi := _) (v := ?_) rfl (by kernel_rfl) (by kernel_rfl) (by kernel_rfl) (fun _ _ _ h => h) (Or.inl ⟨by rfl, ?_⟩) (by assumption) ?_
  rotate_left
  · intro w hSw
    (try dsimp only at hSw)
    go_simp
    with_reducible rfl
  try simp only [Act.put, List.setIfInBounds_toArray, List.set_cons_zero, List.set_cons_succ]
  refine wpAnyH_take (i := 3) (oi := _) (v := ?_) rfl (by kernel_rfl) (by kernel_rfl) (by kernel_rfl) (fun _ _ _ h => h) (Or.inl ⟨by rfl, ?_⟩) (by assumption) ?_
  rotate_left
  · intro w hSw
    (try dsimp only at hSw)
    go_simp
    with_reducible rfl
  try simp only [Act.put, List.setIfInBounds_toArray, List.set_cons_zero, List.set_cons_succ]
  refine wpAnyH_take (i := 4) (oi := _) (v := ?_) rfl (by kernel_rfl) (by kernel_rfl) (by kernel_rfl) (fun _ _ _ h => h) (Or.inl ⟨by rfl, ?_⟩) (by assumption) ?_
  rotate_left
  · intro w hSw
    (try dsimp only at hSw)
    go_simp
    with_reducible rfl
  try simp only [Act.put, List.setIfInBounds_toArray, List.set_cons_zero, List.set_cons_succ]
  refine wpAnyH_take (i := 5) (oi := _) (v := ?_) rfl (by kernel_rfl) (by kernel_rfl) (by kernel_rfl) (fun _ _ _ h => h) (Or.inl ⟨by rfl, ?_⟩) (by assumption) ?_
  rotate_left
  · intro w hSw
    (try dsimp only at hSw)
    go_simp
    with_reducible rfl
  try simp only [Act.put, List.setIfInBounds_toArray, List.set_cons_zero, List.set_cons_succ]
  refine wpAnyH_take (i := 6) (oi := _) (v := ?_) rfl (by kernel_rfl) (by kernel_rfl) (by kernel_rfl) (fun _ _ _ h => h) (Or.inl ⟨by rfl, ?_⟩) (by assumption) ?_
  rotate_left
  · intro w hSw
    (try dsimp only at hSw)
    go_simp
    with_reducible rfl
  try simp only [Act.put, List.setIfInBounds_toArray, List.set_cons_zero, List.set_cons_succ]
  refine wpAnyH_take (i := 7) (oi := _) (v := ?_) rfl (by kernel_rfl) (by kernel_rfl) (by kernel_rfl) (fun _ _ _ h => h) (Or.inl ⟨by rfl, ?_⟩) (by assumption) ?_
  rotate_left
  · intro w hSw
    (try dsimp only at hSw)
    go_simp
    with_reducible rfl
  try simp only [Act.put, List.setIfInBounds_toArray, List.set_cons_zero, List.set_cons_succ]
  refine wpAnyH_take (i := 8) (oi := _) (v := ?_) rfl (by kernel_rfl) (by kernel_rfl) (by kernel_rfl) (fun _ _ _ h => h) (Or.inl ⟨by rfl, ?_⟩) (by assumption) ?_
  rotate_left
  · intro w hSw
    (try dsimp only at hSw)
    go_simp
    with_reducible rfl
  try simp only [Act.put, List.setIfInBounds_toArray, List.set_cons_zero, List.set_cons_succ]
  refine wpAnyH_take (i := 9) (oi := _) (v := ?_) rfl (by kernel_rfl) (by kernel_rfl) (by kernel_rfl) (fun _ _ _ h => h) (Or.inl ⟨by rfl, ?_⟩) (by assumption) ?_
  rotate_left
  · intro w hSw
    (try dsimp only at hSw)
    go_simp
    with_reducible rfl
  try simp only [Act.put, List.setIfInBounds_toArray, List.set_cons_zero, List.set_cons_succ]
  refine wpAnyH_take (i := 10) (oi := _) (v := ?_) rfl (by kernel_rfl) (by kernel_rfl) (by kernel_rfl) (fun _ _ _ h => h) (Or.inl ⟨by rfl, ?_⟩) (by assumption) ?_
  rotate_left
  · intro w hSw
    (try dsimp only at hSw)
    go_simp
    with_reducible rfl
  try simp only [Act.put, List.setIfInBounds_toArray, List.set_cons_zero, List.set_cons_succ]
  refine wpAnyH_take (i := 11) (oi := _) (v := ?_) rfl (by kernel_rfl) (by kernel_rfl) (by kernel_rfl) (fun _ _ _ h => h) (Or.inl ⟨by rfl, ?_⟩) (by assumption) ?_
  rotate_left
  · intro w hSw
    (try dsimp only at hSw)
    go_simp
    with_reducible rfl
  try simp only [Act.put, List.setIfInBounds_toArray, List.set_cons_zero, List.set_cons_succ]
  refine wpAnyH_take (i := 12) (oi := _) (v := ?_) rfl (by kernel_rfl) (by kernel_rfl) (by kernel_rfl) (fun _ _ _ h => h) (Or.inl ⟨by rfl, ?_⟩) (by assumption) ?_
  rotate_left
  · intro w hSw
    (try dsimp only at hSw)
    go_simp
    with_reducible rfl
  try simp only [Act.put, List.setIfInBounds_toArray, List.set_cons_zero, List.set_cons_succ]
  refine wpAnyH_take (i := 13) (oi := _) (v := ?_) rfl (by kernel_rfl) (by kernel_rfl) (by kernel_rfl) (fun _ _ _ h => h) (Or.inl ⟨by rfl, ?_⟩) (by assumption) ?_
  rotate_left
  · intro w hSw
    (try dsimp only at hSw)
    go_simp
    with_reducible rfl
  try simp only [Act.put, List.setIfInBounds_toArray, List.set_cons_zero, List.set_cons_succ]
  refine wpAnyH_take (i := 14) (oi := _) (v := ?_) rfl (by kernel_rfl) (by kernel_rfl) (by kernel_rfl) (fun _ _ _ h => h) (Or.inl ⟨by rfl, ?_⟩) (by assumption) ?_
  rotate_left
  · intro w hSw
    (try dsimp only at hSw)
    go_simp
    with_reducible rfl
  try simp only [Act.put, List.setIfInBounds_toArray, List.set_cons_zero, List.set_cons_succ]
  refine wpAnyH_take (i := 15) (oi := _) (v := ?_) rfl (by kernel_rfl) (by kernel_rfl) (by kernel_rfl) (fun _ _ _ h => h) (Or.inl ⟨by rfl, ?_⟩) (by assumption) ?_
  rotate_left
  · intro w hSw
    (try dsimp only at hSw)
    go_simp
    with_reducible rfl
  try simp only [Act.put, List.setIfInBounds_toArray, List.set_cons_zero, List.set_cons_succ]
  refine wpAnyH_take (i := 16) (oi := _) (v := ?_) rfl (by kernel_rfl) (by kernel_rfl) (by kernel_rfl) (fun _ _ _ h => h) (Or.inl ⟨by rfl, ?_⟩) (by assumption) ?_
  rotate_left
  · intro w hSw
    (try dsimp only at hSw)
    go_simp
    with_reducible rfl
  try simp only [Act.put, List.setIfInBounds_toArray, List.set_cons_zero, List.set_cons_succ]
  refine wpAnyH_take (i := 17) (oi := _) (v := ?_) rfl (by kernel_rfl) (by kernel_rfl) (by kernel_rfl) (fun _ _ _ h => h) (Or.inl ⟨by rfl, ?_⟩) (by assumption) ?_
  rotate_left
  · intro w hSw
    (try dsimp only at hSw)
    go_simp
    with_reducible rfl
  try simp only [Act.put, List.setIfInBounds_toArray, List.set_cons_zero, List.set_cons_succ]
  refine wpAnyH_take (i := 18) (oi := _) (v := ?_) rfl (by kernel_rfl) (by kernel_rfl) (by kernel_rfl) (fun _ _ _ h => h) (Or.inl ⟨by rfl, ?_⟩) (by assumption) ?_
  rotate_left
  · intro w hSw
    (try dsimp only at hSw)
    go_simp
    with_reducible rfl
  try simp only [Act.put, List.setIfInBounds_toArray, List.set_cons_zero, List.set_cons_succ]
  have HSC := Lib.hid (HS2.out _ _ _ _ _ g8)
  clear HS2
  refine wpAnyH_ready (rs := [19]) (by kernel_rfl) (by simp) ?_
  refine AllReadyH.cons (o := _) rfl (fun K hK => ?_) AllReadyH.nil
  go_simp
  with_reducible refine HSC.out.mono ?_
  rintro e w7 ⟨rfl, hg⟩
  clear HSC g8 hHeld
  go_wp2_with fail
  refine hK.out _ _ ⟨hg.l.r.c 6 (v := .pointer (some ⟨hb, 0, none⟩)) rfl, hg.l.l.c 9 (v := .pointer (some ⟨A.bm, 0, none⟩)) rfl, hg.l.l.c 10 (v := .pointer (some ⟨A.bs, 0, none⟩)) rfl, hg.l.l.c 11 (v := .pointer (some ⟨A.bsp, 0, none⟩)) rfl, corex12 hg.l.l⟩ (fun hHeld => ?_)
  clear hK K
  try simp only [Act.put, List.getElem_toArray, List.getElem_cons_zero, List.getElem_cons_succ, List.setIfInBounds_toArray, List.set_cons_zero, List.set_cons_succ]
  have HTA := Lib.hid (HST.out _ _ _ _ HL3.out _ (.pointer (some ⟨A.bm, 0, none⟩)) (.pointer (some ⟨A.bs, 0, none⟩)) (.pointer (some ⟨x.k, 0, none⟩)) hg)
  clear HST hg hHeld
  refine wpAnyH_ready (rs := [20]) (by kernel_rfl) (by simp) ?_
  refine AllReadyH.cons (o := _) rfl (fun K hK => ?_) AllReadyH.nil
  go_simp
  with_reducible refine HTA.out.mono ?_
  rintro e w8 ⟨rfl, hgx⟩
  have hg : Goes (Sep (Sep (CoreX A c q x) (Cyc b { y with h := .pointer (some ⟨hb, 0, none⟩) } Kt)) (Haul hb c g' cap' ⟨L, y.sn, 11, wrap64 (0 + 1)⟩)) S w w8 := hgx
  clear HTA hgx
  go_wp2_with fail
  refine hK.out _ _ ⟨hg.l.r.c 6 (v := .pointer (some ⟨hb, 0, none⟩)) rfl, hg.l.l.c 9 (v := .pointer (some ⟨A.bm, 0, none⟩)) rfl, hg.l.l.c 10 (v := .pointer (some ⟨A.bs, 0, none⟩)) rfl, hg.l.l.c 11 (v := .pointer (some ⟨A.bsp, 0, none⟩)) rfl, corex12 hg.l.l⟩ (fun hHeld => ?_)
  clear hK K
  try simp only [Act.put, List.getElem_toArray, List.getElem_cons_zero, List.getElem_cons_succ, List.setIfInBounds_toArray, List.set_cons_zero, List.set_cons_succ]
  refine wpAnyH_done (by kernel_rfl) ?_ _
  clear hHeld
  have HER := Lib.hid (hg.look (lookR fun S h => haul_errno h))
  have c6 := hg.l.r.c 6 (v := .pointer (some ⟨hb, 0, none⟩)) rfl
  have c13 := hg.l.r.c 13 (v := .int .i64 0) rfl
  have f13 := hg.l.r.fr 13
  have g9 : Goes (Sep (Sep (CoreX A c q x) (Cyc b { y with h := .pointer (some ⟨hb, 0, none⟩) } Kt)) (Haul hb c g' cap' ⟨L, y.sn, 11, wrap64 (0 + 1)⟩)) S w _ := hg.then fun S h => goesL (fun S h => goesR (fun S h => (Goes.begin h).put 13 (.int .i64 0) (cs' := cyCells { y with h := .pointer (some ⟨hb, 0, none⟩) }) rfl) S h) S h
  have HG9 := Lib.hid g9
  clear hg g9
  go_wp2_with fail
  with_reducible refine HER.out.mono ?_
  rintro e w9 ⟨rfl, rfl⟩
  clear HER
  go_upto_region 8 with fail
  generalize World.setCell _ _ _ = w10 at *
  clear c6 c13 f13
  have hg := HG9.out.drew_
  clear HG9
  have HMV := Lib.hid (hg.look (lookR fun S h => haul_moved h))
  have c11 := hg.l.r.c 11 (v := .int .i64 y.mv) rfl
  rw [HM0.out] at c11
  refine wp_region_held_drew (S := fun w' => w'.cell? ⟨b, 11, none⟩ = some (.int .i64 0) ∧ w'.cell? ⟨b, 6, none⟩ = some (.pointer (some ⟨hb, 0, none⟩))) (by kernel_rfl) ⟨c11, hg.l.r.c 6 (v := .pointer (some ⟨hb, 0, none⟩)) rfl⟩ (fun hHeld => ?_)
  generalize w10.drew = wd at *
  refine wpAnyH_take (i := 0) (oi := _) (v := ?_) rfl (by kernel_rfl) (by kernel_rfl) (by kernel_rfl) (fun _ _ _ h => h) (Or.inl ⟨by rfl, ?_⟩) (by assumption) ?_
  rotate_left
  · intro w hSw
    (try dsimp only at hSw)
    go_simp
    with_reducible rfl
  try simp only [Act.put, List.setIfInBounds_toArray, List.set_cons_zero, List.set_cons_succ]
  refine wpAnyH_take (i := 1) (oi := _) (v := ?_) rfl (by kernel_rfl) (by kernel_rfl) (by kernel_rfl) (fun _ _ _ h => h) (Or.inl ⟨by rfl, ?_⟩) (by assumption) ?_
  rotate_left
  · intro w hSw
    (try dsimp only at hSw)
    go_simp
    with_reducible rfl
  try simp only [Act.put, List.setIfInBounds_toArray, List.set_cons_zero, List.set_cons_succ]
  refine wpAnyH_take (i := 2) (oi := _) (v := ?_) rfl (by kernel_rfl) (by kernel_rfl) (by kernel_rfl) (fun _ _ _ h => h) (Or.inl ⟨by rfl, ?_⟩) (by assumption) ?_
  rotate_left
  · intro w hSw
    (try dsimp only at hSw)
    go_simp
    with_reducible rfl
  try simp only [Act.put, List.setIfInBounds_toArray, List.set_cons_zero, List.set_cons_succ]
  refine wpAnyH_take (i := 3) (oi := _) (v := ?_) rfl (by kernel_rfl) (by kernel_rfl) (by kernel_rfl) (fun _ _ _ h => h) (Or.inl ⟨by rfl, ?_⟩) (by assumption) ?_
  rotate_left
  · intro w hSw
    (try dsimp only at hSw)
    go_simp
    with_reducible rfl
  try simp only [Act.put, List.setIfInBounds_toArray, List.set_cons_zero, List.set_cons_succ]
  refine wpAnyH_take (i := 4) (oi := _) (v := ?_) rfl (by kernel_rfl) (by kernel_rfl) (by kernel_rfl) (fun _ _ _ h => h) (Or.inl ⟨by rfl, ?_⟩) (by assumption) ?_
  rotate_left
  · intro w hSw
    (try dsimp only at hSw)
    go_simp
    with_reducible rfl
  try simp only [Act.put, List.setIfInBounds_toArray, List.set_cons_zero, List.set_cons_succ]
  refine wpAnyH_take (i := 5) (oi := _) (v := ?_) rfl (by kernel_rfl) (by kernel_rfl) (by kernel_rfl) (fun _ _ _ h => h) (Or.inl ⟨by rfl, ?_⟩) (by assumption) ?_
  rotate_left
  · intro w hSw
    (try dsimp only at hSw)
    go_simp
    with_reducible rfl
  try simp only [Act.put, List.setIfInBounds_toArray, List.set_cons_zero, List.set_cons_succ]
  refine wpAnyH_take (i := 6) (oi := _) (v := ?_) rfl (by kernel_rfl) (by kernel_rfl) (by kernel_rfl) (fun _ _ _ h => h) (Or.inl ⟨by rfl, ?_⟩) (by assumption) ?_
  rotate_left
  · intro w hSw
    (try dsimp only at hSw)
    go_simp
    with_reducible rfl
  try simp only [Act.put, List.setIfInBounds_toArray, List.set_cons_zero, List.set_cons_succ]
  refine wpAnyH_take (i := 7) (oi := _) (v := ?_) rfl (by kernel_rfl) (by kernel_rfl) (by kernel_rfl) (fun _ _ _ h => h) (Or.inl ⟨by rfl, ?_⟩) (by assumption) ?_
  rotate_left
  · intro w hSw
    (try dsimp only at hSw)
    go_simp
    with_reducible rfl
  try simp only [Act.put, List.setIfInBounds_toArray, List.set_cons_zero, List.set_cons_succ]
  refine wpAnyH_ready (rs := [8]) (by kernel_rfl) (by simp) ?_
  refine AllReadyH.cons (o := _) rfl (fun K hK => ?_) AllReadyH.nil
  go_simp
  with_reducible refine HMV.out.mono ?_
  rintro e w11 ⟨rfl, rfl⟩
  clear HMV hHeld
  go_wp2_with fail
  refine hK.out _ _ ⟨c11, hg.l.r.c 6 (v := .pointer (some ⟨hb, 0, none⟩)) rfl⟩ (fun hHeld => ?_)
  clear hK K
  try simp only [Act.put, List.getElem_toArray, List.getElem_cons_zero, List.getElem_cons_succ, List.setIfInBounds_toArray, List.set_cons_zero, List.set_cons_succ]
  refine wpAnyH_take (i := 9) (oi := _) (v := ?_) rfl (by kernel_rfl) (by kernel_rfl) (by kernel_rfl) (fun _ _ _ h => h) (Or.inl ⟨by rfl, ?_⟩) (by assumption) ?_
  rotate_left
  · intro w hSw
    (try dsimp only at hSw)
    go_simp
    with_reducible rfl
  try simp only [Act.put, List.setIfInBounds_toArray, List.set_cons_zero, List.set_cons_succ]
  refine wpAnyH_take (i := 10) (oi := _) (v := ?_) rfl (by kernel_rfl) (by kernel_rfl) (by kernel_rfl) (fun _ _ _ h => h) (Or.inl ⟨by rfl, ?_⟩) (by assumption) ?_
  rotate_left
  · intro w hSw
    (try dsimp only at hSw)
    go_simp
    with_reducible rfl
  try simp only [Act.put, List.setIfInBounds_toArray, List.set_cons_zero, List.set_cons_succ]
  refine wpAnyH_take (i := 11) (oi := _) (v := ?_) rfl (by kernel_rfl) (by kernel_rfl) (by kernel_rfl) (fun _ _ _ h => h) (Or.inl ⟨by rfl, ?_⟩) (by assumption) ?_
  rotate_left
  · intro w hSw
    (try dsimp only at hSw)
    go_simp
    with_reducible rfl
  try simp only [Act.put, List.setIfInBounds_toArray, List.set_cons_zero, List.set_cons_succ]
  have f11 := hg.l.r.fr 11
  have g12 : Goes (Sep (Sep (CoreX A c q x) (Cyc b { y with h := .pointer (some ⟨hb, 0, none⟩) } Kt)) (Haul hb c g' cap' ⟨L, y.sn, 11, wrap64 (0 + 1)⟩)) S w (wd.setCell ⟨b, 11, none⟩ (.int .i64 0)) := by
    have := hg.then fun S h => goesL (fun S h => goesR (fun S h => (Goes.begin h).put 11 (.int .i64 y.mv) (cs' := cyCells { y with h := .pointer (some ⟨hb, 0, none⟩) }) rfl) S h) S h
    have e0 : (Value.int .i64 y.mv) = .int .i64 0 := by rw [HM0.out]
    exact e0 ▸ this
  clear hHeld
  have c11b := g12.l.r.c 11 (v := .int .i64 y.mv) rfl
  rw [HM0.out] at c11b
  refine wpAnyH_ready (rs := [12]) (by kernel_rfl) (by simp) ?_
  refine AllReadyH.cons (o := _) rfl (fun K hK => ?_) AllReadyH.nil
  go_simp
  go_wp2_with fail
  refine hK.out _ _ ⟨c11b, g12.l.r.c 6 (v := .pointer (some ⟨hb, 0, none⟩)) rfl⟩ (fun hHeld => ?_)
  clear hK K
  try simp only [Act.put, List.getElem_toArray, List.getElem_cons_zero, List.getElem_cons_succ, List.setIfInBounds_toArray, List.set_cons_zero, List.set_cons_succ]
  refine wpAnyH_done (by kernel_rfl) ?_ _
  clear hHeld hg c11 f11 c11b
  rw [show IntKind.i64.wrap 0 = 0 by decide]
  generalize wd.setCell ⟨b, 11, none⟩ (.int .i64 0) = w12 at *
  have c1 := g12.l.r.c 1 (v := .int .i64 y.at_) rfl
  have f1 := g12.l.r.fr 1
  have g13 : Goes (Sep (Sep (CoreX A c q x) (Cyc b { y with h := .pointer (some ⟨hb, 0, none⟩), at_ := 2 } Kt)) (Haul hb c g' cap' ⟨L, y.sn, 11, wrap64 (0 + 1)⟩)) S w _ := g12.then fun S h => goesL (fun S h => goesR (fun S h => (Goes.begin h).put 1 (.int .i64 2) (cs' := cyCells { y with h := .pointer (some ⟨hb, 0, none⟩), at_ := 2 }) rfl) S h) S h
  have HG := Lib.hid (g13.l.conv fun _ _ h => corex_shut h)
  clear g12 g13
  go_wp2_with fail
  first | go_end0 | ((try simp only [Exit.inBlock, Exit.then]); refine bodyPost_ret (results_none rfl _ _ _) rfl ?_)
  exact ⟨_, rfl, HG.out⟩
end
end Go.Proofs.YtnkgnhpapcnebaaGreat
