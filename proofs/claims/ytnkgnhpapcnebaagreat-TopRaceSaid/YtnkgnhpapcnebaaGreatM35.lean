/- The collector: a step of a trace; marking. -/
import Derived.Test.YtnkgnhpapcnebaaGreatM34
import Derived.Test.YtnkgnhpapcnebaaGreatM28
set_option linter.unusedVariables false
set_option linter.unusedSimpArgs false
set_option maxHeartbeats 8000000
namespace Go.Proofs.YtnkgnhpapcnebaaGreat
open Go.RowKit
attribute [local go_sem] run_store_complex via_ret via_normal via_exit via_panic
/-- The references of the shape at hand. -/
def l3 : List Bool := [true, true, false]
/-- A trace under way. -/
def TrK (c : Cf) (tb : Nat) (K : Thing) : Prop :=
  ∃ g cap, (∃ sn st, K = Trace tb c g cap { tr0 c.F sn with steps := st } Emp) ∨ ∃ t : Tr, t.head = c.F ∧ t.pc = 1 ∧ (∃ x k, t.rv = .slice x l3.length k) ∧ (K = TraceOn tb c g cap t [((2 : Nat) : Int), 3] l3 ∨ K = TraceOn tb c g cap t [((3 : Nat) : Int)] l3)
/-- A trace at its end. -/
def TrE (c : Cf) (tb : Nat) (K : Thing) : Prop := ∃ g cap t, K = Trace tb c g cap t Emp
set_option maxRecDepth 100000 in
theorem cyc_part (C V K T : Thing) : Part (Sep (Sep C (Sep V K)) T) (Sep C (Sep V T)) := fun S w h => Part.both (Part.refl C) (Part.left (Sep V T) K) S w (sepAt.monoR (fun _ h => sepAt.rot h) (sepAt.assoc h))
set_option maxRecDepth 100000 in
theorem cyc_emp (C V K : Thing) : Part (Sep C (Sep V K)) (Sep C (Sep V Emp)) := Part.both (Part.refl C) (Part.both (Part.refl V) (Part.emp K))
set_option maxRecDepth 100000 in
theorem emp_sepC {A : Thing} {S : Nat → Prop} {w : World} (h : (Sep A Emp).at_ S w) : A.at_ S w := by
  obtain ⟨S1, T, h1, h2, h3, h4, h5, h6⟩ := h
  have e : S1 = S := by
    funext k; apply propext
    exact ⟨h4 k, fun hk => (h6 k hk).elim id fun ht => (h2 k ht).elim⟩
  rw [← e]; exact h1
section
variable {A : CA} {c : Cf} {q : Q} {K : Thing} {tb : Nat}
set_option maxRecDepth 100000 in
theorem trace_stepM (hc : c.ok) (hs : c.shapes[0]? = some (false, l3)) (hl : c.l0 = l3) (hwr : q.m.wr = 8) (hK : TrK c tb K) (p : Value) (w : World) :
    Does Tryz.prog 145 #[.pointer (some ⟨tb, 0, none⟩), .pointer (some ⟨A.bm, 0, none⟩), p] w (Sep (MemI A.bm c q.m) K) (fun (r : Bool × Thing) e => e = .returned (.bool r.1) ∧ (r.1 = false → TrK c tb r.2) ∧ (r.1 = true → TrE c tb r.2)) (fun r => Sep (MemI A.bm c q.m) r.2) := by
  intro S h
  obtain ⟨S1, T1, ⟨⟨gm, f⟩, hf, hm⟩, h2, hrest⟩ := h
  have h3 : (Sep K (Mem A.bm gm c.words f)).at_ S w := sepAt.swap ⟨S1, T1, hm, h2, hrest⟩
  have h4 : (Sep K (Sep (Mem A.bm gm c.words f) Emp)).at_ S w := sepAt.monoR (fun _ h => emp_more h) h3
  have back : ∀ K' S w, (Sep K' (Sep (Mem A.bm gm c.words f) Emp)).at_ S w → (Sep (MemI A.bm c q.m) K').at_ S w := fun K' S w h =>
    sepAt.monoL (fun S h => ⟨⟨gm, f⟩, hf, h⟩) (sepAt.swap (sepAt.monoR (fun _ h => emp_sepC h) h))
  have hF := hc.frags
  have hFf : c.F < c.frags := by unfold Cf.F; omega
  have hw : ∀ k, k < 8 → c.F * 8 + k < c.words := fun k hk => by unfold Cf.words Cf.F; omega
  have hv : ∀ k, k = 2 ∨ k = 3 → f (c.F * 8 + k) = vNone := fun k hk => by
    refine (hf.plan k (by omega) (by omega) (by omega)).trans ?_
    rw [hl]
    rcases hk with rfl | rfl <;> exact cx01
  have h1 : f (c.F * 8 + 1) = cx 0 1 := by
    exact (hf.plan 1 (by omega) (by omega) (by omega)).trans rfl
  obtain ⟨g, cap, hk⟩ := hK
  rcases hk with ⟨sn, st, rfl⟩ | ⟨t, th, tp, ⟨x, k, trv⟩, rfl | rfl⟩
  · refine (trace_step0 (md := 1) (l := l3) hc hs (by omega) (by decide) hFf (hw 1 (by omega)) (words_small hc) h1 h4 p).mono ?_
    rintro e w' ⟨t', ⟨he, a1, a2, a3⟩, hg⟩
    exact ⟨(false, _), ⟨he, fun _ => ⟨g, cap, .inr ⟨t', a1, a2, a3, .inl rfl⟩⟩, fun h => by simp at h⟩, hg.conv fun S w h => back _ S w h⟩
  · refine (trace_step_on (l := l3) (k := 2) (x := 3) (ws := []) hc trv (by decide) tp (by omega) (by simp) (by rw [th]; exact hFf) (by rw [th]; exact hw 2 (by omega)) (words_small hc) (by rw [th]; exact hv 2 (.inl rfl)) h4 p).mono ?_
    rintro e w' ⟨t', ⟨he, a1, a2, a3⟩, hg⟩
    exact ⟨(false, _), ⟨he, fun _ => ⟨g, cap, .inr ⟨t', a1.trans th, a2, a3, .inr rfl⟩⟩, fun h => by simp at h⟩, hg.conv fun S w h => back _ S w h⟩
  · refine (trace_step_end (l := l3) (k := 3) hc trv (by decide) tp (by omega) (by rw [th]; exact hFf) (by rw [th]; exact hw 3 (by omega)) (words_small hc) (by rw [th]; exact hv 3 (.inr rfl)) h4 p).mono ?_
    rintro e w' ⟨t', he, hg⟩
    exact ⟨(true, _), ⟨he, fun h => by simp at h, fun _ => ⟨g, cap, t', rfl⟩⟩, hg.conv fun S w h => back _ S w h⟩
set_option maxRecDepth 100000 in
theorem trace_stepC (hc : c.ok) (hs : c.shapes[0]? = some (false, l3)) (hl : c.l0 = l3) (hwr : q.m.wr = 8) (hK : TrK c tb K) (p : Value) {V : Thing} (w : World) :
    Does Tryz.prog 145 #[.pointer (some ⟨tb, 0, none⟩), .pointer (some ⟨A.bm, 0, none⟩), p] w (Sep (Core A c q) (Sep V K)) (fun (r : Bool × Thing) e => e = .returned (.bool r.1) ∧ (r.1 = false → TrK c tb r.2) ∧ (r.1 = true → TrE c tb r.2)) (fun r => Sep (Core A c q) (Sep V r.2)) :=
  ((trace_stepM hc hs hl hwr hK p w).lY.rY.rY : Does _ _ _ w (Sep (Core A c q) K) _ (fun (r : Bool × Thing) => Sep (Core A c q) r.2)).swap.rY.swap
end
section
variable {b : Nat} {y : Yc} {Kt : Thing} {S : Nat → Prop} {w w' : World} {A : CA} {c : Cf} {q : Q}
set_option maxRecDepth 100000 in
theorem cy_traces {tb : Nat} (hc : c.ok) (hs : c.shapes[0]? = some (false, l3)) (hl : c.l0 = l3) (hwr : q.m.wr = 8) (hK : TrK c tb Kt) (htr : y.tr = .pointer (some ⟨tb, 0, none⟩)) (h : (Sep (Core A c q) (Cyc b y Kt)).at_ S w) :
    Calls Tryz.prog 90 #[.pointer (some ⟨b, 0, none⟩), .pointer (some ⟨A.b, 0, none⟩)] w fun e w' => ∃ (r : Bool) (K' : Thing), (e = .returned (.bool r) ∧ (r = false → TrK c tb K') ∧ (r = true → K' = Emp)) ∧ Goes (Sep (Core A c q) (Cyc b y K')) S w w' := by
  have g1 := (Goes.begin h).drew_
  have HL := Lib.hid ((trace_stepC hc hs hl hwr hK (.pointer (some ⟨A.bs, 0, none⟩)) _).on g1)
  clear h hc hs hl hwr hK
  go_enter Tryz.func90, Tryz.ntmps90
  go_wp2_with fail
  have c5 := g1.r.c 5 (v := y.tr) rfl
  rw [htr] at c5
  refine wp_region_held_drew (S := fun w' => w'.cell? ⟨b, 5, none⟩ = some (.pointer (some ⟨tb, 0, none⟩)) ∧ w'.cell? ⟨A.b, 9, none⟩ = some (.pointer (some ⟨A.bm, 0, none⟩)) ∧ w'.cell? ⟨A.b, 10, none⟩ = some (.pointer (some ⟨A.bs, 0, none⟩))) (by kernel_rfl) ⟨c5, g1.l.c 9 (v := .pointer (some ⟨A.bm, 0, none⟩)) rfl, g1.l.c 10 (v := .pointer (some ⟨A.bs, 0, none⟩)) rfl⟩ (fun hHeld => ?_)
  generalize w.drew = wd at *
  refine wpAnyH_take (i := 0) (oi := _) (v := ?_) rfl (by kernel_rfl) (by kernel_rfl) (by kernel_rfl) (fun _ _ _ h => h) (Or.inl ⟨by rfl, ?_⟩) (by assumption) ?_
  rotate_left
  · intro w hSw
    (try dsimp only at hSw)
    go_simp
    with_reducible rfl
  try simp only [Act.put, List.setIfInBounds_toArray, List.set_cons_zero, List.set_cons_succ]
  refine wpAnyH_take (i := 1) (oi := _) (v := ?_) rfl (by kernel_rfl) (by kernel_rfl) (by kernel_rfl) (fun _ _ _ h => h) (Or.inl ⟨by rfl, ?_⟩) (by assumption) ?_
  rotate_left
  · intro w hSw
    (try dsimp only at hSw)
    go_simp
    with_reducible rfl
  try simp only [Act.put, List.setIfInBounds_toArray, List.set_cons_zero, List.set_cons_succ]
  refine wpAnyH_take (i := 2) (oi := _) (v := ?_) rfl (by kernel_rfl) (by kernel_rfl) (by kernel_rfl) (fun _ _ _ h => h) (Or.inl ⟨by rfl, ?_⟩) (by assumption) ?_
  rotate_left
  · intro w hSw
    (try dsimp only at hSw)
    go_simp
    with_reducible rfl
  try simp only [Act.put, List.setIfInBounds_toArray, List.set_cons_zero, List.set_cons_succ]
  refine wpAnyH_take (i := 3) (oi := _) (v := ?_) rfl (by kernel_rfl) (by kernel_rfl) (by kernel_rfl) (fun _ _ _ h => h) (Or.inl ⟨by rfl, ?_⟩) (by assumption) ?_
  rotate_left
  · intro w hSw
    (try dsimp only at hSw)
    go_simp
    with_reducible rfl
  try simp only [Act.put, List.setIfInBounds_toArray, List.set_cons_zero, List.set_cons_succ]
  refine wpAnyH_take (i := 4) (oi := _) (v := ?_) rfl (by kernel_rfl) (by kernel_rfl) (by kernel_rfl) (fun _ _ _ h => h) (Or.inl ⟨by rfl, ?_⟩) (by assumption) ?_
  rotate_left
  · intro w hSw
    (try dsimp only at hSw)
    go_simp
    with_reducible rfl
  try simp only [Act.put, List.setIfInBounds_toArray, List.set_cons_zero, List.set_cons_succ]
  refine wpAnyH_take (i := 5) (oi := _) (v := ?_) rfl (by kernel_rfl) (by kernel_rfl) (by kernel_rfl) (fun _ _ _ h => h) (Or.inl ⟨by rfl, ?_⟩) (by assumption) ?_
  rotate_left
  · intro w hSw
    (try dsimp only at hSw)
    go_simp
    with_reducible rfl
  try simp only [Act.put, List.setIfInBounds_toArray, List.set_cons_zero, List.set_cons_succ]
  refine wpAnyH_take (i := 6) (oi := _) (v := ?_) rfl (by kernel_rfl) (by kernel_rfl) (by kernel_rfl) (fun _ _ _ h => h) (Or.inl ⟨by rfl, ?_⟩) (by assumption) ?_
  rotate_left
  · intro w hSw
    (try dsimp only at hSw)
    go_simp
    with_reducible rfl
  try simp only [Act.put, List.setIfInBounds_toArray, List.set_cons_zero, List.set_cons_succ]
  refine wpAnyH_take (i := 7) (oi := _) (v := ?_) rfl (by kernel_rfl) (by kernel_rfl) (by kernel_rfl) (fun _ _ _ h => h) (Or.inl ⟨by rfl, ?_⟩) (by assumption) ?_
  rotate_left
  · intro w hSw
    (try dsimp only at hSw)
    go_simp
    with_reducible rfl
  try simp only [Act.put, List.setIfInBounds_toArray, List.set_cons_zero, List.set_cons_succ]
  refine wpAnyH_take (i := 8) (oi := _) (v := ?_) rfl (by kernel_rfl) (by kernel_rfl) (by kernel_rfl) (fun _ _ _ h => h) (Or.inl ⟨by rfl, ?_⟩) (by assumption) ?_
  rotate_left
  · intro w hSw
    (try dsimp only at hSw)
    go_simp
    with_reducible rfl
  try simp only [Act.put, List.setIfInBounds_toArray, List.set_cons_zero, List.set_cons_succ]
  refine wpAnyH_take (i := 9) (oi := _) (v := ?_) rfl (by kernel_rfl) (by kernel_rfl) (by kernel_rfl) (fun _ _ _ h => h) (Or.inl ⟨by rfl, ?_⟩) (by assumption) ?_
  rotate_left
  · intro w hSw
    (try dsimp only at hSw)
    go_simp
    with_reducible rfl
  try simp only [Act.put, List.setIfInBounds_toArray, List.set_cons_zero, List.set_cons_succ]
  refine wpAnyH_take (i := 10) (oi := _) (v := ?_) rfl (by kernel_rfl) (by kernel_rfl) (by kernel_rfl) (fun _ _ _ h => h) (Or.inl ⟨by rfl, ?_⟩) (by assumption) ?_
  rotate_left
  · intro w hSw
    (try dsimp only at hSw)
    go_simp
    with_reducible rfl
  try simp only [Act.put, List.setIfInBounds_toArray, List.set_cons_zero, List.set_cons_succ]
  refine wpAnyH_take (i := 11) (oi := _) (v := ?_) rfl (by kernel_rfl) (by kernel_rfl) (by kernel_rfl) (fun _ _ _ h => h) (Or.inl ⟨by rfl, ?_⟩) (by assumption) ?_
  rotate_left
  · intro w hSw
    (try dsimp only at hSw)
    go_simp
    with_reducible rfl
  try simp only [Act.put, List.setIfInBounds_toArray, List.set_cons_zero, List.set_cons_succ]
  refine wpAnyH_ready (rs := [12]) (by kernel_rfl) (by simp) ?_
  refine AllReadyH.cons (o := _) rfl (fun K hK => ?_) AllReadyH.nil
  go_simp
  with_reducible refine HL.out.mono ?_
  rintro e w2 ⟨⟨r, K'⟩, ⟨rfl, hr0, hr1⟩, hgx⟩
  have hg : Goes (Sep (Core A c q) (Cyc b y K')) S w w2 := hgx
  clear HL hgx c5 g1
  have c5 := hg.r.c 5 (v := y.tr) rfl
  rw [htr] at c5
  go_wp2_with fail
  refine hK.out _ _ ⟨c5, hg.l.c 9 (v := .pointer (some ⟨A.bm, 0, none⟩)) rfl, hg.l.c 10 (v := .pointer (some ⟨A.bs, 0, none⟩)) rfl⟩ (fun hHeld => ?_)
  clear hK K
  try simp only [Act.put, List.setIfInBounds_toArray, List.set_cons_zero, List.set_cons_succ]
  refine wpAnyH_take (i := 13) (oi := _) (v := ?_) rfl (by kernel_rfl) (by kernel_rfl) (by kernel_rfl) (fun _ _ _ h => h) (Or.inl ⟨by rfl, ?_⟩) (by assumption) ?_
  rotate_left
  · intro w hSw
    (try dsimp only at hSw)
    go_simp
    with_reducible rfl
  try simp only [Act.put, List.setIfInBounds_toArray, List.set_cons_zero, List.set_cons_succ]
  refine wpAnyH_done (by kernel_rfl) ?_ _
  clear hHeld
  cases r with
  | false =>
    have HR := Lib.hid (hr0 rfl)
    have HG := Lib.hid hg
    clear hg hr0 hr1 c5
    go_wp2_with fail
    go_ret
    exact ⟨false, K', ⟨rfl, fun _ => HR.out, fun h => by simp at h⟩, HG.out⟩
  | true =>
    obtain ⟨g', cap', t', rfl⟩ := hr1 rfl
    have HE := Lib.hid (hg.look (lookR (lookR fun S h => trace_errno h)))
    have c13 := hg.r.c 13 (v := .int .i64 0) rfl
    have f13 := hg.r.fr 13
    have g3 := (hg.then fun S h => goesR (fun S h => (Goes.begin h).put 13 (.int .i64 0) (cs' := cyCells y) rfl) S h).drop (cyc_emp _ _ _)
    have HG := Lib.hid g3
    clear hg hr0 hr1 g3
    go_wp2_with fail
    with_reducible refine HE.out.mono ?_
    rintro e w3 ⟨rfl, rfl⟩
    clear HE
    go_wp2_with fail
    go_ret
    exact ⟨true, Emp, ⟨rfl, fun h => by simp at h, fun _ => rfl⟩, HG.out⟩
set_option maxRecDepth 100000 in
theorem cy_marks0 (hc : c.ok) (h4 : ¬ y.at_ = 4) (h5 : ¬ y.at_ = 5) (h6 : ¬ y.at_ = 6) (h : (Sep (Core A c q) (Cyc b y Kt)).at_ S w) :
    Calls Tryz.prog 46 #[.pointer (some ⟨b, 0, none⟩), .pointer (some ⟨A.b, 0, none⟩)] w fun e w' => ∃ (y' : Yc) (K' : Thing), (e = .returned (.tuple #[]) ∧ ((∃ hd, y' = { y with head := hd, at_ := 5, rs := false } ∧ K' = Kt) ∨ (q.bn = true ∧ ∃ tb g cap, y' = { y with head := (c.F : Int), at_ := 4, rs := false, tr := .pointer (some ⟨tb, 0, none⟩) } ∧ K' = Trace tb c g cap (tr0 c.F y.sn) Emp))) ∧ Goes (Sep (Core A c q) (Cyc b y' K')) S w w' := by
  have c1 := (Goes.begin h).r.c 1 (v := .int .i64 y.at_) rfl
  have k10 := (Goes.begin h).l.c 10 (v := .pointer (some ⟨A.bs, 0, none⟩)) rfl
  have HL := Lib.hid ((core_sh (shi_next _)).l.on (Goes.begin h))
  have HC := Lib.hid hc
  clear h hc
  go_enter Tryz.func46, Tryz.ntmps46
  refine wp_scope_via 0 fun F hF => ?_
  clear hF
  go_wp2_with fail
  with_reducible refine HL.out.mono ?_
  rintro e w2 ⟨⟨hd, r⟩, ⟨rfl, hr⟩, hgx⟩
  have hg : Goes (Sep (Core A c q) (Cyc b y Kt)) S w w2 := hgx
  simp only at hr
  clear HL hgx k10 c1 h4 h5 h6
  have c3 := hg.r.c 3 (v := .int .i64 y.head) rfl
  have f3 := hg.r.fr 3
  have c1 := hg.r.c 1 (v := .int .i64 y.at_) rfl
  have f1 := hg.r.fr 1
  have c4 := hg.r.c 4 (v := .bool y.rs) rfl
  have f4 := hg.r.fr 4
  have g3 : Goes (Sep (Core A c q) (Cyc b { y with head := hd, at_ := 5, rs := false } Kt)) S w _ := hg.then fun S h => goesR (fun S h => (((Goes.begin h).put 3 (.int .i64 hd) (cs' := cyCells { y with head := hd }) rfl).put 1 (.int .i64 5) (cs' := cyCells { y with head := hd, at_ := 5 }) rfl).put 4 (.bool false) (cs' := cyCells { y with head := hd, at_ := 5, rs := false }) rfl) S h
  clear hg
  cases r with
  | false =>
    have HG := Lib.hid g3
    clear g3 hr
    go_wp2_with fail
    (try rw [via_ret])
    first | go_end0 | ((try simp only [Exit.inBlock, Exit.then]); refine bodyPost_ret (results_none rfl _ _ _) rfl ?_)
    exact ⟨_, _, ⟨rfl, .inl ⟨_, rfl, rfl⟩⟩, HG.out⟩
  | true =>
    obtain ⟨rfl, hbn⟩ := hr rfl
    clear hr
    have HG := Lib.hid g3
    have HB := Lib.hid hbn
    clear g3 hbn
    go_upto_region 8 with fail
    generalize World.setCell (World.setCell (World.setCell _ _ _) _ _) _ _ = w3 at *
    clear c3 f3 c1 f1 c4 f4
    have g4 := HG.out.drew_
    have HN := Lib.hid (trace_new c.F y.sn HC.out (core_confIs g4.l.is).choose_spec)
    unfold cfV at HN
    clear HG
    refine wp_region_held_drew (S := fun w' => w'.cell? ⟨A.b, 0, none⟩ = some (.int .i64 c.frags) ∧ w'.cell? ⟨A.b, 1, none⟩ = some (.int .i64 c.spine) ∧ w'.cell? ⟨A.b, 2, none⟩ = some (.int .i64 c.globals) ∧ w'.cell? ⟨A.b, 3, none⟩ = some (.int .i64 c.threads) ∧ w'.cell? ⟨A.b, 4, none⟩ = some (.int .i64 c.locals) ∧ w'.cell? ⟨A.b, 5, none⟩ = some (.int .i64 0) ∧ w'.cell? ⟨A.b, 6, none⟩ = some (.int .i64 c.stack) ∧ w'.cell? ⟨A.b, 7, none⟩ = some (.int .i64 c.low) ∧ w'.cell? ⟨A.b, 8, none⟩ = some (.slice (some ⟨A.g, 0, none⟩) c.shapes.length A.cap) ∧ w'.cell? ⟨b, 3, none⟩ = some (.int .i64 (c.F : Int)) ∧ w'.cell? ⟨b, 7, none⟩ = some (.bool y.sn)) (by kernel_rfl) ⟨g4.l.c 0 (v := .int .i64 c.frags) rfl, g4.l.c 1 (v := .int .i64 c.spine) rfl, g4.l.c 2 (v := .int .i64 c.globals) rfl, g4.l.c 3 (v := .int .i64 c.threads) rfl, g4.l.c 4 (v := .int .i64 c.locals) rfl, g4.l.c 5 (v := .int .i64 0) rfl, g4.l.c 6 (v := .int .i64 c.stack) rfl, g4.l.c 7 (v := .int .i64 c.low) rfl, g4.l.c 8 (v := .slice (some ⟨A.g, 0, none⟩) c.shapes.length A.cap) rfl, g4.r.c 3 (v := .int .i64 (c.F : Int)) rfl, g4.r.c 7 (v := .bool y.sn) rfl⟩ (fun hHeld => ?_)
    generalize w3.drew = wd at *
    refine wpAnyH_take (i := 0) (oi := _) (v := ?_) rfl (by kernel_rfl) (by kernel_rfl) (by kernel_rfl) (fun _ _ _ h => h) (Or.inl ⟨by rfl, ?_⟩) (by assumption) ?_
    rotate_left
    · intro w hSw
      (try dsimp only at hSw)
      go_simp
      with_reducible rfl
    try simp only [Act.put, List.setIfInBounds_toArray, List.set_cons_zero, List.set_cons_succ]
    refine wpAnyH_take (i := 1) (oi := _) (v := ?_) rfl (by kernel_rfl) (by kernel_rfl) (by kernel_rfl) (fun _ _ _ h => h) (Or.inl ⟨by rfl, ?_⟩) (by assumption) ?_
    rotate_left
    · intro w hSw
      (try dsimp only at hSw)
      go_simp
      with_reducible rfl
    try simp only [Act.put, List.setIfInBounds_toArray, List.set_cons_zero, List.set_cons_succ]
    refine wpAnyH_take (i := 2) (oi := _) (v := ?_) rfl (by kernel_rfl) (by kernel_rfl) (by kernel_rfl) (fun _ _ _ h => h) (Or.inl ⟨by rfl, ?_⟩) (by assumption) ?_
    rotate_left
    · intro w hSw
      (try dsimp only at hSw)
      go_simp
      with_reducible rfl
    try simp only [Act.put, List.setIfInBounds_toArray, List.set_cons_zero, List.set_cons_succ]
    refine wpAnyH_take (i := 3) (oi := _) (v := ?_) rfl (by kernel_rfl) (by kernel_rfl) (by kernel_rfl) (fun _ _ _ h => h) (Or.inl ⟨by rfl, ?_⟩) (by assumption) ?_
    rotate_left
    · intro w hSw
      (try dsimp only at hSw)
      go_simp
      with_reducible rfl
    try simp only [Act.put, List.setIfInBounds_toArray, List.set_cons_zero, List.set_cons_succ]
    refine wpAnyH_take (i := 4) (oi := _) (v := ?_) rfl (by kernel_rfl) (by kernel_rfl) (by kernel_rfl) (fun _ _ _ h => h) (Or.inl ⟨by rfl, ?_⟩) (by assumption) ?_
    rotate_left
    · intro w hSw
      (try dsimp only at hSw)
      go_simp
      with_reducible rfl
    try simp only [Act.put, List.setIfInBounds_toArray, List.set_cons_zero, List.set_cons_succ]
    refine wpAnyH_take (i := 5) (oi := _) (v := ?_) rfl (by kernel_rfl) (by kernel_rfl) (by kernel_rfl) (fun _ _ _ h => h) (Or.inl ⟨by rfl, ?_⟩) (by assumption) ?_
    rotate_left
    · intro w hSw
      (try dsimp only at hSw)
      go_simp
      with_reducible rfl
    try simp only [Act.put, List.setIfInBounds_toArray, List.set_cons_zero, List.set_cons_succ]
    refine wpAnyH_take (i := 6) (oi := _) (v := ?_) rfl (by kernel_rfl) (by kernel_rfl) (by kernel_rfl) (fun _ _ _ h => h) (Or.inl ⟨by rfl, ?_⟩) (by assumption) ?_
    rotate_left
    · intro w hSw
      (try dsimp only at hSw)
      go_simp
      with_reducible rfl
    try simp only [Act.put, List.setIfInBounds_toArray, List.set_cons_zero, List.set_cons_succ]
    refine wpAnyH_take (i := 7) (oi := _) (v := ?_) rfl (by kernel_rfl) (by kernel_rfl) (by kernel_rfl) (fun _ _ _ h => h) (Or.inl ⟨by rfl, ?_⟩) (by assumption) ?_
    rotate_left
    · intro w hSw
      (try dsimp only at hSw)
      go_simp
      with_reducible rfl
    try simp only [Act.put, List.setIfInBounds_toArray, List.set_cons_zero, List.set_cons_succ]
    refine wpAnyH_take (i := 8) (oi := _) (v := ?_) rfl (by kernel_rfl) (by kernel_rfl) (by kernel_rfl) (fun _ _ _ h => h) (Or.inl ⟨by rfl, ?_⟩) (by assumption) ?_
    rotate_left
    · intro w hSw
      (try dsimp only at hSw)
      go_simp
      with_reducible rfl
    try simp only [Act.put, List.setIfInBounds_toArray, List.set_cons_zero, List.set_cons_succ]
    refine wpAnyH_take (i := 9) (oi := _) (v := ?_) rfl (by kernel_rfl) (by kernel_rfl) (by kernel_rfl) (fun _ _ _ h => h) (Or.inl ⟨by rfl, ?_⟩) (by assumption) ?_
    rotate_left
    · intro w hSw
      (try dsimp only at hSw)
      go_simp
      with_reducible rfl
    try simp only [Act.put, List.setIfInBounds_toArray, List.set_cons_zero, List.set_cons_succ]
    refine wpAnyH_take (i := 10) (oi := _) (v := ?_) rfl (by kernel_rfl) (by kernel_rfl) (by kernel_rfl) (fun _ _ _ h => h) (Or.inl ⟨by rfl, ?_⟩) (by assumption) ?_
    rotate_left
    · intro w hSw
      (try dsimp only at hSw)
      go_simp
      with_reducible rfl
    try simp only [Act.put, List.setIfInBounds_toArray, List.set_cons_zero, List.set_cons_succ]
    refine wpAnyH_take (i := 11) (oi := _) (v := ?_) rfl (by kernel_rfl) (by kernel_rfl) (by kernel_rfl) (fun _ _ _ h => h) (Or.inl ⟨by rfl, ?_⟩) (by assumption) ?_
    rotate_left
    · intro w hSw
      (try dsimp only at hSw)
      go_simp
      with_reducible rfl
    try simp only [Act.put, List.setIfInBounds_toArray, List.set_cons_zero, List.set_cons_succ]
    refine wpAnyH_take (i := 12) (oi := _) (v := ?_) rfl (by kernel_rfl) (by kernel_rfl) (by kernel_rfl) (fun _ _ _ h => h) (Or.inl ⟨by rfl, ?_⟩) (by assumption) ?_
    rotate_left
    · intro w hSw
      (try dsimp only at hSw)
      go_simp
      with_reducible rfl
    try simp only [Act.put, List.setIfInBounds_toArray, List.set_cons_zero, List.set_cons_succ]
    refine wpAnyH_take (i := 13) (oi := _) (v := ?_) rfl (by kernel_rfl) (by kernel_rfl) (by kernel_rfl) (fun _ _ _ h => h) (Or.inl ⟨by rfl, ?_⟩) (by assumption) ?_
    rotate_left
    · intro w hSw
      (try dsimp only at hSw)
      go_simp
      with_reducible rfl
    try simp only [Act.put, List.setIfInBounds_toArray, List.set_cons_zero, List.set_cons_succ]
    refine wpAnyH_ready (rs := [14]) (by kernel_rfl) (by simp) ?_
    refine AllReadyH.cons (o := _) rfl (fun K hK => ?_) AllReadyH.nil
    go_simp
    with_reducible refine HN.out.mono ?_
    rintro e w4 ⟨tb, g', cap', rfl, hs⟩
    have g5 : Goes (Sep (Sep (Core A c q) (Cyc b { y with head := (c.F : Int), at_ := 5, rs := false } Kt)) (Trace tb c g' cap' (tr0 c.F y.sn) Emp)) S w w4 := g4.moreSt hs
    clear HN hs g4 hHeld
    have hg : Goes (Sep (Core A c q) (Cyc b { y with head := (c.F : Int), at_ := 5, rs := false } (Trace tb c g' cap' (tr0 c.F y.sn) Emp))) S w w4 := g5.drop (cyc_part _ _ _ _)
    clear g5
    go_wp2_with fail
    refine hK.out _ _ ⟨hg.l.c 0 (v := .int .i64 c.frags) rfl, hg.l.c 1 (v := .int .i64 c.spine) rfl, hg.l.c 2 (v := .int .i64 c.globals) rfl, hg.l.c 3 (v := .int .i64 c.threads) rfl, hg.l.c 4 (v := .int .i64 c.locals) rfl, hg.l.c 5 (v := .int .i64 0) rfl, hg.l.c 6 (v := .int .i64 c.stack) rfl, hg.l.c 7 (v := .int .i64 c.low) rfl, hg.l.c 8 (v := .slice (some ⟨A.g, 0, none⟩) c.shapes.length A.cap) rfl, hg.r.c 3 (v := .int .i64 (c.F : Int)) rfl, hg.r.c 7 (v := .bool y.sn) rfl⟩ (fun hHeld => ?_)
    clear hK K
    try simp only [Act.put, List.setIfInBounds_toArray, List.set_cons_zero, List.set_cons_succ]
    refine wpAnyH_take (i := 15) (oi := _) (v := ?_) rfl (by kernel_rfl) (by kernel_rfl) (by kernel_rfl) (fun _ _ _ h => h) (Or.inl ⟨by rfl, ?_⟩) (by assumption) ?_
    rotate_left
    · intro w hSw
      (try dsimp only at hSw)
      go_simp
      with_reducible rfl
    try simp only [Act.put, List.setIfInBounds_toArray, List.set_cons_zero, List.set_cons_succ]
    refine wpAnyH_take (i := 16) (oi := _) (v := ?_) rfl (by kernel_rfl) (by kernel_rfl) (by kernel_rfl) (fun _ _ _ h => h) (Or.inl ⟨by rfl, ?_⟩) (by assumption) ?_
    rotate_left
    · intro w hSw
      (try dsimp only at hSw)
      go_simp
      with_reducible rfl
    try simp only [Act.put, List.setIfInBounds_toArray, List.set_cons_zero, List.set_cons_succ]
    have c5 := hg.r.c 5 (v := y.tr) rfl
    have f5 := hg.r.fr 5
    have g6 : Goes (Sep (Core A c q) (Cyc b { y with head := (c.F : Int), at_ := 5, rs := false, tr := .pointer (some ⟨tb, 0, none⟩) } (Trace tb c g' cap' (tr0 c.F y.sn) Emp))) S w _ := hg.then fun S h => goesR (fun S h => (Goes.begin h).put 5 (.pointer (some ⟨tb, 0, none⟩)) (cs' := cyCells { y with head := (c.F : Int), at_ := 5, rs := false, tr := .pointer (some ⟨tb, 0, none⟩) }) rfl) S h
    clear hHeld
    refine wpAnyH_ready (rs := [17]) (by kernel_rfl) (by simp) ?_
    refine AllReadyH.cons (o := _) rfl (fun K hK => ?_) AllReadyH.nil
    go_simp
    go_wp2_with fail
    refine hK.out _ _ ⟨g6.l.c 0 (v := .int .i64 c.frags) rfl, g6.l.c 1 (v := .int .i64 c.spine) rfl, g6.l.c 2 (v := .int .i64 c.globals) rfl, g6.l.c 3 (v := .int .i64 c.threads) rfl, g6.l.c 4 (v := .int .i64 c.locals) rfl, g6.l.c 5 (v := .int .i64 0) rfl, g6.l.c 6 (v := .int .i64 c.stack) rfl, g6.l.c 7 (v := .int .i64 c.low) rfl, g6.l.c 8 (v := .slice (some ⟨A.g, 0, none⟩) c.shapes.length A.cap) rfl, g6.r.c 3 (v := .int .i64 (c.F : Int)) rfl, g6.r.c 7 (v := .bool y.sn) rfl⟩ (fun hHeld => ?_)
    clear hK K
    try simp only [Act.put, List.setIfInBounds_toArray, List.set_cons_zero, List.set_cons_succ]
    refine wpAnyH_take (i := 18) (oi := _) (v := ?_) rfl (by kernel_rfl) (by kernel_rfl) (by kernel_rfl) (fun _ _ _ h => h) (Or.inl ⟨by rfl, ?_⟩) (by assumption) ?_
    rotate_left
    · intro w hSw
      (try dsimp only at hSw)
      go_simp
      with_reducible rfl
    try simp only [Act.put, List.setIfInBounds_toArray, List.set_cons_zero, List.set_cons_succ]
    refine wpAnyH_take (i := 19) (oi := _) (v := ?_) rfl (by kernel_rfl) (by kernel_rfl) (by kernel_rfl) (fun _ _ _ h => h) (Or.inl ⟨by rfl, ?_⟩) (by assumption) ?_
    rotate_left
    · intro w hSw
      (try dsimp only at hSw)
      go_simp
      with_reducible rfl
    try simp only [Act.put, List.setIfInBounds_toArray, List.set_cons_zero, List.set_cons_succ]
    have c1 := g6.r.c 1 (v := .int .i64 5) rfl
    have f1 := g6.r.fr 1
    have g7 : Goes (Sep (Core A c q) (Cyc b { y with head := (c.F : Int), at_ := 4, rs := false, tr := .pointer (some ⟨tb, 0, none⟩) } (Trace tb c g' cap' (tr0 c.F y.sn) Emp))) S w _ := g6.then fun S h => goesR (fun S h => (Goes.begin h).put 1 (.int .i64 4) (cs' := cyCells { y with head := (c.F : Int), at_ := 4, rs := false, tr := .pointer (some ⟨tb, 0, none⟩) }) rfl) S h
    clear hHeld
    refine wpAnyH_ready (rs := [20]) (by kernel_rfl) (by simp) ?_
    refine AllReadyH.cons (o := _) rfl (fun K hK => ?_) AllReadyH.nil
    go_simp
    go_wp2_with fail
    refine hK.out _ _ ⟨g7.l.c 0 (v := .int .i64 c.frags) rfl, g7.l.c 1 (v := .int .i64 c.spine) rfl, g7.l.c 2 (v := .int .i64 c.globals) rfl, g7.l.c 3 (v := .int .i64 c.threads) rfl, g7.l.c 4 (v := .int .i64 c.locals) rfl, g7.l.c 5 (v := .int .i64 0) rfl, g7.l.c 6 (v := .int .i64 c.stack) rfl, g7.l.c 7 (v := .int .i64 c.low) rfl, g7.l.c 8 (v := .slice (some ⟨A.g, 0, none⟩) c.shapes.length A.cap) rfl, g7.r.c 3 (v := .int .i64 (c.F : Int)) rfl, g7.r.c 7 (v := .bool y.sn) rfl⟩ (fun hHeld => ?_)
    clear hK K
    try simp only [Act.put, List.setIfInBounds_toArray, List.set_cons_zero, List.set_cons_succ]
    refine wpAnyH_done (by kernel_rfl) ?_ _
    have HG := Lib.hid g7
    clear hHeld g6 g7 hg c5 f5 c1 f1
    generalize World.setCell _ _ _ = w6 at *
    go_wp2_with fail
    (try rw [via_ret])
    first | go_end0 | ((try simp only [Exit.inBlock, Exit.then]); refine bodyPost_ret (results_none rfl _ _ _) rfl ?_)
    exact ⟨_, _, ⟨rfl, .inr ⟨HB.out, _, _, _, rfl, rfl⟩⟩, HG.out⟩
end
end Go.Proofs.YtnkgnhpapcnebaaGreat
