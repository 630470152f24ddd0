/- The collector: marking, its other steps. -/
import Derived.Test.YtnkgnhpapcnebaaGreatM35
set_option linter.unusedVariables false
set_option linter.unusedSimpArgs false
set_option maxHeartbeats 8000000
namespace Go.Proofs.YtnkgnhpapcnebaaGreat
open Go.RowKit
attribute [local go_sem] run_store_complex via_ret via_normal via_exit via_panic
def Aok (a : Int) : Prop := a = 0 ∨ a = 6
section
variable {b : Nat} {y : Yc} {Kt : Thing} {S : Nat → Prop} {w w' : World} {A : CA} {c : Cf} {q : Q}
set_option maxRecDepth 100000 in
theorem cy_marks4 {tb : Nat} (hc : c.ok) (hs : c.shapes[0]? = some (false, l3)) (hl : c.l0 = l3) (hwr : q.m.wr = 8) (hK : TrK c tb Kt) (htr : y.tr = .pointer (some ⟨tb, 0, none⟩)) (hat : y.at_ = 4) (h : (Sep (Core A c q) (Cyc b y Kt)).at_ S w) :
    Calls Tryz.prog 46 #[.pointer (some ⟨b, 0, none⟩), .pointer (some ⟨A.b, 0, none⟩)] w fun e w' => ∃ (y' : Yc) (K' : Thing), (e = .returned (.tuple #[]) ∧ ((y' = y ∧ TrK c tb K') ∨ (K' = Emp ∧ ∃ a, Aok a ∧ ∃ i, y' = { y with at_ := a, i := i }))) ∧ Goes (Sep (Core A c q) (Cyc b y' K')) S w w' := by
  have c1 := (Goes.begin h).r.c 1 (v := .int .i64 y.at_) rfl
  rw [hat] at c1
  have HL := Lib.hid (cy_traces hc hs hl hwr hK htr h)
  clear h hc hs hl hwr hK htr
  go_enter Tryz.func46, Tryz.ntmps46
  refine wp_scope_via 1 fun F hF => ?_
  go_wp2_with fail
  refine wp_goto (show Exit.via F _ _ 1 (.goto 0) _ _ from ⟨_, by rw [hF.out]; rfl, ?_⟩)
  clear hF
  go_wp2_with fail
  with_reducible refine HL.out.mono ?_
  rintro e w2 ⟨r, K', ⟨rfl, hr0, hr1⟩, hg⟩
  clear HL c1
  cases r with
  | false =>
    have HR := Lib.hid (hr0 rfl)
    have HG := Lib.hid hg
    clear hg hr0 hr1
    go_wp2_with fail
    (try rw [via_ret])
    first | go_end0 | ((try simp only [Exit.inBlock, Exit.then]); refine bodyPost_ret (results_none rfl _ _ _) rfl ?_)
    exact ⟨_, _, ⟨rfl, .inl ⟨rfl, HR.out⟩⟩, HG.out⟩
  | true =>
    obtain rfl := hr1 rfl
    have c1 := hg.r.c 1 (v := .int .i64 y.at_) rfl
    have f1 := hg.r.fr 1
    have g3 : Goes (Sep (Core A c q) (Cyc b { y with at_ := 0 } Emp)) S w _ := hg.then fun S h => goesR (fun S h => (Goes.begin h).put 1 (.int .i64 0) (cs' := cyCells { y with at_ := 0 }) rfl) S h
    have HG := Lib.hid g3
    clear hg hr0 hr1 g3
    go_upto_region 11 with fail
    generalize World.setCell _ _ _ = w3 at *
    clear c1 f1
    have c4 := HG.out.r.c 4 (v := .bool y.rs) rfl
    obtain ⟨rs, hrs⟩ : ∃ r, y.rs = r := ⟨_, rfl⟩
    rw [hrs] at c4
    clear hrs
    cases rs with
    | false =>
      go_wp2_with fail
      (try rw [via_ret])
      first | go_end0 | ((try simp only [Exit.inBlock, Exit.then]); refine bodyPost_ret (results_none rfl _ _ _) rfl ?_)
      exact ⟨_, _, ⟨rfl, .inr ⟨rfl, 0, .inl rfl, y.i, rfl⟩⟩, HG.out⟩
    | true =>
      have HF := Lib.hid (Does.on (fun S h => (cy_follows h).mono fun e w' ⟨a, i, ⟨he, ha⟩, hg⟩ => ⟨(a, i), ⟨he, ha⟩, hg⟩ : Does Tryz.prog 91 #[.pointer (some ⟨b, 0, none⟩), .pointer (some ⟨A.b, 0, none⟩)] w3 (Sep (Core A c q) (Cyc b { y with at_ := 0 } Emp)) (fun (r : Int × Int) e => e = .returned (.tuple #[]) ∧ (r.1 = 0 ∨ r.1 = 6)) (fun r => (Sep (Core A c q) (Cyc b { y with at_ := r.1, i := r.2 } Emp)))) HG.out)
      clear HG
      go_wp2_with fail
      with_reducible refine HF.out.mono ?_
      rintro e w4 ⟨⟨a, i⟩, ⟨rfl, ha⟩, hg⟩
      have HG := Lib.hid hg
      have HA := Lib.hid ha
      clear HF hg ha c4
      go_wp2_with fail
      (try rw [via_ret])
      first | go_end0 | ((try simp only [Exit.inBlock, Exit.then]); refine bodyPost_ret (results_none rfl _ _ _) rfl ?_)
      exact ⟨_, _, ⟨rfl, .inr ⟨rfl, a, HA.out, i, rfl⟩⟩, HG.out⟩
set_option maxRecDepth 100000 in
theorem cy_marks5 (hat : y.at_ = 5) (h : (Sep (Core A c q) (Cyc b y Kt)).at_ S w) :
    Calls Tryz.prog 46 #[.pointer (some ⟨b, 0, none⟩), .pointer (some ⟨A.b, 0, none⟩)] w fun e w' => ∃ (y' : Yc), (e = .returned (.tuple #[]) ∧ (y' = y.to 6 ∨ y' = { y with at_ := 6, i := 0 })) ∧ Goes (Sep (Core A c q) (Cyc b y' Kt)) S w w' := by
  have c1 := (Goes.begin h).r.c 1 (v := .int .i64 y.at_) rfl
  rw [hat] at c1
  have k10 := (Goes.begin h).l.c 10 (v := .pointer (some ⟨A.bs, 0, none⟩)) rfl
  have HL := Lib.hid ((core_sh (shi_lost _)).l.on (Goes.begin h))
  clear h
  go_enter Tryz.func46, Tryz.ntmps46
  refine wp_scope_via 1 fun F hF => ?_
  go_wp2_with fail
  refine wp_goto (show Exit.via F _ _ 1 (.goto 1) _ _ from ⟨_, by rw [hF.out]; rfl, ?_⟩)
  clear hF
  go_wp2_with fail
  with_reducible refine HL.out.mono ?_
  rintro e w2 ⟨r, ⟨rfl, _⟩, hgx⟩
  have hg : Goes (Sep (Core A c q) (Cyc b y Kt)) S w w2 := hgx
  clear HL hgx k10 c1
  cases r with
  | false =>
    have HE := Lib.hid (hg.call (sepR fun S h => cy_enters 6 h))
    clear hg
    go_wp2_with fail
    with_reducible refine HE.out.mono ?_
    rintro e w2 ⟨rfl, hg⟩
    have HG := Lib.hid hg
    clear HE hg
    go_wp2_with fail
    (try rw [via_ret])
    first | go_end0 | ((try simp only [Exit.inBlock, Exit.then]); refine bodyPost_ret (results_none rfl _ _ _) rfl ?_)
    exact ⟨_, ⟨rfl, .inl rfl⟩, HG.out⟩
  | true =>
    have c1 := hg.r.c 1 (v := .int .i64 y.at_) rfl
    have f1 := hg.r.fr 1
    have c2 := hg.r.c 2 (v := .int .i64 y.i) rfl
    have f2 := hg.r.fr 2
    have g3 : Goes (Sep (Core A c q) (Cyc b { y with at_ := 6, i := 0 } Kt)) S w _ := hg.then fun S h => goesR (fun S h => ((Goes.begin h).put 1 (.int .i64 6) (cs' := cyCells { y with at_ := 6 }) rfl).put 2 (.int .i64 0) (cs' := cyCells { y with at_ := 6, i := 0 }) rfl) S h
    have HG := Lib.hid g3
    clear hg g3
    go_wp2_with fail
    (try rw [via_ret])
    first | go_end0 | ((try simp only [Exit.inBlock, Exit.then]); refine bodyPost_ret (results_none rfl _ _ _) rfl ?_)
    exact ⟨_, ⟨rfl, .inr rfl⟩, HG.out⟩
set_option maxRecDepth 100000 in
theorem cy_marks6 (hc : c.ok) (hat : y.at_ = 6) (h : (Sep (Core A c q) (Cyc b y Kt)).at_ S w) :
    Calls Tryz.prog 46 #[.pointer (some ⟨b, 0, none⟩), .pointer (some ⟨A.b, 0, none⟩)] w fun e w' => ∃ (y' : Yc) (K' : Thing), (e = .returned (.tuple #[]) ∧ ((K' = Kt ∧ ∃ a, Aok a ∧ ∃ i, y' = { y with at_ := a, i := i }) ∨ (q.bn = true ∧ ∃ tb g cap, y' = { y with tr := .pointer (some ⟨tb, 0, none⟩), at_ := 4, rs := true } ∧ K' = Trace tb c g cap (tr0 c.F y.sn) Emp))) ∧ Goes (Sep (Core A c q) (Cyc b y' K')) S w w' := by
  have c1 := (Goes.begin h).r.c 1 (v := .int .i64 y.at_) rfl
  rw [hat] at c1
  have g1 := (Goes.begin h).drew_
  have k10 := g1.l.c 10 (v := .pointer (some ⟨A.bs, 0, none⟩)) rfl
  have c2 := g1.r.c 2 (v := .int .i64 y.i) rfl
  have c7 := g1.r.c 7 (v := .bool y.sn) rfl
  have HL := Lib.hid ((core_sh (shi_black y.i y.sn _)).l.on g1)
  have HC := Lib.hid hc
  clear h hc g1
  go_enter Tryz.func46, Tryz.ntmps46
  refine wp_scope_via 1 fun F hF => ?_
  go_wp2_with fail
  refine wp_goto (show Exit.via F _ _ 1 (.goto 2) _ _ from ⟨_, by rw [hF.out]; rfl, ?_⟩)
  clear hF
  go_wp2_with fail
  go_still_tail 12, (by kernel_rfl)
  change wpList _ _ _ _ _ w.drew
  generalize w.drew = w1 at *
  go_wp2_with fail
  with_reducible refine HL.out.mono ?_
  rintro e w2 ⟨r, ⟨rfl, hr⟩, hgx⟩
  have hg : Goes (Sep (Core A c q) (Cyc b y Kt)) S w w2 := hgx
  clear HL hgx k10 c1 c2 c7
  cases r with
  | false =>
    have HF := Lib.hid (Does.on (fun S h => (cy_follows h).mono fun e w' ⟨a, i, ⟨he, ha⟩, hg⟩ => ⟨(a, i), ⟨he, ha⟩, hg⟩ : Does Tryz.prog 91 #[.pointer (some ⟨b, 0, none⟩), .pointer (some ⟨A.b, 0, none⟩)] w2 (Sep (Core A c q) (Cyc b y Kt)) (fun (r : Int × Int) e => e = .returned (.tuple #[]) ∧ (r.1 = 0 ∨ r.1 = 6)) (fun r => (Sep (Core A c q) (Cyc b { y with at_ := r.1, i := r.2 } Kt)))) hg)
    clear hg hr
    go_wp2_with fail
    with_reducible refine HF.out.mono ?_
    rintro e w4 ⟨⟨a, i⟩, ⟨rfl, ha⟩, hg⟩
    have HG := Lib.hid hg
    have HA := Lib.hid ha
    clear HF hg ha
    go_wp2_with fail
    (try rw [via_normal])
    first | go_end0 | ((try simp only [Exit.inBlock, Exit.then]); refine bodyPost_ret (results_none rfl _ _ _) rfl ?_)
    exact ⟨_, _, ⟨rfl, .inl ⟨rfl, a, HA.out, i, rfl⟩⟩, HG.out⟩
  | true =>
    obtain ⟨hi, hbn⟩ := hr rfl
    have HI := Lib.hid hi
    clear hr hi
    have HB := Lib.hid hbn
    clear hbn
    have HG := Lib.hid hg
    clear hg
    go_upto_region 17 with fail
    have g4 := HG.out.drew_
    have HN := Lib.hid (trace_new c.F y.sn HC.out (core_confIs g4.l.is).choose_spec)
    have c2 := g4.r.c 2 (v := .int .i64 y.i) rfl
    rw [HI.out] at c2
    unfold cfV at HN
    clear HG
    refine wp_region_held_drew (S := fun w' => w'.cell? ⟨b, 2, none⟩ = some (.int .i64 (c.F : Int)) ∧ w'.cell? ⟨b, 7, none⟩ = some (.bool y.sn) ∧ w'.cell? ⟨A.b, 0, none⟩ = some (.int .i64 c.frags) ∧ w'.cell? ⟨A.b, 1, none⟩ = some (.int .i64 c.spine) ∧ w'.cell? ⟨A.b, 2, none⟩ = some (.int .i64 c.globals) ∧ w'.cell? ⟨A.b, 3, none⟩ = some (.int .i64 c.threads) ∧ w'.cell? ⟨A.b, 4, none⟩ = some (.int .i64 c.locals) ∧ w'.cell? ⟨A.b, 5, none⟩ = some (.int .i64 0) ∧ w'.cell? ⟨A.b, 6, none⟩ = some (.int .i64 c.stack) ∧ w'.cell? ⟨A.b, 7, none⟩ = some (.int .i64 c.low) ∧ w'.cell? ⟨A.b, 8, none⟩ = some (.slice (some ⟨A.g, 0, none⟩) c.shapes.length A.cap)) (by kernel_rfl) ⟨c2, g4.r.c 7 (v := .bool y.sn) rfl, core9 g4.l⟩ (fun hHeld => ?_)
    generalize w2.drew = wd at *
    refine wpAnyH_take (i := 0) (oi := _) (v := ?_) rfl (by kernel_rfl) (by kernel_rfl) (by kernel_rfl) (fun _ _ _ h => h) (Or.inl ⟨by rfl, ?_⟩) (by assumption) ?_
    rotate_left
    · intro w hSw
      (try dsimp only at hSw)
      go_simp
      with_reducible rfl
    try simp only [Act.put, List.setIfInBounds_toArray, List.set_cons_zero, List.set_cons_succ]
    refine wpAnyH_take (i := 1) (oi := _) (v := ?_) rfl (by kernel_rfl) (by kernel_rfl) (by kernel_rfl) (fun _ _ _ h => h) (Or.inl ⟨by rfl, ?_⟩) (by assumption) ?_
    rotate_left
    · intro w hSw
      (try dsimp only at hSw)
      go_simp
      with_reducible rfl
    try simp only [Act.put, List.setIfInBounds_toArray, List.set_cons_zero, List.set_cons_succ]
    refine wpAnyH_take (i := 2) (oi := _) (v := ?_) rfl (by kernel_rfl) (by kernel_rfl) (by kernel_rfl) (fun _ _ _ h => h) (Or.inl ⟨by rfl, ?_⟩) (by assumption) ?_
    rotate_left
    · intro w hSw
      (try dsimp only at hSw)
      go_simp
      with_reducible rfl
    try simp only [Act.put, List.setIfInBounds_toArray, List.set_cons_zero, List.set_cons_succ]
    refine wpAnyH_take (i := 3) (oi := _) (v := ?_) rfl (by kernel_rfl) (by kernel_rfl) (by kernel_rfl) (fun _ _ _ h => h) (Or.inl ⟨by rfl, ?_⟩) (by assumption) ?_
    rotate_left
    · intro w hSw
      (try dsimp only at hSw)
      go_simp
      with_reducible rfl
    try simp only [Act.put, List.setIfInBounds_toArray, List.set_cons_zero, List.set_cons_succ]
    refine wpAnyH_take (i := 4) (oi := _) (v := ?_) rfl (by kernel_rfl) (by kernel_rfl) (by kernel_rfl) (fun _ _ _ h => h) (Or.inl ⟨by rfl, ?_⟩) (by assumption) ?_
    rotate_left
    · intro w hSw
      (try dsimp only at hSw)
      go_simp
      with_reducible rfl
    try simp only [Act.put, List.setIfInBounds_toArray, List.set_cons_zero, List.set_cons_succ]
    refine wpAnyH_take (i := 5) (oi := _) (v := ?_) rfl (by kernel_rfl) (by kernel_rfl) (by kernel_rfl) (fun _ _ _ h => h) (Or.inl ⟨by rfl, ?_⟩) (by assumption) ?_
    rotate_left
    · intro w hSw
      (try dsimp only at hSw)
      go_simp
      with_reducible rfl
    try simp only [Act.put, List.setIfInBounds_toArray, List.set_cons_zero, List.set_cons_succ]
    refine wpAnyH_take (i := 6) (oi := _) (v := ?_) rfl (by kernel_rfl) (by kernel_rfl) (by kernel_rfl) (fun _ _ _ h => h) (Or.inl ⟨by rfl, ?_⟩) (by assumption) ?_
    rotate_left
    · intro w hSw
      (try dsimp only at hSw)
      go_simp
      with_reducible rfl
    try simp only [Act.put, List.setIfInBounds_toArray, List.set_cons_zero, List.set_cons_succ]
    refine wpAnyH_take (i := 7) (oi := _) (v := ?_) rfl (by kernel_rfl) (by kernel_rfl) (by kernel_rfl) (fun _ _ _ h => h) (Or.inl ⟨by rfl, ?_⟩) (by assumption) ?_
    rotate_left
    · intro w hSw
      (try dsimp only at hSw)
      go_simp
      with_reducible rfl
    try simp only [Act.put, List.setIfInBounds_toArray, List.set_cons_zero, List.set_cons_succ]
    refine wpAnyH_take (i := 8) (oi := _) (v := ?_) rfl (by kernel_rfl) (by kernel_rfl) (by kernel_rfl) (fun _ _ _ h => h) (Or.inl ⟨by rfl, ?_⟩) (by assumption) ?_
    rotate_left
    · intro w hSw
      (try dsimp only at hSw)
      go_simp
      with_reducible rfl
    try simp only [Act.put, List.setIfInBounds_toArray, List.set_cons_zero, List.set_cons_succ]
    refine wpAnyH_take (i := 9) (oi := _) (v := ?_) rfl (by kernel_rfl) (by kernel_rfl) (by kernel_rfl) (fun _ _ _ h => h) (Or.inl ⟨by rfl, ?_⟩) (by assumption) ?_
    rotate_left
    · intro w hSw
      (try dsimp only at hSw)
      go_simp
      with_reducible rfl
    try simp only [Act.put, List.setIfInBounds_toArray, List.set_cons_zero, List.set_cons_succ]
    refine wpAnyH_take (i := 10) (oi := _) (v := ?_) rfl (by kernel_rfl) (by kernel_rfl) (by kernel_rfl) (fun _ _ _ h => h) (Or.inl ⟨by rfl, ?_⟩) (by assumption) ?_
    rotate_left
    · intro w hSw
      (try dsimp only at hSw)
      go_simp
      with_reducible rfl
    try simp only [Act.put, List.setIfInBounds_toArray, List.set_cons_zero, List.set_cons_succ]
    refine wpAnyH_take (i := 11) (oi := _) (v := ?_) rfl (by kernel_rfl) (by kernel_rfl) (by kernel_rfl) (fun _ _ _ h => h) (Or.inl ⟨by rfl, ?_⟩) (by assumption) ?_
    rotate_left
    · intro w hSw
      (try dsimp only at hSw)
      go_simp
      with_reducible rfl
    try simp only [Act.put, List.setIfInBounds_toArray, List.set_cons_zero, List.set_cons_succ]
    refine wpAnyH_take (i := 12) (oi := _) (v := ?_) rfl (by kernel_rfl) (by kernel_rfl) (by kernel_rfl) (fun _ _ _ h => h) (Or.inl ⟨by rfl, ?_⟩) (by assumption) ?_
    rotate_left
    · intro w hSw
      (try dsimp only at hSw)
      go_simp
      with_reducible rfl
    try simp only [Act.put, List.setIfInBounds_toArray, List.set_cons_zero, List.set_cons_succ]
    refine wpAnyH_take (i := 13) (oi := _) (v := ?_) rfl (by kernel_rfl) (by kernel_rfl) (by kernel_rfl) (fun _ _ _ h => h) (Or.inl ⟨by rfl, ?_⟩) (by assumption) ?_
    rotate_left
    · intro w hSw
      (try dsimp only at hSw)
      go_simp
      with_reducible rfl
    try simp only [Act.put, List.setIfInBounds_toArray, List.set_cons_zero, List.set_cons_succ]
    refine wpAnyH_take (i := 14) (oi := _) (v := ?_) rfl (by kernel_rfl) (by kernel_rfl) (by kernel_rfl) (fun _ _ _ h => h) (Or.inl ⟨by rfl, ?_⟩) (by assumption) ?_
    rotate_left
    · intro w hSw
      (try dsimp only at hSw)
      go_simp
      with_reducible rfl
    try simp only [Act.put, List.setIfInBounds_toArray, List.set_cons_zero, List.set_cons_succ]
    refine wpAnyH_ready (rs := [15]) (by kernel_rfl) (by simp) ?_
    refine AllReadyH.cons (o := _) rfl (fun K hK => ?_) AllReadyH.nil
    go_simp
    with_reducible refine HN.out.mono ?_
    rintro e w4 ⟨tb, g', cap', rfl, hs⟩
    have g5 : Goes (Sep (Sep (Core A c q) (Cyc b y Kt)) (Trace tb c g' cap' (tr0 c.F y.sn) Emp)) S w w4 := g4.moreSt hs
    clear HN hs g4 hHeld c2
    have hg : Goes (Sep (Core A c q) (Cyc b y (Trace tb c g' cap' (tr0 c.F y.sn) Emp))) S w w4 := g5.drop (cyc_part _ _ _ _)
    clear g5
    have c2 := hg.r.c 2 (v := .int .i64 y.i) rfl
    rw [HI.out] at c2
    go_wp2_with fail
    refine hK.out _ _ ⟨c2, hg.r.c 7 (v := .bool y.sn) rfl, core9 hg.l⟩ (fun hHeld => ?_)
    clear hK K
    try simp only [Act.put, List.setIfInBounds_toArray, List.set_cons_zero, List.set_cons_succ]
    refine wpAnyH_take (i := 16) (oi := _) (v := ?_) rfl (by kernel_rfl) (by kernel_rfl) (by kernel_rfl) (fun _ _ _ h => h) (Or.inl ⟨by rfl, ?_⟩) (by assumption) ?_
    rotate_left
    · intro w hSw
      (try dsimp only at hSw)
      go_simp
      with_reducible rfl
    try simp only [Act.put, List.setIfInBounds_toArray, List.set_cons_zero, List.set_cons_succ]
    refine wpAnyH_take (i := 17) (oi := _) (v := ?_) rfl (by kernel_rfl) (by kernel_rfl) (by kernel_rfl) (fun _ _ _ h => h) (Or.inl ⟨by rfl, ?_⟩) (by assumption) ?_
    rotate_left
    · intro w hSw
      (try dsimp only at hSw)
      go_simp
      with_reducible rfl
    try simp only [Act.put, List.setIfInBounds_toArray, List.set_cons_zero, List.set_cons_succ]
    have c5 := hg.r.c 5 (v := y.tr) rfl
    have f5 := hg.r.fr 5
    have g6 : Goes (Sep (Core A c q) (Cyc b { y with tr := .pointer (some ⟨tb, 0, none⟩) } (Trace tb c g' cap' (tr0 c.F y.sn) Emp))) S w _ := hg.then fun S h => goesR (fun S h => (Goes.begin h).put 5 (.pointer (some ⟨tb, 0, none⟩)) (cs' := cyCells { y with tr := .pointer (some ⟨tb, 0, none⟩) }) rfl) S h
    clear hHeld c2
    have c2 := g6.r.c 2 (v := .int .i64 y.i) rfl
    rw [HI.out] at c2
    refine wpAnyH_ready (rs := [18]) (by kernel_rfl) (by simp) ?_
    refine AllReadyH.cons (o := _) rfl (fun K hK => ?_) AllReadyH.nil
    go_simp
    go_wp2_with fail
    refine hK.out _ _ ⟨c2, g6.r.c 7 (v := .bool y.sn) rfl, core9 g6.l⟩ (fun hHeld => ?_)
    clear hK K
    try simp only [Act.put, List.setIfInBounds_toArray, List.set_cons_zero, List.set_cons_succ]
    refine wpAnyH_take (i := 19) (oi := _) (v := ?_) rfl (by kernel_rfl) (by kernel_rfl) (by kernel_rfl) (fun _ _ _ h => h) (Or.inl ⟨by rfl, ?_⟩) (by assumption) ?_
    rotate_left
    · intro w hSw
      (try dsimp only at hSw)
      go_simp
      with_reducible rfl
    try simp only [Act.put, List.setIfInBounds_toArray, List.set_cons_zero, List.set_cons_succ]
    refine wpAnyH_take (i := 20) (oi := _) (v := ?_) rfl (by kernel_rfl) (by kernel_rfl) (by kernel_rfl) (fun _ _ _ h => h) (Or.inl ⟨by rfl, ?_⟩) (by assumption) ?_
    rotate_left
    · intro w hSw
      (try dsimp only at hSw)
      go_simp
      with_reducible rfl
    try simp only [Act.put, List.setIfInBounds_toArray, List.set_cons_zero, List.set_cons_succ]
    have c1 := g6.r.c 1 (v := .int .i64 y.at_) rfl
    have f1 := g6.r.fr 1
    have g7 : Goes (Sep (Core A c q) (Cyc b { y with tr := .pointer (some ⟨tb, 0, none⟩), at_ := 4 } (Trace tb c g' cap' (tr0 c.F y.sn) Emp))) S w _ := g6.then fun S h => goesR (fun S h => (Goes.begin h).put 1 (.int .i64 4) (cs' := cyCells { y with tr := .pointer (some ⟨tb, 0, none⟩), at_ := 4 }) rfl) S h
    clear hHeld c2
    have c2 := g7.r.c 2 (v := .int .i64 y.i) rfl
    rw [HI.out] at c2
    refine wpAnyH_ready (rs := [21]) (by kernel_rfl) (by simp) ?_
    refine AllReadyH.cons (o := _) rfl (fun K hK => ?_) AllReadyH.nil
    go_simp
    go_wp2_with fail
    refine hK.out _ _ ⟨c2, g7.r.c 7 (v := .bool y.sn) rfl, core9 g7.l⟩ (fun hHeld => ?_)
    clear hK K
    try simp only [Act.put, List.setIfInBounds_toArray, List.set_cons_zero, List.set_cons_succ]
    refine wpAnyH_take (i := 22) (oi := _) (v := ?_) rfl (by kernel_rfl) (by kernel_rfl) (by kernel_rfl) (fun _ _ _ h => h) (Or.inl ⟨by rfl, ?_⟩) (by assumption) ?_
    rotate_left
    · intro w hSw
      (try dsimp only at hSw)
      go_simp
      with_reducible rfl
    try simp only [Act.put, List.setIfInBounds_toArray, List.set_cons_zero, List.set_cons_succ]
    refine wpAnyH_take (i := 23) (oi := _) (v := ?_) rfl (by kernel_rfl) (by kernel_rfl) (by kernel_rfl) (fun _ _ _ h => h) (Or.inl ⟨by rfl, ?_⟩) (by assumption) ?_
    rotate_left
    · intro w hSw
      (try dsimp only at hSw)
      go_simp
      with_reducible rfl
    try simp only [Act.put, List.setIfInBounds_toArray, List.set_cons_zero, List.set_cons_succ]
    have c4 := g7.r.c 4 (v := .bool y.rs) rfl
    have f4 := g7.r.fr 4
    have g8 : Goes (Sep (Core A c q) (Cyc b { y with tr := .pointer (some ⟨tb, 0, none⟩), at_ := 4, rs := true } (Trace tb c g' cap' (tr0 c.F y.sn) Emp))) S w _ := g7.then fun S h => goesR (fun S h => (Goes.begin h).put 4 (.bool true) (cs' := cyCells { y with tr := .pointer (some ⟨tb, 0, none⟩), at_ := 4, rs := true }) rfl) S h
    clear hHeld c2
    have c2 := g8.r.c 2 (v := .int .i64 y.i) rfl
    rw [HI.out] at c2
    refine wpAnyH_ready (rs := [24]) (by kernel_rfl) (by simp) ?_
    refine AllReadyH.cons (o := _) rfl (fun K hK => ?_) AllReadyH.nil
    go_simp
    go_wp2_with fail
    refine hK.out _ _ ⟨c2, g8.r.c 7 (v := .bool y.sn) rfl, core9 g8.l⟩ (fun hHeld => ?_)
    clear hK K
    try simp only [Act.put, List.setIfInBounds_toArray, List.set_cons_zero, List.set_cons_succ]
    refine wpAnyH_done (by kernel_rfl) ?_ _
    have HG := Lib.hid g8
    clear hHeld g6 g7 g8 hg c5 f5 c1 f1 c4 f4 c2
    generalize World.setCell _ _ _ = w6 at *
    go_wp2_with fail
    (try rw [via_ret])
    first | go_end0 | ((try simp only [Exit.inBlock, Exit.then]); refine bodyPost_ret (results_none rfl _ _ _) rfl ?_)
    first | exact ⟨_, _, ⟨rfl, .inr ⟨HB.out, _, _, _, rfl, rfl⟩⟩, HG.out⟩ | exact ⟨_, _, ⟨rfl, .inr ⟨HB.out, _, rfl, _, _, rfl⟩⟩, HG.out⟩
end
end Go.Proofs.YtnkgnhpapcnebaaGreat
