/- The collector: the roots. -/
import Derived.Test.YtnkgnhpapcnebaaGreatM36
import Derived.Test.YtnkgnhpapcnebaaGreatM4
set_option linter.unusedVariables false
set_option linter.unusedSimpArgs false
set_option maxHeartbeats 8000000
namespace Go.Proofs.YtnkgnhpapcnebaaGreat
open Go.RowKit
attribute [local go_sem] run_store_complex via_ret via_normal via_exit via_panic
section
variable {b : Nat} {y : Yc} {Kt : Thing} {S : Nat → Prop} {w w' : World} {A : CA} {c : Cf} {q : Q}
set_option maxRecDepth 100000 in
theorem cy_roots3 (hat : y.at_ = 3) (hhd : y.head = (c.F : Int)) (h : (Sep (Core A c q) (Cyc b y Kt)).at_ S w) :
    Calls Tryz.prog 45 #[.pointer (some ⟨b, 0, none⟩), .pointer (some ⟨A.b, 0, none⟩)] w fun e w' => e = .returned (.tuple #[]) ∧ Goes (Sep (Core A c q) (Cyc b { y with at_ := 0, i := wrap64 (y.i + 1) } Kt)) S w w' := by
  have c1 := (Goes.begin h).r.c 1 (v := .int .i64 y.at_) rfl
  rw [hat] at c1
  have g1 := (Goes.begin h).drew_
  have k10 := g1.l.c 10 (v := .pointer (some ⟨A.bs, 0, none⟩)) rfl
  have c3 := g1.r.c 3 (v := .int .i64 y.head) rfl
  rw [hhd] at c3
  have c7 := g1.r.c 7 (v := .bool y.sn) rfl
  have HL := Lib.hid ((core_sh (shi_grey y.sn _)).l.on g1)
  clear h g1 hhd hat
  go_enter Tryz.func45, Tryz.ntmps45
  refine wp_scope_via 1 fun F hF => ?_
  go_wp2_with fail
  go_still_tail 12, (by kernel_rfl)
  change wpList _ _ _ _ _ w.drew
  generalize w.drew = w1 at *
  go_wp2_with fail
  with_reducible refine HL.out.mono ?_
  rintro e w2 ⟨r, ⟨rfl, _⟩, hgx⟩
  have hg : Goes (Sep (Core A c q) (Cyc b y Kt)) S w w2 := hgx
  clear HL hgx k10 c1 c3 c7
  go_wp2_with fail
  refine wp_goto (show Exit.via F _ _ 1 (.goto 0) _ _ from ⟨_, by rw [hF.out]; rfl, ?_⟩)
  clear hF
  have c1 := hg.r.c 1 (v := .int .i64 y.at_) rfl
  have f1 := hg.r.fr 1
  have c2 := hg.r.c 2 (v := .int .i64 y.i) rfl
  have f2 := hg.r.fr 2
  have g3 : Goes (Sep (Core A c q) (Cyc b { y with at_ := 0, i := wrap64 (y.i + 1) } Kt)) S w _ := hg.then fun S h => goesR (fun S h => ((Goes.begin h).put 1 (.int .i64 0) (cs' := cyCells { y with at_ := 0 }) rfl).put 2 (.int .i64 (wrap64 (y.i + 1))) (cs' := cyCells { y with at_ := 0, i := wrap64 (y.i + 1) }) rfl) S h
  have HG := Lib.hid g3
  clear hg g3
  go_wp2_with fail
  (try rw [via_ret])
  first | go_end0 | ((try simp only [Exit.inBlock, Exit.then]); refine bodyPost_ret (results_none rfl _ _ _) rfl ?_)
  exact ⟨rfl, HG.out⟩
set_option maxRecDepth 100000 in
theorem cy_roots1 (hc : c.ok) (hat : y.at_ = 1) (h : (Sep (Core A c q) (Cyc b y Kt)).at_ S w) :
    Calls Tryz.prog 45 #[.pointer (some ⟨b, 0, none⟩), .pointer (some ⟨A.b, 0, none⟩)] w fun e w' => ∃ (y' : Yc), (e = .returned (.tuple #[]) ∧ ∃ i, (y' = { y with at_ := 1, i := i } ∨ y' = ({ y with at_ := 1, i := i } : Yc).to 5)) ∧ Goes (Sep (Core A c q) (Cyc b y' Kt)) S w w' := by
  have c1 := (Goes.begin h).r.c 1 (v := .int .i64 y.at_) rfl
  rw [hat] at c1
  have HC := Lib.hid hc
  have HG := Lib.hid (Goes.begin h)
  clear h hc
  go_enter Tryz.func45, Tryz.ntmps45
  refine wp_scope_via 1 fun F hF => ?_
  have c2 := HG.out.r.c 2 (v := .int .i64 y.i) rfl
  have k2 := HG.out.l.c 2 (v := .int .i64 c.globals) rfl
  by_cases hge : (c.globals : Int) ≤ y.i
  all_goals
    first
      | have hd : decide ((c.globals : Int) ≤ y.i) = true := by simpa using hge
      | have hd : decide ((c.globals : Int) ≤ y.i) = false := by simpa using hge
    go_wp2_with fail
    go_quiet (fail)
    go_wp2_with fail
    refine wp_goto (show Exit.via F _ _ 1 (.goto 1) _ _ from ⟨_, by rw [hF.out]; rfl, ?_⟩)
    clear hF hd hge
    have HG2 := Lib.hid (HG.out.drewN_ nq)
    have d1 := HG2.out.r.c 1 (v := .int .i64 y.at_) rfl
    rw [hat] at d1
    clear HG c1 c2 k2
    generalize w.drewN nq = WW at *
    obtain ⟨y, rfl⟩ : ∃ z : Yc, y = { z with at_ := 1 } := ⟨y, by rw [← hat]⟩
    clear hat
    have HL := Lib.hid (cy_polls HC.out HG2.out.now.choose_spec.1)
    have HL2 := Lib.hid (Does.on (fun S h => (cy_polls (b := b) (y := { y with at_ := 1 }) HC.out h).mono fun e w' ⟨r, i, he, hg⟩ => ⟨(r, i), he, hg⟩ : Does Tryz.prog 84 #[.pointer (some ⟨b, 0, none⟩), .pointer (some ⟨A.b, 0, none⟩)] WW (Sep (Core A c q) (Cyc b { y with at_ := 1 } Kt)) (fun (r : Bool × Int) e => e = .returned (.bool r.1)) (fun r => (Sep (Core A c q) (Cyc b { y with at_ := 1, i := r.2 } Kt)))) HG2.out)
    clear HL HG2
    go_wp2_with fail
    with_reducible refine HL2.out.mono ?_
    rintro e w4 ⟨⟨r, i⟩, rfl, hg⟩
    clear HL2 HC
    cases r with
    | false =>
      have HG := Lib.hid hg
      clear hg
      go_wp2_with fail
      (try rw [via_normal])
      first | go_end0 | ((try simp only [Exit.inBlock, Exit.then]); refine bodyPost_ret (results_none rfl _ _ _) rfl ?_)
      exact ⟨_, ⟨rfl, i, .inl rfl⟩, HG.out⟩
    | true =>
      have HE := Lib.hid (hg.call (sepR fun S h => cy_enters 5 h))
      clear hg
      go_wp2_with fail
      with_reducible refine HE.out.mono ?_
      rintro e w5 ⟨rfl, hg⟩
      have HG := Lib.hid hg
      clear HE hg
      go_wp2_with fail
      (try rw [via_normal])
      first | go_end0 | ((try simp only [Exit.inBlock, Exit.then]); refine bodyPost_ret (results_none rfl _ _ _) rfl ?_)
      exact ⟨_, ⟨rfl, i, .inr rfl⟩, HG.out⟩
set_option maxRecDepth 100000 in
theorem cy_roots0p (hc : c.ok) (hat : y.at_ = 0) (hge : (c.globals : Int) ≤ y.i) (h : (Sep (Core A c q) (Cyc b y Kt)).at_ S w) :
    Calls Tryz.prog 45 #[.pointer (some ⟨b, 0, none⟩), .pointer (some ⟨A.b, 0, none⟩)] w fun e w' => ∃ (y' : Yc), (e = .returned (.tuple #[]) ∧ ∃ i, (y' = { y with at_ := 1, i := i } ∨ y' = ({ y with at_ := 1, i := i } : Yc).to 5)) ∧ Goes (Sep (Core A c q) (Cyc b y' Kt)) S w w' := by
  have c1 := (Goes.begin h).r.c 1 (v := .int .i64 y.at_) rfl
  rw [hat] at c1
  have HC := Lib.hid hc
  have HG := Lib.hid (Goes.begin h)
  clear h hc
  go_enter Tryz.func45, Tryz.ntmps45
  refine wp_scope_via 1 fun F hF => ?_
  have c2 := HG.out.r.c 2 (v := .int .i64 y.i) rfl
  have k2 := HG.out.l.c 2 (v := .int .i64 c.globals) rfl
  have hd : decide ((c.globals : Int) ≤ y.i) = true := by simpa using hge
  go_wp2_with fail
  go_quiet (fail)
  go_wp2_with fail
  refine wp_goto (show Exit.via F _ _ 1 (.goto 1) _ _ from ⟨_, by rw [hF.out]; rfl, ?_⟩)
  clear hF
  clear hd hge
  have g2 := HG.out.drewN_ nq
  clear HG c1 c2 k2
  generalize w.drewN nq = w1 at *
  have c1 := g2.r.c 1 (v := .int .i64 y.at_) rfl
  rw [hat] at c1
  have f1 := g2.r.fr 1
  have c2 := g2.r.c 2 (v := .int .i64 y.i) rfl
  have f2 := g2.r.fr 2
  have g3 : Goes (Sep (Core A c q) (Cyc b { y with at_ := 1, i := 0 } Kt)) S w _ := g2.then fun S h => goesR (fun S h => ((Goes.begin h).put 1 (.int .i64 1) (cs' := cyCells { y with at_ := 1 }) rfl).put 2 (.int .i64 0) (cs' := cyCells { y with at_ := 1, i := 0 }) rfl) S h
  have HG2 := Lib.hid g3
  clear g2 g3
  go_upto_region 18 with fail
  generalize World.setCell (World.setCell _ _ _) _ _ = WW at *
  clear c1 c2 f1 f2
  have HL := Lib.hid (cy_polls HC.out HG2.out.now.choose_spec.1)
  have HL2 := Lib.hid (Does.on (fun S h => (cy_polls (b := b) (y := { y with at_ := 1, i := 0 }) HC.out h).mono fun e w' ⟨r, i, he, hg⟩ => ⟨(r, i), he, hg⟩ : Does Tryz.prog 84 #[.pointer (some ⟨b, 0, none⟩), .pointer (some ⟨A.b, 0, none⟩)] WW (Sep (Core A c q) (Cyc b { y with at_ := 1, i := 0 } Kt)) (fun (r : Bool × Int) e => e = .returned (.bool r.1)) (fun r => (Sep (Core A c q) (Cyc b { y with at_ := 1, i := r.2 } Kt)))) HG2.out)
  clear HL HG2
  go_wp2_with fail
  with_reducible refine HL2.out.mono ?_
  rintro e w4 ⟨⟨r, i⟩, rfl, hg⟩
  clear HL2 HC
  cases r with
  | false =>
    have HG := Lib.hid hg
    clear hg
    go_wp2_with fail
    (try rw [via_normal])
    first | go_end0 | ((try simp only [Exit.inBlock, Exit.then]); refine bodyPost_ret (results_none rfl _ _ _) rfl ?_)
    exact ⟨_, ⟨rfl, i, .inl rfl⟩, HG.out⟩
  | true =>
    have HE := Lib.hid (hg.call (sepR fun S h => cy_enters 5 h))
    clear hg
    go_wp2_with fail
    with_reducible refine HE.out.mono ?_
    rintro e w5 ⟨rfl, hg⟩
    have HG := Lib.hid hg
    clear HE hg
    go_wp2_with fail
    (try rw [via_normal])
    first | go_end0 | ((try simp only [Exit.inBlock, Exit.then]); refine bodyPost_ret (results_none rfl _ _ _) rfl ?_)
    exact ⟨_, ⟨rfl, i, .inr rfl⟩, HG.out⟩
set_option maxRecDepth 100000 in
theorem cy_roots0 {N : Nat} (hc : c.ok) (hF : c.F ≤ 16) (hat : y.at_ = 0) (hi : y.i = (N : Int)) (hN : N < c.globals) (h : (Sep (Core A c q) (Cyc b y Kt)).at_ S w) :
    Calls Tryz.prog 45 #[.pointer (some ⟨b, 0, none⟩), .pointer (some ⟨A.b, 0, none⟩)] w fun e w' => ∃ (y' : Yc), (e = .returned (.tuple #[]) ∧ ((y' = { y with head := (c.F : Int), at_ := 3 }) ∨ ∃ ix, y' = { y with head := ix, at_ := 0, i := wrap64 (y.i + 1) })) ∧ Goes (Sep (Core A c q) (Cyc b y' Kt)) S w w' := by
  have eg : (N : Int) + (c.frags : Int) * 8 + c.spine + c.spine = ((c.glob N : Nat) : Int) := by unfold Cf.glob; push_cast; omega
  have hgw : c.glob N < c.words := by unfold Cf.glob Cf.words; omega
  have HGL := Lib.hid fun w1 (gg : Goes (Sep (Core A c q) (Cyc b y Kt)) S w w1) => gg.plain (area_global N hc (core_confIs gg.l.is).choose_spec hN)
  rw [eg] at HGL
  unfold cfV at HGL
  have HRD := Lib.hid fun w1 (gg : Goes (Sep (Core A c q) (Cyc b { y with head := ((c.glob N : Nat) : Int) } Kt)) S w w1) => (core_memR (memi_read (c.glob N) hc hgw w1)).l.on gg
  have HV := Lib.hid fun f (hf : MemOk c q.m f) => hf.glob N hN
  obtain ⟨vk, hvk⟩ : ∃ k, (if N = 0 ∧ q.m.pb = true then c.F + 1 else 0) = k := ⟨_, rfl⟩
  rw [hvk] at HV
  have hk17 : vk ≤ 17 ∧ (vk = 0 ∨ vk = c.F + 1) := by rw [← hvk]; split <;> omega
  have HI := Lib.hid fun w => word_index vk 1 w hk17.1 (by omega)
  have hix : ixB vk 1 = true → ixI vk 1 = c.F := by
    intro hb
    unfold ixI
    rw [hb]
    rcases hk17.2 with e | e
    · subst e; simp [ixB] at hb
    · subst e; simp
  have HX := Lib.hid hix
  have HVC := Lib.hid (show cx vk 1 = .complex .f64 (fl vk) (fl 1) from rfl)
  unfold cx at HI
  generalize hix1 : (ixI vk 1 : Int) = ix at *
  have HE := Lib.hid hix1
  generalize fl vk = z1 at *
  generalize fl 1 = z2 at *
  generalize ixB vk 1 = ib at *
  have c1 := (Goes.begin h).r.c 1 (v := .int .i64 y.at_) rfl
  rw [hat] at c1
  have c2 := (Goes.begin h).r.c 2 (v := .int .i64 y.i) rfl
  rw [hi] at c2
  have HYI := Lib.hid hi
  have HAT := Lib.hid hat
  have k2 := (Goes.begin h).l.c 2 (v := .int .i64 c.globals) rfl
  have HG := Lib.hid (Goes.begin h)
  have hd : decide ((c.globals : Int) ≤ (N : Int)) = false := by simpa using hN
  have hd2 : decide (c.globals ≤ N) = false := by simpa using hN
  clear h hc hF hvk hk17 hix hix1 hi hat hN eg hgw
  go_enter Tryz.func45, Tryz.ntmps45
  refine wp_scope_via 0 fun F hF => ?_
  clear hF
  go_wp2_with fail
  go_quiet (fail)
  clear hd hd2 c1 c2 k2
  have g2 := HG.out.drewN_ nq
  clear HG
  generalize w.drewN nq = w1 at *
  go_wp2_with fail
  have g3 := g2.drew_
  clear g2
  have c2 := g3.r.c 2 (v := .int .i64 y.i) rfl
  rw [HYI.out] at c2
  have HGC := Lib.hid (HGL.out _ g3)
  clear HGL
  refine wp_region_held_drew (S := fun w' => w'.cell? ⟨b, 2, none⟩ = some (.int .i64 (N : Int)) ∧ w'.cell? ⟨A.b, 0, none⟩ = some (.int .i64 c.frags) ∧ w'.cell? ⟨A.b, 1, none⟩ = some (.int .i64 c.spine) ∧ w'.cell? ⟨A.b, 2, none⟩ = some (.int .i64 c.globals) ∧ w'.cell? ⟨A.b, 3, none⟩ = some (.int .i64 c.threads) ∧ w'.cell? ⟨A.b, 4, none⟩ = some (.int .i64 c.locals) ∧ w'.cell? ⟨A.b, 5, none⟩ = some (.int .i64 0) ∧ w'.cell? ⟨A.b, 6, none⟩ = some (.int .i64 c.stack) ∧ w'.cell? ⟨A.b, 7, none⟩ = some (.int .i64 c.low) ∧ w'.cell? ⟨A.b, 8, none⟩ = some (.slice (some ⟨A.g, 0, none⟩) c.shapes.length A.cap)) (by kernel_rfl) ⟨c2, core9 g3.l⟩ (fun hHeld => ?_)
  generalize w1.drew = wd at *
  refine wpAnyH_take (i := 0) (oi := _) (v := ?_) rfl (by kernel_rfl) (by kernel_rfl) (by kernel_rfl) (fun _ _ _ h => h) (Or.inl ⟨by rfl, ?_⟩) (by assumption) ?_
  rotate_left
  · intro w hSw
    (try dsimp only at hSw)
    go_simp
    with_reducible rfl
  try simp only [Act.put, List.setIfInBounds_toArray, List.set_cons_zero, List.set_cons_succ]
  refine wpAnyH_take (i := 1) (oi := _) (v := ?_) rfl (by kernel_rfl) (by kernel_rfl) (by kernel_rfl) (fun _ _ _ h => h) (Or.inl ⟨by rfl, ?_⟩) (by assumption) ?_
  rotate_left
  · intro w hSw
    (try dsimp only at hSw)
    go_simp
    with_reducible rfl
  try simp only [Act.put, List.setIfInBounds_toArray, List.set_cons_zero, List.set_cons_succ]
  refine wpAnyH_take (i := 2) (oi := _) (v := ?_) rfl (by kernel_rfl) (by kernel_rfl) (by kernel_rfl) (fun _ _ _ h => h) (Or.inl ⟨by rfl, ?_⟩) (by assumption) ?_
  rotate_left
  · intro w hSw
    (try dsimp only at hSw)
    go_simp
    with_reducible rfl
  try simp only [Act.put, List.setIfInBounds_toArray, List.set_cons_zero, List.set_cons_succ]
  refine wpAnyH_take (i := 3) (oi := _) (v := ?_) rfl (by kernel_rfl) (by kernel_rfl) (by kernel_rfl) (fun _ _ _ h => h) (Or.inl ⟨by rfl, ?_⟩) (by assumption) ?_
  rotate_left
  · intro w hSw
    (try dsimp only at hSw)
    go_simp
    with_reducible rfl
  try simp only [Act.put, List.setIfInBounds_toArray, List.set_cons_zero, List.set_cons_succ]
  refine wpAnyH_take (i := 4) (oi := _) (v := ?_) rfl (by kernel_rfl) (by kernel_rfl) (by kernel_rfl) (fun _ _ _ h => h) (Or.inl ⟨by rfl, ?_⟩) (by assumption) ?_
  rotate_left
  · intro w hSw
    (try dsimp only at hSw)
    go_simp
    with_reducible rfl
  try simp only [Act.put, List.setIfInBounds_toArray, List.set_cons_zero, List.set_cons_succ]
  refine wpAnyH_take (i := 5) (oi := _) (v := ?_) rfl (by kernel_rfl) (by kernel_rfl) (by kernel_rfl) (fun _ _ _ h => h) (Or.inl ⟨by rfl, ?_⟩) (by assumption) ?_
  rotate_left
  · intro w hSw
    (try dsimp only at hSw)
    go_simp
    with_reducible rfl
  try simp only [Act.put, List.setIfInBounds_toArray, List.set_cons_zero, List.set_cons_succ]
  refine wpAnyH_take (i := 6) (oi := _) (v := ?_) rfl (by kernel_rfl) (by kernel_rfl) (by kernel_rfl) (fun _ _ _ h => h) (Or.inl ⟨by rfl, ?_⟩) (by assumption) ?_
  rotate_left
  · intro w hSw
    (try dsimp only at hSw)
    go_simp
    with_reducible rfl
  try simp only [Act.put, List.setIfInBounds_toArray, List.set_cons_zero, List.set_cons_succ]
  refine wpAnyH_take (i := 7) (oi := _) (v := ?_) rfl (by kernel_rfl) (by kernel_rfl) (by kernel_rfl) (fun _ _ _ h => h) (Or.inl ⟨by rfl, ?_⟩) (by assumption) ?_
  rotate_left
  · intro w hSw
    (try dsimp only at hSw)
    go_simp
    with_reducible rfl
  try simp only [Act.put, List.setIfInBounds_toArray, List.set_cons_zero, List.set_cons_succ]
  refine wpAnyH_take (i := 8) (oi := _) (v := ?_) rfl (by kernel_rfl) (by kernel_rfl) (by kernel_rfl) (fun _ _ _ h => h) (Or.inl ⟨by rfl, ?_⟩) (by assumption) ?_
  rotate_left
  · intro w hSw
    (try dsimp only at hSw)
    go_simp
    with_reducible rfl
  try simp only [Act.put, List.setIfInBounds_toArray, List.set_cons_zero, List.set_cons_succ]
  refine wpAnyH_ready (rs := [9]) (by kernel_rfl) (by simp) ?_
  refine AllReadyH.cons (o := _) rfl (fun K hK => ?_) AllReadyH.nil
  go_simp
  with_reducible refine HGC.out.mono ?_
  rintro e w2 ⟨rfl, hg⟩
  clear HGC g3 hHeld c2
  have c2 := hg.r.c 2 (v := .int .i64 y.i) rfl
  rw [HYI.out] at c2
  go_wp2_with fail
  refine hK.out _ _ ⟨c2, core9 hg.l⟩ (fun hHeld => ?_)
  clear hK K
  try simp only [Act.put, List.getElem_toArray, List.getElem_cons_zero, List.getElem_cons_succ, List.setIfInBounds_toArray, List.set_cons_zero, List.set_cons_succ]
  refine wpAnyH_take (i := 10) (oi := _) (v := ?_) rfl (by kernel_rfl) (by kernel_rfl) (by kernel_rfl) (fun _ _ _ h => h) (Or.inl ⟨by rfl, ?_⟩) (by assumption) ?_
  rotate_left
  · intro w hSw
    (try dsimp only at hSw)
    go_simp
    with_reducible rfl
  try simp only [Act.put, List.setIfInBounds_toArray, List.set_cons_zero, List.set_cons_succ]
  refine wpAnyH_take (i := 11) (oi := _) (v := ?_) rfl (by kernel_rfl) (by kernel_rfl) (by kernel_rfl) (fun _ _ _ h => h) (Or.inl ⟨by rfl, ?_⟩) (by assumption) ?_
  rotate_left
  · intro w hSw
    (try dsimp only at hSw)
    go_simp
    with_reducible rfl
  try simp only [Act.put, List.setIfInBounds_toArray, List.set_cons_zero, List.set_cons_succ]
  refine wpAnyH_take (i := 12) (oi := _) (v := ?_) rfl (by kernel_rfl) (by kernel_rfl) (by kernel_rfl) (fun _ _ _ h => h) (Or.inl ⟨by rfl, ?_⟩) (by assumption) ?_
  rotate_left
  · intro w hSw
    (try dsimp only at hSw)
    go_simp
    with_reducible rfl
  try simp only [Act.put, List.setIfInBounds_toArray, List.set_cons_zero, List.set_cons_succ]
  refine wpAnyH_take (i := 13) (oi := _) (v := ?_) rfl (by kernel_rfl) (by kernel_rfl) (by kernel_rfl) (fun _ _ _ h => h) (Or.inl ⟨by rfl, ?_⟩) (by assumption) ?_
  rotate_left
  · intro w hSw
    (try dsimp only at hSw)
    go_simp
    with_reducible rfl
  try simp only [Act.put, List.setIfInBounds_toArray, List.set_cons_zero, List.set_cons_succ]
  refine wpAnyH_take (i := 14) (oi := _) (v := ?_) rfl (by kernel_rfl) (by kernel_rfl) (by kernel_rfl) (fun _ _ _ h => h) (Or.inl ⟨by rfl, ?_⟩) (by assumption) ?_
  rotate_left
  · intro w hSw
    (try dsimp only at hSw)
    go_simp
    with_reducible rfl
  try simp only [Act.put, List.setIfInBounds_toArray, List.set_cons_zero, List.set_cons_succ]
  have c3 := hg.r.c 3 (v := .int .i64 y.head) rfl
  have f3 := hg.r.fr 3
  have g4 : Goes (Sep (Core A c q) (Cyc b { y with head := ((c.glob N : Nat) : Int) } Kt)) S w _ := hg.then fun S h => goesR (fun S h => (Goes.begin h).put 3 (.int .i64 ((c.glob N : Nat) : Int)) (cs' := cyCells { y with head := ((c.glob N : Nat) : Int) }) rfl) S h
  clear hHeld c2
  have c2 := g4.r.c 2 (v := .int .i64 y.i) rfl
  rw [HYI.out] at c2
  refine wpAnyH_ready (rs := [15]) (by kernel_rfl) (by simp) ?_
  refine AllReadyH.cons (o := _) rfl (fun K hK => ?_) AllReadyH.nil
  go_simp
  go_wp2_with fail
  refine hK.out _ _ ⟨c2, core9 g4.l⟩ (fun hHeld => ?_)
  clear hK K
  try simp only [Act.put, List.getElem_toArray, List.getElem_cons_zero, List.getElem_cons_succ, List.setIfInBounds_toArray, List.set_cons_zero, List.set_cons_succ]
  refine wpAnyH_take (i := 16) (oi := _) (v := ?_) rfl (by kernel_rfl) (by kernel_rfl) (by kernel_rfl) (fun _ _ _ h => h) (Or.inl ⟨by rfl, ?_⟩) (by assumption) ?_
  rotate_left
  · intro w hSw
    (try dsimp only at hSw)
    go_simp
    with_reducible rfl
  try simp only [Act.put, List.getElem_toArray, List.getElem_cons_zero, List.getElem_cons_succ, List.setIfInBounds_toArray, List.set_cons_zero, List.set_cons_succ]
  refine wpAnyH_done (by kernel_rfl) ?_ _
  clear hHeld hg c2 c3 f3
  generalize World.setCell _ _ _ = w3 at *
  go_wp2_with fail
  have g5 := g4.drew_
  clear g4
  have HRC := Lib.hid (HRD.out _ g5)
  clear HRD
  refine wp_region_held_drew (S := fun w' => w'.cell? ⟨b, 3, none⟩ = some (.int .i64 ((c.glob N : Nat) : Int)) ∧ w'.cell? ⟨A.b, 9, none⟩ = some (.pointer (some ⟨A.bm, 0, none⟩))) (by kernel_rfl) ⟨g5.r.c 3 (v := .int .i64 ((c.glob N : Nat) : Int)) rfl, g5.l.c 9 (v := .pointer (some ⟨A.bm, 0, none⟩)) rfl⟩ (fun hHeld => ?_)
  generalize w3.drew = wd at *
  refine wpAnyH_take (i := 0) (oi := _) (v := ?_) rfl (by kernel_rfl) (by kernel_rfl) (by kernel_rfl) (fun _ _ _ h => h) (Or.inl ⟨by rfl, ?_⟩) (by assumption) ?_
  rotate_left
  · intro w hSw
    (try dsimp only at hSw)
    go_simp
    with_reducible rfl
  try simp only [Act.put, List.setIfInBounds_toArray, List.set_cons_zero, List.set_cons_succ]
  refine wpAnyH_take (i := 1) (oi := _) (v := ?_) rfl (by kernel_rfl) (by kernel_rfl) (by kernel_rfl) (fun _ _ _ h => h) (Or.inl ⟨by rfl, ?_⟩) (by assumption) ?_
  rotate_left
  · intro w hSw
    (try dsimp only at hSw)
    go_simp
    with_reducible rfl
  try simp only [Act.put, List.setIfInBounds_toArray, List.set_cons_zero, List.set_cons_succ]
  refine wpAnyH_take (i := 2) (oi := _) (v := ?_) rfl (by kernel_rfl) (by kernel_rfl) (by kernel_rfl) (fun _ _ _ h => h) (Or.inl ⟨by rfl, ?_⟩) (by assumption) ?_
  rotate_left
  · intro w hSw
    (try dsimp only at hSw)
    go_simp
    with_reducible rfl
  try simp only [Act.put, List.setIfInBounds_toArray, List.set_cons_zero, List.set_cons_succ]
  refine wpAnyH_take (i := 3) (oi := _) (v := ?_) rfl (by kernel_rfl) (by kernel_rfl) (by kernel_rfl) (fun _ _ _ h => h) (Or.inl ⟨by rfl, ?_⟩) (by assumption) ?_
  rotate_left
  · intro w hSw
    (try dsimp only at hSw)
    go_simp
    with_reducible rfl
  try simp only [Act.put, List.setIfInBounds_toArray, List.set_cons_zero, List.set_cons_succ]
  refine wpAnyH_take (i := 4) (oi := _) (v := ?_) rfl (by kernel_rfl) (by kernel_rfl) (by kernel_rfl) (fun _ _ _ h => h) (Or.inl ⟨by rfl, ?_⟩) (by assumption) ?_
  rotate_left
  · intro w hSw
    (try dsimp only at hSw)
    go_simp
    with_reducible rfl
  try simp only [Act.put, List.setIfInBounds_toArray, List.set_cons_zero, List.set_cons_succ]
  refine wpAnyH_take (i := 5) (oi := _) (v := ?_) rfl (by kernel_rfl) (by kernel_rfl) (by kernel_rfl) (fun _ _ _ h => h) (Or.inl ⟨by rfl, ?_⟩) (by assumption) ?_
  rotate_left
  · intro w hSw
    (try dsimp only at hSw)
    go_simp
    with_reducible rfl
  try simp only [Act.put, List.setIfInBounds_toArray, List.set_cons_zero, List.set_cons_succ]
  refine wpAnyH_take (i := 6) (oi := _) (v := ?_) rfl (by kernel_rfl) (by kernel_rfl) (by kernel_rfl) (fun _ _ _ h => h) (Or.inl ⟨by rfl, ?_⟩) (by assumption) ?_
  rotate_left
  · intro w hSw
    (try dsimp only at hSw)
    go_simp
    with_reducible rfl
  try simp only [Act.put, List.setIfInBounds_toArray, List.set_cons_zero, List.set_cons_succ]
  refine wpAnyH_take (i := 7) (oi := _) (v := ?_) rfl (by kernel_rfl) (by kernel_rfl) (by kernel_rfl) (fun _ _ _ h => h) (Or.inl ⟨by rfl, ?_⟩) (by assumption) ?_
  rotate_left
  · intro w hSw
    (try dsimp only at hSw)
    go_simp
    with_reducible rfl
  try simp only [Act.put, List.setIfInBounds_toArray, List.set_cons_zero, List.set_cons_succ]
  refine wpAnyH_ready (rs := [8]) (by kernel_rfl) (by simp) ?_
  refine AllReadyH.cons (o := _) rfl (fun K hK => ?_) AllReadyH.nil
  go_simp
  with_reducible refine HRC.out.mono ?_
  rintro e w4 ⟨v, ⟨rfl, f, hf, hfv⟩, hgx⟩
  have hg : Goes (Sep (Core A c q) (Cyc b { y with head := ((c.glob N : Nat) : Int) } Kt)) S w w4 := hgx
  clear HRC hgx hHeld g5
  obtain rfl := (hfv.trans (HV.out f hf)).trans HVC.out
  clear hf hfv HV HVC f
  go_wp2_with fail
  refine hK.out _ _ ⟨hg.r.c 3 (v := .int .i64 ((c.glob N : Nat) : Int)) rfl, hg.l.c 9 (v := .pointer (some ⟨A.bm, 0, none⟩)) rfl⟩ (fun hHeld => ?_)
  clear hK K
  try simp only [Act.put, List.getElem_toArray, List.getElem_cons_zero, List.getElem_cons_succ, List.setIfInBounds_toArray, List.set_cons_zero, List.set_cons_succ]
  refine wpAnyH_take (i := 9) (oi := _) (v := ?_) rfl (by kernel_rfl) (by kernel_rfl) (by kernel_rfl) (fun _ _ _ h => h) (Or.inl ⟨by rfl, ?_⟩) (by assumption) ?_
  rotate_left
  · intro w hSw
    (try dsimp only at hSw)
    go_simp
    with_reducible rfl
  try simp only [Act.put, List.setIfInBounds_toArray, List.set_cons_zero, List.set_cons_succ]
  refine wpAnyH_take (i := 10) (oi := _) (v := ?_) rfl (by kernel_rfl) (by kernel_rfl) (by kernel_rfl) (fun _ _ _ h => h) (Or.inl ⟨by rfl, ?_⟩) (by assumption) ?_
  rotate_left
  · intro w hSw
    (try dsimp only at hSw)
    go_simp
    with_reducible rfl
  try simp only [Act.put, List.setIfInBounds_toArray, List.set_cons_zero, List.set_cons_succ]
  refine wpAnyH_take (i := 11) (oi := _) (v := ?_) rfl (by kernel_rfl) (by kernel_rfl) (by kernel_rfl) (fun _ _ _ h => h) (Or.inl ⟨by rfl, ?_⟩) (by assumption) ?_
  rotate_left
  · intro w hSw
    (try dsimp only at hSw)
    go_simp
    with_reducible rfl
  try simp only [Act.put, List.setIfInBounds_toArray, List.set_cons_zero, List.set_cons_succ]
  refine wpAnyH_take (i := 12) (oi := _) (v := ?_) rfl (by kernel_rfl) (by kernel_rfl) (by kernel_rfl) (fun _ _ _ h => h) (Or.inl ⟨by rfl, ?_⟩) (by assumption) ?_
  rotate_left
  · intro w hSw
    (try dsimp only at hSw)
    go_simp
    with_reducible rfl
  try simp only [Act.put, List.getElem_toArray, List.getElem_cons_zero, List.getElem_cons_succ, List.setIfInBounds_toArray, List.set_cons_zero, List.set_cons_succ]
  refine wpAnyH_take (i := 13) (oi := _) (v := ?_) rfl (by kernel_rfl) (by kernel_rfl) (by kernel_rfl) (fun _ _ _ h => h) (Or.inl ⟨by rfl, ?_⟩) (by assumption) ?_
  rotate_left
  · intro w hSw
    (try dsimp only at hSw)
    go_simp
    with_reducible rfl
  try simp only [Act.put, List.getElem_toArray, List.getElem_cons_zero, List.getElem_cons_succ, List.setIfInBounds_toArray, List.set_cons_zero, List.set_cons_succ]
  refine wpAnyH_done (by kernel_rfl) ?_ _
  clear hHeld
  go_wp2_with fail
  with_reducible refine (HI.out _).mono ?_
  rintro e w5 ⟨rfl, rfl⟩
  clear HI
  have c3 := hg.r.c 3 (v := .int .i64 ((c.glob N : Nat) : Int)) rfl
  have f3 := hg.r.fr 3
  have g6 : Goes (Sep (Core A c q) (Cyc b { y with head := ix } Kt)) S w _ := hg.then fun S h => goesR (fun S h => (Goes.begin h).put 3 (.int .i64 ix) (cs' := cyCells { y with head := ix }) rfl) S h
  have c1 := g6.r.c 1 (v := .int .i64 y.at_) rfl
  have f1 := g6.r.fr 1
  cases ib with
  | true =>
    have g7 : Goes (Sep (Core A c q) (Cyc b { y with head := ix, at_ := 3 } Kt)) S w _ := g6.then fun S h => goesR (fun S h => (Goes.begin h).put 1 (.int .i64 3) (cs' := cyCells { y with head := ix, at_ := 3 }) rfl) S h
    have HG := Lib.hid g7
    have hh : ix = (c.F : Int) := by rw [← HE.out, HX.out rfl]
    subst hh
    clear hg g6 g7
    go_wp2_with fail
    (try rw [via_ret])
    first | go_end0 | ((try simp only [Exit.inBlock, Exit.then]); refine bodyPost_ret (results_none rfl _ _ _) rfl ?_)
    exact ⟨_, ⟨rfl, .inl rfl⟩, HG.out⟩
  | false =>
    have c2 := g6.r.c 2 (v := .int .i64 y.i) rfl
    have f2 := g6.r.fr 2
    have g7 : Goes (Sep (Core A c q) (Cyc b { y with head := ix, at_ := 0, i := wrap64 (y.i + 1) } Kt)) S w _ := g6.then fun S h => goesR (fun S h => ((Goes.begin h).put 1 (.int .i64 0) (cs' := cyCells { y with head := ix, at_ := 0 }) rfl).put 2 (.int .i64 (wrap64 (y.i + 1))) (cs' := cyCells { y with head := ix, at_ := 0, i := wrap64 (y.i + 1) }) rfl) S h
    have HG := Lib.hid g7
    clear hg g6 g7 HE
    go_wp2_with fail
    apply wp_label
    go_wp2_with fail
    (try rw [via_ret])
    first | go_end0 | ((try simp only [Exit.inBlock, Exit.then]); refine bodyPost_ret (results_none rfl _ _ _) rfl ?_)
    exact ⟨_, ⟨rfl, .inr ⟨_, rfl⟩⟩, HG.out⟩
end
end Go.Proofs.YtnkgnhpapcnebaaGreat
