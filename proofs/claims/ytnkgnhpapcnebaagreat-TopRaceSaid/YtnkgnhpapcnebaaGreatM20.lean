/- A thread: what it made is there. -/
import Derived.Test.YtnkgnhpapcnebaaGreatM19
import Derived.Laws.RangeString
import Derived.Test.YtnkgnhpapcnebaaGreatM5
set_option linter.unusedVariables false
set_option linter.unusedSimpArgs false
set_option maxHeartbeats 8000000
namespace Go.Proofs.YtnkgnhpapcnebaaGreat
open Go.RowKit
attribute [local go_sem] run_store_complex via_ret via_normal via_exit via_panic
section
variable {b t : Nat} {ov lv : Value} {x : Tc} {X : Thing} {S : Nat → Prop} {w w' : World} {A : CA} {c : Cf} {q : Q} {lg n : Nat} {l : Nat → Lc}
set_option maxRecDepth 100000 in
theorem act_bears {o : Opn} {v : Value} (hF : c.F ≤ 16) (hgot : x.got = v) (hj : o.a < n) (hn : n ≤ 8) (hph : x.ph = 2) (hnx : x.nx ≤ 1000) (h : (Sep (Sep (Core A c q) (LThr b t ov lg n x l X)) (Got v c.F)).at_ S w) :
    Calls Tryz.prog 114 #[.pointer (some ⟨b, 0, none⟩), .pointer (some ⟨A.b, 0, none⟩), .agg (opc o)] w fun e w' => ∃ r : Bool, e = .returned (Rs.v ⟨x.nx, x.own, if r then 0 else 10, r, if r then fl (c.F + 1) else 0, if r then fl 1 else 0, true⟩) ∧ Goes (Sep (Core A c { q with bn := q.bn || r }) (LThr b t ov lg n x.next (if r then updL l o.a ⟨true, c.F + 1, 1⟩ else l) X)) S w w' := by
  obtain ⟨gs, go, cp, rfl, h1, h2⟩ := seq_form (Goes.begin h).r.is
  obtain ⟨x, rfl⟩ : ∃ y : Tc, x = { y with got := .slice (some ⟨gs, go, none⟩) 1 cp } := ⟨x, by rw [← hgot]⟩
  have g0 := ((Goes.begin h).moreSt (St.fresh (opc o) 26)).moreSt (St.fresh zeroRes 41)
  rw [World.size_alloc] at g0
  obtain ⟨vb, hvb⟩ : ∃ k, w.heap.size = k := ⟨_, rfl⟩
  obtain ⟨rb, hrb⟩ : ∃ k, vb + 1 = k := ⟨_, rfl⟩
  rw [hvb, hrb] at g0
  have g1 := g0.drew_
  have k11 := g1.l.l.l.l.c 11 (v := .pointer (some ⟨A.bsp, 0, none⟩)) rfl
  have c17 := g1.l.l.l.r.c 17 (v := .slice (some ⟨gs, go, none⟩) 1 cp) rfl
  have s0 := g1.l.l.r.seq (i := 0) (x := .int .i64 (c.F : Int)) rfl
  simp only [Nat.add_zero] at s0
  have HL := Lib.hid ((core_two (bn := fun r => q.bn || r) (ask := fun _ => q.ask) (sp_born _)).l.l.l.l.on g1)
  have HFA := Lib.hid fun w5 (hg5 : Goes (Sep (Sep (Sep (Sep (Core A c { q with bn := q.bn || false, ask := q.ask }) (LThr b t ov lg n { x with got := .slice (some ⟨gs, go, none⟩) 1 cp } l X)) (Got (.slice (some ⟨gs, go, none⟩) 1 cp) c.F)) (Var vb #[.int .i64 (o.kd : Int), .int .i64 (o.a : Int), .int .i64 (o.b : Int), .int .i64 (o.c : Int), .int .i64 (o.n : Int), .complex .f64 o.z1 o.z2] 26)) (Var rb #[.int .i64 0, .int .i64 0, .int .i64 0, .bool false, .complex .f64 0 0] 41)) S w w5) => hg5.call (sepL (sepL (sepL (sepR fun S h => act_fails (er := 10) (by decide) hph hnx h))))
  have HLA := Lib.hid fun w5 (hg5 : Goes (Sep (Sep (Sep (Sep (Core A c { q with bn := q.bn || true, ask := q.ask }) (LThr b t ov lg n { x with got := .slice (some ⟨gs, go, none⟩) 1 cp } l X)) (Got (.slice (some ⟨gs, go, none⟩) 1 cp) c.F)) (Var vb #[.int .i64 (o.kd : Int), .int .i64 (o.a : Int), .int .i64 (o.b : Int), .int .i64 (o.c : Int), .int .i64 (o.n : Int), .complex .f64 o.z1 o.z2] 26)) (Var rb #[.int .i64 0, .int .i64 0, .int .i64 0, .bool false, .complex .f64 0 0] 41)) S w w5) => hg5.call (sepL (sepL (sepL (sepR fun S h => act_lays (x := { x with got := .slice (some ⟨gs, go, none⟩) 1 cp }) (v := ⟨true, c.F + 1, 1⟩) hj hn hph hnx h))))
  have HRF := Lib.hid fun w => word_ref c.F w (by omega)
  unfold opc at *
  unfold Rs.v cx at *
  generalize fl (c.F + 1) = z1 at *
  generalize fl 1 = z2 at *
  simp only [zeroRes] at *
  clear h g0 g1 hgot
  go_enter Tryz.func114, Tryz.ntmps114
  go_upto_region 1 with fail
  generalize (w.alloc _).alloc _ = w1 at *
  go_still_tail 11, (by kernel_rfl)
  change wpList _ _ _ _ _ w1.drew
  generalize w1.drew = w2 at *
  go_wp2_with fail
  with_reducible refine HL.out.mono ?_
  rintro e w3 ⟨r, ⟨rfl, _⟩, hgx⟩
  clear HL k11 c17 s0
  cases r with
  | false =>
    have HF2 := Lib.hid (HFA.out _ hgx)
    clear HFA HLA HRF hgx
    go_wp2_with fail
    with_reducible refine HF2.out.mono ?_
    rintro e w4 ⟨rfl, hgy⟩
    have hg : Goes (Sep (Sep (Core A c { q with bn := q.bn || false }) (LThr b t ov lg n (Tc.next { x with got := .slice (some ⟨gs, go, none⟩) 1 cp }) l X)) (Var rb #[.int .i64 0, .int .i64 0, .int .i64 0, .bool false, .complex .f64 0 0] 41)) S w w4 := hgy.drop (Part.both (Part.trans (Part.left _ _) (Part.left _ _)) (Part.refl _))
    clear HF2 hgy
    have q0_ := hg.r.vc 0 (v := .int .i64 0) rfl
    have p0_ := hg.r.vf 0
    have q1_ := hg.r.vc 1 (v := .int .i64 0) rfl
    have p1_ := hg.r.vf 1
    have q2_ := hg.r.vc 2 (v := .int .i64 0) rfl
    have p2_ := hg.r.vf 2
    have q3_ := hg.r.vc 3 (v := .bool false) rfl
    have p3_ := hg.r.vf 3
    have q4_ := hg.r.vc 4 (v := .complex .f64 0 0) rfl
    have p4_ := hg.r.vf 4
    have g8_ := hg.then fun S h => goesR (fun S h => (((((Goes.begin h).vput 0 (.int .i64 (x.nx)) rfl).vput 1 (.int .i64 (x.own)) rfl).vput 2 (.int .i64 (10)) rfl).vput 3 (.bool (false)) rfl).vput 4 (.complex .f64 0 0) rfl) S h
    have k0_ := g8_.r.vc 0 (v := .int .i64 (x.nx)) rfl
    have k1_ := g8_.r.vc 1 (v := .int .i64 (x.own)) rfl
    have k2_ := g8_.r.vc 2 (v := .int .i64 (10)) rfl
    have k3_ := g8_.r.vc 3 (v := .bool (false)) rfl
    have k4_ := g8_.r.vc 4 (v := .complex .f64 0 0) rfl
    have HF := Lib.hid g8_.l
    clear hg g8_
    go_wp2_with fail
    (try rw [via_ret])
    exact bodyPost_ret (v := .tuple #[.agg #[.int .i64 (x.nx), .int .i64 (x.own), .int .i64 (10), .bool (false), .complex .f64 0 0], .bool true]) (by simp [results, Tryz.results114, go_sem, k0_, k1_, k2_, k3_, k4_]) rfl ⟨false, rfl, HF.out⟩
  | true =>
    have hg2 : Goes (Sep (Sep (Sep (Sep (Core A c { q with bn := q.bn || true, ask := q.ask }) (LThr b t ov lg n { x with got := .slice (some ⟨gs, go, none⟩) 1 cp } l X)) (Got (.slice (some ⟨gs, go, none⟩) 1 cp) c.F)) (Var vb #[.int .i64 (o.kd : Int), .int .i64 (o.a : Int), .int .i64 (o.b : Int), .int .i64 (o.c : Int), .int .i64 (o.n : Int), .complex .f64 o.z1 o.z2] 26)) (Var rb #[.int .i64 0, .int .i64 0, .int .i64 0, .bool false, .complex .f64 0 0] 41)) S w w3 := hgx
    clear HFA hgx
    have g1 := hg2.drew_
    have s0 := g1.l.l.r.seq (i := 0) (x := .int .i64 (c.F : Int)) rfl
    simp only [Nat.add_zero] at s0
    have o1 := g1.l.r.vc 1 (v := .int .i64 (o.a : Int)) rfl
    have c17 := g1.l.l.l.r.c 17 (v := .slice (some ⟨gs, go, none⟩) 1 cp) rfl
    go_wp2_with fail
    refine wp_region_held_drew (S := fun w' => w'.cell? ⟨vb, 1, none⟩ = some (.int .i64 (o.a : Int)) ∧ w'.cell? ⟨b, 17, none⟩ = some (.slice (some ⟨gs, go, none⟩) 1 cp) ∧ w'.cell? ⟨gs, go, none⟩ = some (.int .i64 (c.F : Int))) (by kernel_rfl) ⟨o1, c17, s0⟩ (fun hHeld => ?_)
    generalize w3.drew = wd at *
    refine wpAnyH_take (i := 0) (oi := _) (v := ?_) rfl (by kernel_rfl) (by kernel_rfl) (by kernel_rfl) (fun _ _ _ h => h) (Or.inl ⟨by rfl, ?_⟩) (by assumption) ?_
    rotate_left
    · intro w hSw
      (try dsimp only at hSw)
      go_simp
      with_reducible rfl
    try simp only [Act.put, List.setIfInBounds_toArray, List.set_cons_zero, List.set_cons_succ]
    refine wpAnyH_take (i := 1) (oi := _) (v := ?_) rfl (by kernel_rfl) (by kernel_rfl) (by kernel_rfl) (fun _ _ _ h => h) (Or.inl ⟨by rfl, ?_⟩) (by assumption) ?_
    rotate_left
    · intro w hSw
      (try dsimp only at hSw)
      go_simp
      with_reducible rfl
    try simp only [Act.put, List.setIfInBounds_toArray, List.set_cons_zero, List.set_cons_succ]
    refine wpAnyH_take (i := 2) (oi := _) (v := ?_) rfl (by kernel_rfl) (by kernel_rfl) (by kernel_rfl) (fun _ _ _ h => h) (Or.inl ⟨by rfl, ?_⟩) (by assumption) ?_
    rotate_left
    · intro w hSw
      (try dsimp only at hSw)
      go_simp
      with_reducible rfl
    try simp only [Act.put, List.setIfInBounds_toArray, List.set_cons_zero, List.set_cons_succ]
    refine wpAnyH_take (i := 3) (oi := _) (v := ?_) rfl (by kernel_rfl) (by kernel_rfl) (by kernel_rfl) (fun _ _ _ h => h) (Or.inl ⟨by rfl, ?_⟩) (by assumption) ?_
    rotate_left
    · intro w hSw
      (try dsimp only at hSw)
      go_simp
      with_reducible rfl
    try simp only [Act.put, List.setIfInBounds_toArray, List.set_cons_zero, List.set_cons_succ]
    refine wpAnyH_take (i := 4) (oi := _) (v := ?_) rfl (by kernel_rfl) (by kernel_rfl) (by kernel_rfl) (fun _ _ _ h => h) (Or.inl ⟨by rfl, ?_⟩) (by assumption) ?_
    rotate_left
    · intro w hSw
      (try dsimp only at hSw)
      go_simp
      with_reducible rfl
    try simp only [Act.put, List.setIfInBounds_toArray, List.set_cons_zero, List.set_cons_succ]
    refine wpAnyH_take (i := 5) (oi := _) (v := ?_) rfl (by kernel_rfl) (by kernel_rfl) (by kernel_rfl) (fun _ _ _ h => h) (Or.inl ⟨by rfl, ?_⟩) (by assumption) ?_
    rotate_left
    · intro w hSw
      (try dsimp only at hSw)
      go_simp
      with_reducible rfl
    try simp only [Act.put, List.setIfInBounds_toArray, List.set_cons_zero, List.set_cons_succ]
    refine wpAnyH_take (i := 6) (oi := _) (v := ?_) rfl (by kernel_rfl) (by kernel_rfl) (by kernel_rfl) (fun _ _ _ h => h) (Or.inl ⟨by rfl, ?_⟩) (by assumption) ?_
    rotate_left
    · intro w hSw
      (try dsimp only at hSw)
      go_simp
      with_reducible rfl
    try simp only [Act.put, List.setIfInBounds_toArray, List.set_cons_zero, List.set_cons_succ]
    refine wpAnyH_take (i := 7) (oi := _) (v := ?_) rfl (by kernel_rfl) (by kernel_rfl) (by kernel_rfl) (fun _ _ _ h => h) (Or.inl ⟨by rfl, ?_⟩) (by assumption) ?_
    rotate_left
    · intro w hSw
      (try dsimp only at hSw)
      go_simp
      with_reducible rfl
    try simp only [Act.put, List.setIfInBounds_toArray, List.set_cons_zero, List.set_cons_succ]
    refine wpAnyH_take (i := 8) (oi := _) (v := ?_) rfl (by kernel_rfl) (by kernel_rfl) (by kernel_rfl) (fun _ _ _ h => h) (Or.inl ⟨by rfl, ?_⟩) (by assumption) ?_
    rotate_left
    · intro w hSw
      (try dsimp only at hSw)
      go_simp
      with_reducible rfl
    try simp only [Act.put, List.setIfInBounds_toArray, List.set_cons_zero, List.set_cons_succ]
    refine wpAnyH_take (i := 9) (oi := _) (v := ?_) rfl (by kernel_rfl) (by kernel_rfl) (by kernel_rfl) (fun _ _ _ h => h) (Or.inl ⟨by rfl, ?_⟩) (by assumption) ?_
    rotate_left
    · intro w hSw
      (try dsimp only at hSw)
      go_simp
      with_reducible rfl
    try simp only [Act.put, List.setIfInBounds_toArray, List.set_cons_zero, List.set_cons_succ]
    refine wpAnyH_ready (rs := [10]) (by kernel_rfl) (by simp) ?_
    refine AllReadyH.cons (o := _) rfl (fun K hK => ?_) AllReadyH.nil
    go_simp
    with_reducible refine (HRF.out _).mono ?_
    rintro e w4 ⟨rfl, rfl⟩
    go_wp2_with fail
    refine hK.out _ _ ⟨o1, c17, s0⟩ (fun hHeld => ?_)
    clear hK K
    try simp only [Act.put, List.setIfInBounds_toArray, List.set_cons_zero, List.set_cons_succ]
    refine wpAnyH_take (i := 11) (oi := _) (v := ?_) rfl (by kernel_rfl) (by kernel_rfl) (by kernel_rfl) (fun _ _ _ h => h) (Or.inl ⟨by rfl, ?_⟩) (by assumption) ?_
    rotate_left
    · intro w hSw
      (try dsimp only at hSw)
      go_simp
      with_reducible rfl
    try simp only [Act.put, List.setIfInBounds_toArray, List.set_cons_zero, List.set_cons_succ]
    refine wpAnyH_ready (rs := [12]) (by kernel_rfl) (by simp) ?_
    refine AllReadyH.cons (o := _) rfl (fun K hK => ?_) AllReadyH.nil
    go_simp
    with_reducible refine (HLA.out _ g1).mono ?_
    rintro e w5 ⟨rfl, hgx⟩
    have hg : Goes (Sep (Sep (Sep (Sep (Core A c { q with bn := q.bn || true }) (LThr b t ov lg n (Tc.next { x with got := .slice (some ⟨gs, go, none⟩) 1 cp }) (updL l o.a ⟨true, c.F + 1, 1⟩) X)) (Got (.slice (some ⟨gs, go, none⟩) 1 cp) c.F)) (Var vb #[.int .i64 (o.kd : Int), .int .i64 (o.a : Int), .int .i64 (o.b : Int), .int .i64 (o.c : Int), .int .i64 (o.n : Int), .complex .f64 o.z1 o.z2] 26)) (Var rb #[.int .i64 0, .int .i64 0, .int .i64 0, .bool false, .complex .f64 0 0] 41)) S w w5 := hgx
    clear hgx HLA hHeld hg2 s0 o1 c17
    go_wp2_with fail
    refine hK.out _ _ ⟨hg.l.r.vc 1 (v := .int .i64 (o.a : Int)) rfl, hg.l.l.l.r.c 17 (v := .slice (some ⟨gs, go, none⟩) 1 cp) rfl, hg.l.l.r.seq (i := 0) (x := .int .i64 (c.F : Int)) rfl⟩ (fun hHeld => ?_)
    clear hK K
    try simp only [Act.put, List.setIfInBounds_toArray, List.set_cons_zero, List.set_cons_succ]
    refine wpAnyH_take (i := 13) (oi := _) (v := ?_) rfl (by kernel_rfl) (by kernel_rfl) (by kernel_rfl) (fun _ _ _ h => h) (Or.inl ⟨by rfl, ?_⟩) (by assumption) ?_
    rotate_left
    · intro w hSw
      (try dsimp only at hSw)
      go_simp
      with_reducible rfl
    try simp only [Act.put, List.setIfInBounds_toArray, List.set_cons_zero, List.set_cons_succ]
    refine wpAnyH_take (i := 14) (oi := _) (v := ?_) rfl (by kernel_rfl) (by kernel_rfl) (by kernel_rfl) (fun _ _ _ h => h) (Or.inl ⟨by rfl, ?_⟩) (by assumption) ?_
    rotate_left
    · intro w hSw
      (try dsimp only at hSw)
      go_simp
      with_reducible rfl
    try simp only [Act.put, List.setIfInBounds_toArray, List.set_cons_zero, List.set_cons_succ]
    have q0_ := hg.r.vc 0 (v := .int .i64 0) rfl
    have q1_ := hg.r.vc 1 (v := .int .i64 0) rfl
    have q2_ := hg.r.vc 2 (v := .int .i64 0) rfl
    have q3_ := hg.r.vc 3 (v := .bool false) rfl
    have q4_ := hg.r.vc 4 (v := .complex .f64 0 0) rfl
    have p0_ := hg.r.vf 0
    have p1_ := hg.r.vf 1
    have p2_ := hg.r.vf 2
    have p3_ := hg.r.vf 3
    have p4_ := hg.r.vf 4
    have g8_ := hg.then fun S h => goesR (fun S h => (((((Goes.begin h).vput 0 (.int .i64 x.nx) rfl).vput 1 (.int .i64 x.own) rfl).vput 2 (.int .i64 0) rfl).vput 3 (.bool true) rfl).vput 4 (.complex .f64 z1 z2) rfl) S h
    refine wpAnyH_ready (rs := [15]) (by kernel_rfl) (by simp) ?_
    refine AllReadyH.cons (o := _) rfl (fun K hK => ?_) AllReadyH.nil
    go_simp
    refine hK.out _ _ ⟨g8_.l.r.vc 1 (v := .int .i64 (o.a : Int)) rfl, g8_.l.l.l.r.c 17 (v := .slice (some ⟨gs, go, none⟩) 1 cp) rfl, g8_.l.l.r.seq (i := 0) (x := .int .i64 (c.F : Int)) rfl⟩ (fun hHeld => ?_)
    clear hK K
    have k0_ := g8_.r.vc 0 (v := .int .i64 x.nx) rfl
    have k1_ := g8_.r.vc 1 (v := .int .i64 x.own) rfl
    have k2_ := g8_.r.vc 2 (v := .int .i64 0) rfl
    have k3_ := g8_.r.vc 3 (v := .bool true) rfl
    have k4_ := g8_.r.vc 4 (v := .complex .f64 z1 z2) rfl
    have HF := Lib.hid g8_.l.l.l
    have hp1_ := g8_.l.r.vc 1 (v := .int .i64 (o.a : Int)) rfl
    have hp2_ := g8_.l.l.l.r.c 17 (v := .slice (some ⟨gs, go, none⟩) 1 cp) rfl
    have hp3_ := g8_.l.l.r.seq (i := 0) (x := .int .i64 (c.F : Int)) rfl
    rw [Nat.add_zero] at hp3_
    clear g8_
    generalize World.setCell _ _ _ = w6 at *
    try simp only [Act.put, List.setIfInBounds_toArray, List.set_cons_zero, List.set_cons_succ]
    refine wpAnyH_ready (rs := [16]) (by kernel_rfl) (by simp) ?_
    refine AllReadyH.cons (o := _) rfl (fun K hK => ?_) AllReadyH.nil
    go_simp
    refine hK.out _ _ ⟨hp1_, hp2_, hp3_⟩ (fun hHeld => ?_)
    clear hK K
    try simp only [Act.put, List.setIfInBounds_toArray, List.set_cons_zero, List.set_cons_succ]
    refine wpAnyH_done (by kernel_rfl) ?_ _
    clear hg q0_ q1_ q2_ q3_ q4_ p0_ p1_ p2_ p3_ p4_
    go_wp2_with fail
    refine bodyPost_ret (v := .tuple #[.agg #[.int .i64 x.nx, .int .i64 x.own, .int .i64 0, .bool true, .complex .f64 z1 z2], .bool true]) (by simp [results, Tryz.results114, go_sem, k0_, k1_, k2_, k3_, k4_]) rfl ?_
    refine ⟨true, ?_, ?_⟩
    · simp only [if_true]
    · rw [if_pos rfl]; exact HF.out
end
end Go.Proofs.YtnkgnhpapcnebaaGreat
/- A thread: it takes what was granted. -/
namespace Go.Proofs.YtnkgnhpapcnebaaGreat
open Go.RowKit
attribute [local go_sem] run_store_complex via_ret via_normal via_exit via_panic
section
variable {b t : Nat} {ov lv : Value} {x : Tc} {X : Thing} {S : Nat → Prop} {w w' : World} {A : CA} {c : Cf} {q : Q} {lg n : Nat} {l : Nat → Lc}
set_option maxRecDepth 100000 in
/-- What lies deep is brought forward, and back. -/
theorem sepAt.pull {V Cf R T G : Thing} {U : Nat → Prop} {w : World} (h : (Sep (Sep (Sep V (Sep Cf R)) T) G).at_ U w) : (Sep (Sep Cf G) (Sep T (Sep V R))).at_ U w := by
  have h1 : (Sep (Sep (Sep Cf (Sep V R)) T) G).at_ U w := sepAt.monoL (fun _ h => sepAt.monoL (fun _ h => sepAt.assoc (sepAt.monoL (fun _ h => sepAt.swap h) (sepAt.assoc' h))) h) h
  have h2 : (Sep Cf (Sep (Sep V R) (Sep T G))).at_ U w := sepAt.assoc (sepAt.assoc h1)
  exact sepAt.assoc' (sepAt.monoR (fun _ h => sepAt.assoc (sepAt.monoL (fun _ h => sepAt.swap h) (sepAt.swap h))) h2)
set_option maxRecDepth 100000 in
theorem sepAt.push {V Cf R T G : Thing} {U : Nat → Prop} {w : World} (h : (Sep (Sep Cf G) (Sep T (Sep V R))).at_ U w) : (Sep (Sep (Sep V (Sep Cf R)) T) G).at_ U w := by
  have h1 : (Sep Cf (Sep (Sep V R) (Sep T G))).at_ U w := sepAt.monoR (fun _ h => sepAt.swap (sepAt.monoL (fun _ h => sepAt.swap h) (sepAt.assoc' h))) (sepAt.assoc h)
  have h2 : (Sep (Sep (Sep Cf (Sep V R)) T) G).at_ U w := sepAt.assoc' (sepAt.assoc' h1)
  exact sepAt.monoL (fun _ h => sepAt.monoL (fun _ h => sepAt.assoc (sepAt.monoL (fun _ h => sepAt.swap h) (sepAt.assoc' h))) h) h2
set_option maxRecDepth 100000 in
/-- What Object makes, beside the core. -/
theorem core_object {ll : List Bool} {v : Value} {T : Thing} (hc : c.ok) (hs : c.shapes[0]? = some (false, ll)) (w : World) : Does Tryz.prog 190 #[cfV c A.g A.cap, .int .i64 0, v] w (Sep (Sep (Core A c q) T) (Got v c.F)) (fun u e => e = .returned (.tuple #[u, .int .i64 0])) (fun u => Sep (Sep (Sep (Core A c q) T) (Got v c.F)) (RowG 245 2 u 8 (wc c.F (yl ll) 8))) := by
  have h0 : Does Tryz.prog 190 #[cfV c A.g A.cap, .int .i64 0, v] w (Sep (Conf c A.g A.cap) (Got v c.F)) (fun u e => e = .returned (.tuple #[u, .int .i64 0])) (fun u => Sep (Sep (Conf c A.g A.cap) (Got v c.F)) (RowG 245 2 u 8 (wc c.F (yl ll) 8))) := fun S h => plan_object hc hs h
  exact (h0.lX).conv (fun S w h => sepAt.pull h) fun y e he => ⟨y, he, fun S w h => sepAt.monoL (fun S h => sepAt.push h) h⟩
set_option maxRecDepth 100000 in
theorem act_takes {o : Opn} {ll : List Bool} {v : Value} (hc : c.ok) (hs : c.shapes[0]? = some (false, ll)) (hk : o.kd = 1) (hb : o.b = 0) (h : (Sep (Sep (Core A c q) (Thr b t ov lv x X)) (Got v c.F)).at_ S w) :
    Calls Tryz.prog 119 #[.pointer (some ⟨b, 0, none⟩), .pointer (some ⟨A.b, 0, none⟩), .agg (opc o), .agg #[.int .i64 1, v, .int .i64 (-1)]] w fun e w' => ∃ u, e = .returned (.bool true) ∧ Goes (Sep (Sep (Sep (Core A c q) (Thr b t ov lv { x with wr := u, got := v, ph := 2, at_ := 7 } X)) (Got v c.F)) (Seq 2 u 8 (wc c.F (yl ll) 8))) S w w' := by
  obtain ⟨gs, go, cp, rfl, h1, h2⟩ := seq_form (Goes.begin h).r.is
  obtain ⟨kd, a, bb, cc, nn, zz1, zz2⟩ := o
  simp only at hk hb
  subst hk hb
  generalize ho : (⟨1, a, 0, cc, nn, zz1, zz2⟩ : Opn) = o
  have hoc : opc o = #[.int .i64 1, .int .i64 (o.a : Int), .int .i64 0, .int .i64 (o.c : Int), .int .i64 (o.n : Int), .complex .f64 o.z1 o.z2] := by rw [← ho]; rfl
  rw [hoc]
  have g0 := ((Goes.begin h).moreSt (St.fresh #[.int .i64 1, .int .i64 (o.a : Int), .int .i64 0, .int .i64 (o.c : Int), .int .i64 (o.n : Int), .complex .f64 o.z1 o.z2] 26)).moreSt (St.fresh #[.int .i64 1, .slice (some ⟨gs, go, none⟩) 1 cp, .int .i64 (-1)] 186)
  rw [World.size_alloc] at g0
  obtain ⟨vb, hvb⟩ : ∃ k, w.heap.size = k := ⟨_, rfl⟩
  obtain ⟨gb, hgb⟩ : ∃ k, vb + 1 = k := ⟨_, rfl⟩
  rw [hvb, hgb] at g0
  have v0 := g0.l.r.vc 0 (v := .int .i64 1) rfl
  have g1 := g0.drew_
  have HL := Lib.hid ((core_object (A := A) (q := q) (T := Thr b t ov lv x X) (v := .slice (some ⟨gs, go, none⟩) 1 cp) hc hs _).lX.lX.on g1)
  unfold cfV at HL
  clear h g0 hoc ho hc hs
  go_enter Tryz.func119, Tryz.ntmps119
  go_upto_region 1 with fail
  generalize (w.alloc _).alloc _ = w1 at *
  go_wp2_with fail
  refine wp_region_held_drew (S := (fun w' => w'.cell? ⟨A.b, 0, none⟩ = some (.int .i64 c.frags) ∧ w'.cell? ⟨A.b, 1, none⟩ = some (.int .i64 c.spine) ∧ w'.cell? ⟨A.b, 2, none⟩ = some (.int .i64 c.globals) ∧ w'.cell? ⟨A.b, 3, none⟩ = some (.int .i64 c.threads) ∧ w'.cell? ⟨A.b, 4, none⟩ = some (.int .i64 c.locals) ∧ w'.cell? ⟨A.b, 5, none⟩ = some (.int .i64 0) ∧ w'.cell? ⟨A.b, 6, none⟩ = some (.int .i64 c.stack) ∧ w'.cell? ⟨A.b, 7, none⟩ = some (.int .i64 c.low) ∧ w'.cell? ⟨A.b, 8, none⟩ = some (.slice (some ⟨A.g, 0, none⟩) c.shapes.length A.cap) ∧ w'.cell? ⟨vb, 2, none⟩ = some (.int .i64 0) ∧ w'.cell? ⟨gb, 1, none⟩ = some (.slice (some ⟨gs, go, none⟩) 1 cp))) (by kernel_rfl) ⟨g1.l.l.l.l.c 0 rfl, g1.l.l.l.l.c 1 rfl, g1.l.l.l.l.c 2 rfl, g1.l.l.l.l.c 3 rfl, g1.l.l.l.l.c 4 rfl, g1.l.l.l.l.c 5 rfl, g1.l.l.l.l.c 6 rfl, g1.l.l.l.l.c 7 rfl, g1.l.l.l.l.c 8 rfl, g1.l.r.vc 2 (v := .int .i64 0) rfl, g1.r.vc 1 (v := .slice (some ⟨gs, go, none⟩) 1 cp) rfl⟩ (fun hHeld => ?_)
  generalize w1.drew = wd at *
  refine wpAnyH_take (i := 0) (oi := _) (v := ?_) rfl (by kernel_rfl) (by kernel_rfl) (by kernel_rfl) (fun _ _ _ h => h) (Or.inl ⟨by rfl, ?_⟩) (by assumption) ?_
  rotate_left
  · intro w hSw
    (try dsimp only at hSw)
    go_simp
    with_reducible rfl
  try simp only [Act.put, List.setIfInBounds_toArray, List.set_cons_zero, List.set_cons_succ]
  refine wpAnyH_take (i := 1) (oi := _) (v := ?_) rfl (by kernel_rfl) (by kernel_rfl) (by kernel_rfl) (fun _ _ _ h => h) (Or.inl ⟨by rfl, ?_⟩) (by assumption) ?_
  rotate_left
  · intro w hSw
    (try dsimp only at hSw)
    go_simp
    with_reducible rfl
  try simp only [Act.put, List.setIfInBounds_toArray, List.set_cons_zero, List.set_cons_succ]
  refine wpAnyH_take (i := 2) (oi := _) (v := ?_) rfl (by kernel_rfl) (by kernel_rfl) (by kernel_rfl) (fun _ _ _ h => h) (Or.inl ⟨by rfl, ?_⟩) (by assumption) ?_
  rotate_left
  · intro w hSw
    (try dsimp only at hSw)
    go_simp
    with_reducible rfl
  try simp only [Act.put, List.setIfInBounds_toArray, List.set_cons_zero, List.set_cons_succ]
  refine wpAnyH_take (i := 3) (oi := _) (v := ?_) rfl (by kernel_rfl) (by kernel_rfl) (by kernel_rfl) (fun _ _ _ h => h) (Or.inl ⟨by rfl, ?_⟩) (by assumption) ?_
  rotate_left
  · intro w hSw
    (try dsimp only at hSw)
    go_simp
    with_reducible rfl
  try simp only [Act.put, List.setIfInBounds_toArray, List.set_cons_zero, List.set_cons_succ]
  refine wpAnyH_take (i := 4) (oi := _) (v := ?_) rfl (by kernel_rfl) (by kernel_rfl) (by kernel_rfl) (fun _ _ _ h => h) (Or.inl ⟨by rfl, ?_⟩) (by assumption) ?_
  rotate_left
  · intro w hSw
    (try dsimp only at hSw)
    go_simp
    with_reducible rfl
  try simp only [Act.put, List.setIfInBounds_toArray, List.set_cons_zero, List.set_cons_succ]
  refine wpAnyH_take (i := 5) (oi := _) (v := ?_) rfl (by kernel_rfl) (by kernel_rfl) (by kernel_rfl) (fun _ _ _ h => h) (Or.inl ⟨by rfl, ?_⟩) (by assumption) ?_
  rotate_left
  · intro w hSw
    (try dsimp only at hSw)
    go_simp
    with_reducible rfl
  try simp only [Act.put, List.setIfInBounds_toArray, List.set_cons_zero, List.set_cons_succ]
  refine wpAnyH_take (i := 6) (oi := _) (v := ?_) rfl (by kernel_rfl) (by kernel_rfl) (by kernel_rfl) (fun _ _ _ h => h) (Or.inl ⟨by rfl, ?_⟩) (by assumption) ?_
  rotate_left
  · intro w hSw
    (try dsimp only at hSw)
    go_simp
    with_reducible rfl
  try simp only [Act.put, List.setIfInBounds_toArray, List.set_cons_zero, List.set_cons_succ]
  refine wpAnyH_take (i := 7) (oi := _) (v := ?_) rfl (by kernel_rfl) (by kernel_rfl) (by kernel_rfl) (fun _ _ _ h => h) (Or.inl ⟨by rfl, ?_⟩) (by assumption) ?_
  rotate_left
  · intro w hSw
    (try dsimp only at hSw)
    go_simp
    with_reducible rfl
  try simp only [Act.put, List.setIfInBounds_toArray, List.set_cons_zero, List.set_cons_succ]
  refine wpAnyH_take (i := 8) (oi := _) (v := ?_) rfl (by kernel_rfl) (by kernel_rfl) (by kernel_rfl) (fun _ _ _ h => h) (Or.inl ⟨by rfl, ?_⟩) (by assumption) ?_
  rotate_left
  · intro w hSw
    (try dsimp only at hSw)
    go_simp
    with_reducible rfl
  try simp only [Act.put, List.setIfInBounds_toArray, List.set_cons_zero, List.set_cons_succ]
  refine wpAnyH_ready (rs := [9]) (by kernel_rfl) (by simp) ?_
  refine AllReadyH.cons (o := _) rfl (fun K hK => ?_) AllReadyH.nil
  go_simp
  with_reducible refine HL.out.mono ?_
  rintro e w3 ⟨u, rfl, hgx⟩
  obtain ⟨_, hrow⟩ := hgx.r.is.1
  rcases hrow with ⟨_, hbad⟩ | ⟨ug, uc, ucur, rfl, _, _, huc1, huc2, _⟩
  · simp at hbad
  have hg0 : Goes (Sep (Sep (Sep (Sep (Sep (Core A c q) (Thr b t ov lv x X)) (Got (.slice (some ⟨gs, go, none⟩) 1 cp) c.F)) (Var vb #[.int .i64 1, .int .i64 (o.a : Int), .int .i64 0, .int .i64 (o.c : Int), .int .i64 (o.n : Int), .complex .f64 o.z1 o.z2] 26)) (Var gb #[.int .i64 1, .slice (some ⟨gs, go, none⟩) 1 cp, .int .i64 (-1)] 186)) (RowG 245 2 (.slice (some ⟨ug, 0, none⟩) 8 uc) 8 (wc c.F (yl ll) 8))) S w w3 := hgx
  clear HL hHeld hgx g1
  go_wp2_with fail
  refine hK.out _ _ ⟨hg0.l.l.l.l.l.c 0 rfl, hg0.l.l.l.l.l.c 1 rfl, hg0.l.l.l.l.l.c 2 rfl, hg0.l.l.l.l.l.c 3 rfl, hg0.l.l.l.l.l.c 4 rfl, hg0.l.l.l.l.l.c 5 rfl, hg0.l.l.l.l.l.c 6 rfl, hg0.l.l.l.l.l.c 7 rfl, hg0.l.l.l.l.l.c 8 rfl, hg0.l.l.r.vc 2 (v := .int .i64 0) rfl, hg0.l.r.vc 1 (v := .slice (some ⟨gs, go, none⟩) 1 cp) rfl⟩ (fun hHeld => ?_)
  clear hK K
  try simp only [Act.put, List.setIfInBounds_toArray, List.set_cons_zero, List.set_cons_succ]
  refine wpAnyH_take (i := 10) (oi := _) (v := ?_) rfl (by kernel_rfl) (by kernel_rfl) (by kernel_rfl) (fun _ _ _ h => h) (Or.inl ⟨by rfl, ?_⟩) (by assumption) ?_
  rotate_left
  · intro w hSw
    (try dsimp only at hSw)
    go_simp
    with_reducible rfl
  try simp only [Act.put, List.setIfInBounds_toArray, List.set_cons_zero, List.set_cons_succ]
  refine wpAnyH_take (i := 11) (oi := _) (v := ?_) rfl (by kernel_rfl) (by kernel_rfl) (by kernel_rfl) (fun _ _ _ h => h) (Or.inl ⟨by rfl, ?_⟩) (by assumption) ?_
  rotate_left
  · intro w hSw
    (try dsimp only at hSw)
    go_simp
    with_reducible rfl
  try simp only [Act.put, List.setIfInBounds_toArray, List.set_cons_zero, List.set_cons_succ]
  refine wpAnyH_take (i := 12) (oi := _) (v := ?_) rfl (by kernel_rfl) (by kernel_rfl) (by kernel_rfl) (fun _ _ _ h => h) (Or.inl ⟨by rfl, ?_⟩) (by assumption) ?_
  rotate_left
  · intro w hSw
    (try dsimp only at hSw)
    go_simp
    with_reducible rfl
  try simp only [Act.put, List.setIfInBounds_toArray, List.set_cons_zero, List.set_cons_succ]
  refine wpAnyH_take (i := 13) (oi := _) (v := ?_) rfl (by kernel_rfl) (by kernel_rfl) (by kernel_rfl) (fun _ _ _ h => h) (Or.inl ⟨by rfl, ?_⟩) (by assumption) ?_
  rotate_left
  · intro w hSw
    (try dsimp only at hSw)
    go_simp
    with_reducible rfl
  try simp only [Act.put, List.setIfInBounds_toArray, List.set_cons_zero, List.set_cons_succ]
  refine wpAnyH_take (i := 14) (oi := _) (v := ?_) rfl (by kernel_rfl) (by kernel_rfl) (by kernel_rfl) (fun _ _ _ h => h) (Or.inl ⟨by rfl, ?_⟩) (by assumption) ?_
  rotate_left
  · intro w hSw
    (try dsimp only at hSw)
    go_simp
    with_reducible rfl
  try simp only [Act.put, List.setIfInBounds_toArray, List.set_cons_zero, List.set_cons_succ]
  refine wpAnyH_take (i := 15) (oi := _) (v := ?_) rfl (by kernel_rfl) (by kernel_rfl) (by kernel_rfl) (fun _ _ _ h => h) (Or.inl ⟨by rfl, ?_⟩) (by assumption) ?_
  rotate_left
  · intro w hSw
    (try dsimp only at hSw)
    go_simp
    with_reducible rfl
  try simp only [Act.put, List.setIfInBounds_toArray, List.set_cons_zero, List.set_cons_succ]
  have d18 := hg0.l.l.l.l.r.c 18 (v := x.wr) rfl
  have f18 := hg0.l.l.l.l.r.fr 18
  have hg1 : Goes (Sep (Sep (Sep (Sep (Sep (Core A c q) (Thr b t ov lv { x with wr := .slice (some ⟨ug, 0, none⟩) 8 uc } X)) (Got (.slice (some ⟨gs, go, none⟩) 1 cp) c.F)) (Var vb #[.int .i64 1, .int .i64 (o.a : Int), .int .i64 0, .int .i64 (o.c : Int), .int .i64 (o.n : Int), .complex .f64 o.z1 o.z2] 26)) (Var gb #[.int .i64 1, .slice (some ⟨gs, go, none⟩) 1 cp, .int .i64 (-1)] 186)) (RowG 245 2 (.slice (some ⟨ug, 0, none⟩) 8 uc) 8 (wc c.F (yl ll) 8))) S w _ := hg0.then fun S h => goesL (fun S h => goesL (fun S h => goesL (fun S h => goesL (fun S h => goesR (B' := Thr b t ov lv { x with wr := .slice (some ⟨ug, 0, none⟩) 8 uc } X) (fun S h => (Goes.begin h).put 18 (.slice (some ⟨ug, 0, none⟩) 8 uc) (cs' := thCells t ov lv { x with wr := .slice (some ⟨ug, 0, none⟩) 8 uc }) rfl) S h) S h) S h) S h) S h
  refine wpAnyH_ready (rs := [16]) (by kernel_rfl) (by simp) ?_
  refine AllReadyH.cons (o := _) rfl (fun K hK => ?_) AllReadyH.nil
  go_simp
  refine hK.out _ _ ⟨hg1.l.l.l.l.l.c 0 rfl, hg1.l.l.l.l.l.c 1 rfl, hg1.l.l.l.l.l.c 2 rfl, hg1.l.l.l.l.l.c 3 rfl, hg1.l.l.l.l.l.c 4 rfl, hg1.l.l.l.l.l.c 5 rfl, hg1.l.l.l.l.l.c 6 rfl, hg1.l.l.l.l.l.c 7 rfl, hg1.l.l.l.l.l.c 8 rfl, hg1.l.l.r.vc 2 (v := .int .i64 0) rfl, hg1.l.r.vc 1 (v := .slice (some ⟨gs, go, none⟩) 1 cp) rfl⟩ (fun hHeld => ?_)
  clear hK K hg0 d18 f18 hHeld
  generalize World.setCell _ _ _ = w4 at *
  try simp only [Act.put, List.setIfInBounds_toArray, List.set_cons_zero, List.set_cons_succ]
  refine wpAnyH_ready (rs := [17]) (by kernel_rfl) (by simp) ?_
  refine AllReadyH.cons (o := _) rfl (fun K hK => ?_) AllReadyH.nil
  go_simp
  refine hK.out _ _ ⟨hg1.l.l.l.l.l.c 0 rfl, hg1.l.l.l.l.l.c 1 rfl, hg1.l.l.l.l.l.c 2 rfl, hg1.l.l.l.l.l.c 3 rfl, hg1.l.l.l.l.l.c 4 rfl, hg1.l.l.l.l.l.c 5 rfl, hg1.l.l.l.l.l.c 6 rfl, hg1.l.l.l.l.l.c 7 rfl, hg1.l.l.l.l.l.c 8 rfl, hg1.l.l.r.vc 2 (v := .int .i64 0) rfl, hg1.l.r.vc 1 (v := .slice (some ⟨gs, go, none⟩) 1 cp) rfl⟩ (fun hHeld => ?_)
  clear hK K
  try simp only [Act.put, List.setIfInBounds_toArray, List.set_cons_zero, List.set_cons_succ]
  refine wpAnyH_done (by kernel_rfl) ?_ _
  have e1 := hg1.l.r.vc 1 (v := .slice (some ⟨gs, go, none⟩) 1 cp) rfl
  have d17 := hg1.l.l.l.l.r.c 17 (v := x.got) rfl
  have f17 := hg1.l.l.l.l.r.fr 17
  have hg2 : Goes (Sep (Sep (Sep (Sep (Sep (Core A c q) (Thr b t ov lv { x with wr := .slice (some ⟨ug, 0, none⟩) 8 uc, got := .slice (some ⟨gs, go, none⟩) 1 cp } X)) (Got (.slice (some ⟨gs, go, none⟩) 1 cp) c.F)) (Var vb #[.int .i64 1, .int .i64 (o.a : Int), .int .i64 0, .int .i64 (o.c : Int), .int .i64 (o.n : Int), .complex .f64 o.z1 o.z2] 26)) (Var gb #[.int .i64 1, .slice (some ⟨gs, go, none⟩) 1 cp, .int .i64 (-1)] 186)) (RowG 245 2 (.slice (some ⟨ug, 0, none⟩) 8 uc) 8 (wc c.F (yl ll) 8))) S w _ := hg1.then fun S h => goesL (fun S h => goesL (fun S h => goesL (fun S h => goesL (fun S h => goesR (B' := Thr b t ov lv { x with wr := .slice (some ⟨ug, 0, none⟩) 8 uc, got := .slice (some ⟨gs, go, none⟩) 1 cp } X) (fun S h => (Goes.begin h).put 17 (.slice (some ⟨gs, go, none⟩) 1 cp) (cs' := thCells t ov lv { x with wr := .slice (some ⟨ug, 0, none⟩) 8 uc, got := .slice (some ⟨gs, go, none⟩) 1 cp }) rfl) S h) S h) S h) S h) S h
  have d3 := hg2.l.l.l.l.r.c 3 (v := .int .i64 x.ph) rfl
  have f3 := hg2.l.l.l.l.r.fr 3
  have hg3 : Goes (Sep (Sep (Sep (Sep (Sep (Core A c q) (Thr b t ov lv { x with wr := .slice (some ⟨ug, 0, none⟩) 8 uc, got := .slice (some ⟨gs, go, none⟩) 1 cp, ph := 2 } X)) (Got (.slice (some ⟨gs, go, none⟩) 1 cp) c.F)) (Var vb #[.int .i64 1, .int .i64 (o.a : Int), .int .i64 0, .int .i64 (o.c : Int), .int .i64 (o.n : Int), .complex .f64 o.z1 o.z2] 26)) (Var gb #[.int .i64 1, .slice (some ⟨gs, go, none⟩) 1 cp, .int .i64 (-1)] 186)) (RowG 245 2 (.slice (some ⟨ug, 0, none⟩) 8 uc) 8 (wc c.F (yl ll) 8))) S w _ := hg2.then fun S h => goesL (fun S h => goesL (fun S h => goesL (fun S h => goesL (fun S h => goesR (B' := Thr b t ov lv { x with wr := .slice (some ⟨ug, 0, none⟩) 8 uc, got := .slice (some ⟨gs, go, none⟩) 1 cp, ph := 2 } X) (fun S h => (Goes.begin h).put 3 (.int .i64 2) (cs' := thCells t ov lv { x with wr := .slice (some ⟨ug, 0, none⟩) 8 uc, got := .slice (some ⟨gs, go, none⟩) 1 cp, ph := 2 }) rfl) S h) S h) S h) S h) S h
  have d11 := hg3.l.l.l.l.r.c 11 (v := .int .i64 x.at_) rfl
  have f11 := hg3.l.l.l.l.r.fr 11
  have hg4 : Goes (Sep (Sep (Sep (Sep (Sep (Core A c q) (Thr b t ov lv { x with wr := .slice (some ⟨ug, 0, none⟩) 8 uc, got := .slice (some ⟨gs, go, none⟩) 1 cp, ph := 2, at_ := 7 } X)) (Got (.slice (some ⟨gs, go, none⟩) 1 cp) c.F)) (Var vb #[.int .i64 1, .int .i64 (o.a : Int), .int .i64 0, .int .i64 (o.c : Int), .int .i64 (o.n : Int), .complex .f64 o.z1 o.z2] 26)) (Var gb #[.int .i64 1, .slice (some ⟨gs, go, none⟩) 1 cp, .int .i64 (-1)] 186)) (RowG 245 2 (.slice (some ⟨ug, 0, none⟩) 8 uc) 8 (wc c.F (yl ll) 8))) S w _ := hg3.then fun S h => goesL (fun S h => goesL (fun S h => goesL (fun S h => goesL (fun S h => goesR (B' := Thr b t ov lv { x with wr := .slice (some ⟨ug, 0, none⟩) 8 uc, got := .slice (some ⟨gs, go, none⟩) 1 cp, ph := 2, at_ := 7 } X) (fun S h => (Goes.begin h).put 11 (.int .i64 7) (cs' := thCells t ov lv { x with wr := .slice (some ⟨ug, 0, none⟩) 8 uc, got := .slice (some ⟨gs, go, none⟩) 1 cp, ph := 2, at_ := 7 }) rfl) S h) S h) S h) S h) S h
  have hgf := (hg4.drop (Part.both (Part.trans (Part.left _ _) (Part.left _ _)) (Part.refl _))).conv fun S w h => sepAt.monoR (fun S h => seq_of_row h (by decide)) h
  have HF := Lib.hid hgf
  clear hg1 hg2 hg3 hg4 hgf
  go_wp2_with fail
  go_ret
  exact ⟨_, rfl, HF.out⟩
end
end Go.Proofs.YtnkgnhpapcnebaaGreat
/- The contracts of package op: words, field. -/
namespace Go.Proofs.YtnkgnhpapcnebaaGreat
open Go.RowKit
attribute [local go_sem] run_store_complex via_ret via_normal via_exit via_panic
set_option maxRecDepth 100000 in
theorem op_words1 (w : World) : Calls Tryz.prog 227 #[.int .i64 1] w fun e w' => e = .returned (.tuple #[.string ⟨#[110, 101, 119]⟩, .string ⟨#[97, 107]⟩]) ∧ Below w.heap.size w w' := by
  go_enter Tryz.func227, Tryz.ntmps227
  go_wp2_with fail
  go_quiet (fail)
  go_wp2_with fail
  go_ret2
  exact ⟨rfl, below_drewN ((Below.refl _ _).alloc (Nat.le_refl _) _) _⟩
set_option maxRecDepth 100000 in
theorem op_words3 (w : World) : Calls Tryz.prog 227 #[.int .i64 3] w fun e w' => e = .returned (.tuple #[.string ⟨#[108, 111, 97, 100]⟩, .string ⟨#[97, 98, 110]⟩]) ∧ Below w.heap.size w w' := by
  go_enter Tryz.func227, Tryz.ntmps227
  go_wp2_with fail
  go_quiet (fail)
  go_wp2_with fail
  go_ret2
  exact ⟨rfl, below_drewN ((Below.refl _ _).alloc (Nat.le_refl _) _) _⟩
set_option maxRecDepth 100000 in
theorem op_words4 (w : World) : Calls Tryz.prog 227 #[.int .i64 4] w fun e w' => e = .returned (.tuple #[.string ⟨#[115, 116, 111, 114, 101]⟩, .string ⟨#[97, 110, 98]⟩]) ∧ Below w.heap.size w w' := by
  go_enter Tryz.func227, Tryz.ntmps227
  go_wp2_with fail
  go_quiet (fail)
  go_wp2_with fail
  go_ret2
  exact ⟨rfl, below_drewN ((Below.refl _ _).alloc (Nat.le_refl _) _) _⟩
set_option maxRecDepth 100000 in
theorem op_words7 (w : World) : Calls Tryz.prog 227 #[.int .i64 7] w fun e w' => e = .returned (.tuple #[.string ⟨#[108, 111, 111, 107]⟩, .string ⟨#[97, 103]⟩]) ∧ Below w.heap.size w w' := by
  go_enter Tryz.func227, Tryz.ntmps227
  go_wp2_with fail
  go_quiet (fail)
  go_wp2_with fail
  go_ret2
  exact ⟨rfl, below_drewN ((Below.refl _ _).alloc (Nat.le_refl _) _) _⟩
set_option maxRecDepth 100000 in
theorem op_words8 (w : World) : Calls Tryz.prog 227 #[.int .i64 8] w fun e w' => e = .returned (.tuple #[.string ⟨#[115, 101, 116]⟩, .string ⟨#[103, 98]⟩]) ∧ Below w.heap.size w w' := by
  go_enter Tryz.func227, Tryz.ntmps227
  go_wp2_with fail
  go_quiet (fail)
  go_wp2_with fail
  go_ret2
  exact ⟨rfl, below_drewN ((Below.refl _ _).alloc (Nat.le_refl _) _) _⟩
set_option maxRecDepth 100000 in
theorem op_words11 (w : World) : Calls Tryz.prog 227 #[.int .i64 11] w fun e w' => e = .returned (.tuple #[.string ⟨#[107, 105, 110, 100]⟩, .string ⟨#[97, 98]⟩]) ∧ Below w.heap.size w w' := by
  go_enter Tryz.func227, Tryz.ntmps227
  go_wp2_with fail
  go_quiet (fail)
  go_wp2_with fail
  go_ret2
  exact ⟨rfl, below_drewN ((Below.refl _ _).alloc (Nat.le_refl _) _) _⟩
set_option maxRecDepth 100000 in
theorem op_words12 (w : World) : Calls Tryz.prog 227 #[.int .i64 12] w fun e w' => e = .returned (.tuple #[.string ⟨#[110, 117, 109, 98, 101, 114]⟩, .string ⟨#[97, 122]⟩]) ∧ Below w.heap.size w w' := by
  go_enter Tryz.func227, Tryz.ntmps227
  go_wp2_with fail
  go_quiet (fail)
  go_wp2_with fail
  go_ret2
  exact ⟨rfl, below_drewN ((Below.refl _ _).alloc (Nat.le_refl _) _) _⟩
set_option maxRecDepth 100000 in
theorem op_words13 (w : World) : Calls Tryz.prog 227 #[.int .i64 13] w fun e w' => e = .returned (.tuple #[.string ⟨#[99, 108, 101, 97, 114]⟩, .string ⟨#[97]⟩]) ∧ Below w.heap.size w w' := by
  go_enter Tryz.func227, Tryz.ntmps227
  go_wp2_with fail
  go_quiet (fail)
  go_wp2_with fail
  go_ret2
  exact ⟨rfl, below_drewN ((Below.refl _ _).alloc (Nat.le_refl _) _) _⟩
set_option maxRecDepth 100000 in
theorem op_field_a (ob : Nat) (w : World) : Calls Tryz.prog 228 #[.pointer (some ⟨ob, 0, none⟩), .int .i32 97] w fun e w' => e = .returned (.pointer (some ⟨ob, 1, none⟩)) ∧ w = w' := by
  go_enter Tryz.func228, Tryz.ntmps228
  go_wp2_with fail
  go_ret
  exact ⟨rfl, rfl⟩
set_option maxRecDepth 100000 in
theorem op_field_b (ob : Nat) (w : World) : Calls Tryz.prog 228 #[.pointer (some ⟨ob, 0, none⟩), .int .i32 98] w fun e w' => e = .returned (.pointer (some ⟨ob, 2, none⟩)) ∧ w = w' := by
  go_enter Tryz.func228, Tryz.ntmps228
  go_wp2_with fail
  go_ret
  exact ⟨rfl, rfl⟩
set_option maxRecDepth 100000 in
theorem op_field_g (ob : Nat) (w : World) : Calls Tryz.prog 228 #[.pointer (some ⟨ob, 0, none⟩), .int .i32 103] w fun e w' => e = .returned (.pointer (some ⟨ob, 4, none⟩)) ∧ w = w' := by
  go_enter Tryz.func228, Tryz.ntmps228
  go_wp2_with fail
  go_ret
  exact ⟨rfl, rfl⟩
end Go.Proofs.YtnkgnhpapcnebaaGreat
