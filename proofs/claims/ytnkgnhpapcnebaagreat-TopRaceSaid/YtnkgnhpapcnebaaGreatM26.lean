/- Makers: the heap, with its threads. -/
import Derived.Test.YtnkgnhpapcnebaaGreatM25
set_option linter.unusedVariables false
set_option linter.unusedSimpArgs false
set_option maxHeartbeats 8000000
namespace Go.Proofs.YtnkgnhpapcnebaaGreat
open Go.RowKit
attribute [local go_sem] run_store_complex via_ret via_normal via_exit via_panic
set_option maxRecDepth 100000 in
theorem ready_append {P : Program} {ops : Array Oper} {w w' : World} {o : Oper} {a : Act} {K : Act → World → Prop} {Q : Exit → Act → World → Prop} (s x : Operand) (t : TypeId)
    (ho : o.op = .call { callee := .builtin .append, args := #[s, x], argTypes := #[t, t] }) (hw : Region.wanted o (yielded ops a.tmps) = true) (v u : Value) {v' : Value} (hs : a.eval s = v) (hx : a.eval x = u)
    (hr : (Builtin.append_ #[t, t] o.type #[v, u]).run P w = .ok v' w') (h : K (a.put o.dst v') w') : if Region.wanted o (yielded ops a.tmps) = true then Oper.wp P o a w K Q else K (a.put o.dst undef) w := by
  rw [if_pos hw]
  unfold Oper.wp execOp
  simp only [ho, resolve, invoke, builtin, Sem.run_bind, Sem.run_pure, Result.andThen_ok, List.map_toArray, List.map_cons, List.map_nil, hs, hx, hr]
  exact h
section
variable {S : Nat → Prop} {w w' : World} {c : Cf} {g cap : Nat} {O : Thing}
/-- What the operations' slices are. -/
structure OpsIn (O : Thing) (gb go n : Nat) (vs : Nat → Value) (no : Nat → Nat) (sc : Nat → Nat → Opn) : Prop where
  cell : ∀ S w, O.at_ S w → ∀ t, t < n → w.cell? ⟨gb, go + t, none⟩ = some (vs t)
  seq : ∀ S w, O.at_ S w → ∀ t, t < n → ∃ S', (Seq 6 (vs t) (no t) (opL (sc t) (no t))).at_ S' w
  len : ∀ t, t < n → 1 ≤ no t ∧ no t ≤ 1000
set_option maxRecDepth 100000 in
theorem Goes.callx4 {P : Program} {f : FuncId} {args : Array Value} {O : Thing} {w1 : World} {v : Nat → Value} {T : Nat → Nat → Nat → Nat → Thing} (h : Goes O S w w1) (hc : ∀ S', O.at_ S' w1 → Calls P f args w1 fun e w2 => ∃ b og oc lg, e = .returned (v b) ∧ Goes (Sep O (T b og oc lg)) S' w1 w2) :
    Calls P f args w1 fun e w2 => ∃ b og oc lg, e = .returned (v b) ∧ Goes (Sep O (T b og oc lg)) S w w2 := by
  have := h.callx (O' := fun x : Nat × Nat × Nat × Nat => Sep O (T x.1 x.2.1 x.2.2.1 x.2.2.2)) (R := fun x e => e = .returned (v x.1)) fun S' h' => (hc S' h').mono fun e w2 ⟨b, og, oc, lg, he, hg⟩ => ⟨(b, og, oc, lg), he, hg⟩
  exact this.mono fun e w2 ⟨x, he, hg⟩ => ⟨x.1, x.2.1, x.2.2.1, x.2.2.2, he, hg⟩
set_option maxRecDepth 100000 in
theorem heap_new {gb go n capn : Nat} {vs : Nat → Value} {no : Nat → Nat} {sc : Nat → Nat → Opn} (hc : c.ok) (hcf : ∀ S w, O.at_ S w → ∃ S', (Conf c g cap).at_ S' w) (hI : OpsIn O gb go n vs no sc) (hn : n = c.threads) (h : O.at_ S w) :
    Calls Tryz.prog 5 #[cfV c g cap, .slice (some ⟨gb, go, none⟩) n capn] w fun e w' => ∃ (A : CA) (yb hb : Nat) (sv : Value) (fa : Nat → TA), e = .returned (.tuple #[.pointer (some ⟨hb, 0, none⟩), .int .i64 0]) ∧ Goes (Sep O (Hp A c q0 yb y0 Emp hb sv n fa no sc 0 fun _ => p0)) S w w' := by
  obtain ⟨i0, hi, hz0, hz1, hz2⟩ := info_parts Tryz.info65
  have g0 := (Goes.begin h).moreSt (St.fresh (cfCells c (.slice (some ⟨g, 0, none⟩) c.shapes.length cap)) 36)
  obtain ⟨cb, hcb⟩ : ∃ k, w.heap.size = k := ⟨_, rfl⟩
  rw [hcb] at g0
  have cf9 : ∀ (O' : Thing) (w1 : World), Goes (Sep O' (Var cb (cfCells c (.slice (some ⟨g, 0, none⟩) c.shapes.length cap)) 36)) S w w1 → w1.cell? ⟨cb, 0, none⟩ = some (.int .i64 c.frags) ∧ w1.cell? ⟨cb, 1, none⟩ = some (.int .i64 c.spine) ∧ w1.cell? ⟨cb, 2, none⟩ = some (.int .i64 c.globals) ∧ w1.cell? ⟨cb, 3, none⟩ = some (.int .i64 c.threads) ∧
    w1.cell? ⟨cb, 4, none⟩ = some (.int .i64 c.locals) ∧ w1.cell? ⟨cb, 5, none⟩ = some (.int .i64 0) ∧ w1.cell? ⟨cb, 6, none⟩ = some (.int .i64 c.stack) ∧ w1.cell? ⟨cb, 7, none⟩ = some (.int .i64 c.low) ∧ w1.cell? ⟨cb, 8, none⟩ = some (.slice (some ⟨g, 0, none⟩) c.shapes.length cap) := fun _ _ h => ⟨h.r.vc 0 rfl, h.r.vc 1 rfl, h.r.vc 2 rfl, h.r.vc 3 rfl, h.r.vc 4 rfl, h.r.vc 5 rfl, h.r.vc 6 rfl, h.r.vc 7 rfl, h.r.vc 8 rfl⟩
  have C9 := Lib.hid cf9
  have HCO := Lib.hid fun w1 X (gg : Goes (Sep O X) S w w1) => gg.callx (fun S h => core_new (O := Sep O X) hc (fun S w h => let ⟨S1, a, _⟩ := sepAt.l h; hcf S1 w a) h)
  have HI := Lib.hid hI
  have hth := hc.threads
  have hlc := hc.locals
  unfold cfV at *
  simp only [cfCells] at *
  clear h hcf cf9 hc hI
  go_enter Tryz.func5, Tryz.ntmps5
  go_upto_region 1 with fail
  generalize w.alloc _ = w1 at *
  obtain ⟨c0, c1, c2, c3, c4, c5, c6, c7, c8⟩ := C9.out _ _ g0
  have HCA := Lib.hid (HCO.out _ _ g0)
  clear HCO g0
  go_wp2_with fail
  with_reducible refine HCA.out.mono ?_
  rintro e w2 ⟨A, rfl, hg⟩
  clear HCA c0 c1 c2 c3 c4 c5 c6 c7 c8
  have c3 := hg.l.r.vc 3 (v := .int .i64 c.threads) rfl
  have hnt : decide ((n : Int) > (c.threads : Int)) = false := by subst hn; simp
  go_wp2_with fail
  with_reducible refine (cycle_new _).mono ?_
  rintro e w3 ⟨yb, rfl, hs⟩
  have g4 := (hg.moreSt hs).moreSt (St.fresh (hpCells A.b yb (.slice none 0 0) 0) 53)
  clear hg hs c3
  have g5 : Goes (HpN O c g cap cb A yb w3.heap.size (.slice none 0 0) 0 (fun _ => ⟨0, 0, 0, 0, 0⟩) no sc) S w _ := (row_empty g4).conv fun _ _ h => emp_more h
  have HG := Lib.hid g5
  simp only [hpCells] at HG
  clear g4 g5 hnt
  go_upto_region 7 with fail
  generalize w3.heap.size = hb at *
  generalize w3.alloc _ = w4 at *
  go_wp2_with fail
  go_loopw [9, 10, 31] (fun _ _ i wr => ∃ (j : Nat) (sv : Value) (fa : Nat → TA), j ≤ n ∧ i = .int .i64 j ∧ Goes (HpN O c g cap cb A yb hb sv j fa no sc) S w wr) (fun _ _ i _ => n - (intOf i).toNat)
  case atStart => exact ⟨0, _, _, Nat.zero_le _, rfl, HG.out⟩
  case round =>
    clear HG
    obtain ⟨j, sv, fa, hj, rfl, hg⟩ := hrel
    by_cases hlt : j < n
    · obtain ⟨hl1, hl2⟩ := HI.out.len j hlt
      have gO := hg.l.l.l.l.l.l
      have e1 := HI.out.cell _ _ gO.is j hlt
      obtain ⟨S9, hseq⟩ := HI.out.seq _ _ gO.is j hlt
      obtain ⟨vg, vo, vc, hv, _, _⟩ := seq_form hseq
      have HV := Lib.hid hv
      rw [hv] at e1
      have HJ := Lib.hid (show j ≤ 16 by omega)
      have HG := Lib.hid hg
      clear hg hseq gO hj hv
      have hno : ((no j : Nat) : Int) ≤ 1000 := by omega
      have hlti : (j : Int) < (n : Int) := by omega
      go_wp2_with fail
      have g7 := HG.out.drew_
      obtain ⟨sa, scap, hsv, _, _⟩ := slice_of_owns HG.out.l.r.is.1
      have HSV := Lib.hid hsv
      have HNW := Lib.hid fun w1 (gg : Goes (HpN O c g cap cb A yb hb sv j fa no sc) S w w1) => gg.callx4 (fun S h => act_new (O := HpN O c g cap cb A yb hb sv j fa no sc) (t := j) (n := c.locals) (v := vs j) hlc.1 hlc.2 hl2 (by omega) (opL_one (sc j) (no j)) (fun S w h => let ⟨S1, a, _⟩ := sepAt.l h; let ⟨S2, b, _⟩ := sepAt.l a; let ⟨S3, d, _⟩ := sepAt.l b; let ⟨S4, e, _⟩ := sepAt.l d; let ⟨S5, f, _⟩ := sepAt.l e; let ⟨S6, k, _⟩ := sepAt.l f; HI.out.seq S6 w k j hlt) h)
      rw [HV.out] at HNW
      have cb4 := g7.l.l.l.l.l.r.vc 4 (v := .int .i64 c.locals) rfl
      clear HG hsv e1
      refine wp_region_held_drew (S := fun w' => w'.cell? ⟨cb, 4, none⟩ = some (.int .i64 c.locals)) (by kernel_rfl) cb4 (fun hHeld => ?_)
      generalize World.drew _ = wd at *
      clear cb4
      refine wpAnyH_take (i := 0) (oi := _) (v := ?_) rfl (by kernel_rfl) (by kernel_rfl) (by kernel_rfl) (fun _ _ _ h => h) (Or.inl ⟨by rfl, ?_⟩) (by assumption) ?_
      rotate_left
      · intro w hSw
        (try dsimp only at hSw)
        go_simp
        with_reducible rfl
      try simp only [Act.put, List.setIfInBounds_toArray, List.set_cons_zero, List.set_cons_succ]
      refine wpAnyH_take (i := 1) (oi := _) (v := ?_) rfl (by kernel_rfl) (by kernel_rfl) (by kernel_rfl) (fun _ _ _ h => h) (Or.inl ⟨by rfl, ?_⟩) (by assumption) ?_
      rotate_left
      · intro w hSw
        (try dsimp only at hSw)
        go_simp
        with_reducible rfl
      try simp only [Act.put, List.setIfInBounds_toArray, List.set_cons_zero, List.set_cons_succ]
      refine wpAnyH_take (i := 2) (oi := _) (v := ?_) rfl (by kernel_rfl) (by kernel_rfl) (by kernel_rfl) (fun _ _ _ h => h) (Or.inl ⟨by rfl, ?_⟩) (by assumption) ?_
      rotate_left
      · intro w hSw
        (try dsimp only at hSw)
        go_simp
        with_reducible rfl
      try simp only [Act.put, List.setIfInBounds_toArray, List.set_cons_zero, List.set_cons_succ]
      refine wpAnyH_take (i := 3) (oi := _) (v := ?_) rfl (by kernel_rfl) (by kernel_rfl) (by kernel_rfl) (fun _ _ _ h => h) (Or.inl ⟨by rfl, ?_⟩) (by assumption) ?_
      rotate_left
      · intro w hSw
        (try dsimp only at hSw)
        go_simp
        with_reducible rfl
      try simp only [Act.put, List.setIfInBounds_toArray, List.set_cons_zero, List.set_cons_succ]
      refine wpAnyH_take (i := 5) (oi := _) (v := ?_) rfl (by kernel_rfl) (by kernel_rfl) (by kernel_rfl) (fun _ _ _ h => h) (Or.inl ⟨by rfl, ?_⟩) (by assumption) ?_
      rotate_left
      · intro w hSw
        (try dsimp only at hSw)
        go_simp
        with_reducible rfl
      try simp only [Act.put, List.setIfInBounds_toArray, List.set_cons_zero, List.set_cons_succ]
      refine wpAnyH_take (i := 6) (oi := _) (v := ?_) rfl (by kernel_rfl) (by kernel_rfl) (by kernel_rfl) (fun _ _ _ h => h) (Or.inl ⟨by rfl, ?_⟩) (by assumption) ?_
      rotate_left
      · intro w hSw
        (try dsimp only at hSw)
        go_simp
        with_reducible rfl
      try simp only [Act.put, List.setIfInBounds_toArray, List.set_cons_zero, List.set_cons_succ]
      refine wpAnyH_take (i := 7) (oi := _) (v := ?_) rfl (by kernel_rfl) (by kernel_rfl) (by kernel_rfl) (fun _ _ _ h => h) (Or.inl ⟨by rfl, ?_⟩) (by assumption) ?_
      rotate_left
      · intro w hSw
        (try dsimp only at hSw)
        go_simp
        with_reducible rfl
      try simp only [Act.put, List.setIfInBounds_toArray, List.set_cons_zero, List.set_cons_succ]
      refine wpAnyH_take (i := 8) (oi := _) (v := ?_) rfl (by kernel_rfl) (by kernel_rfl) (by kernel_rfl) (fun _ _ _ h => h) (Or.inl ⟨by rfl, ?_⟩) (by assumption) ?_
      rotate_left
      · intro w hSw
        (try dsimp only at hSw)
        go_simp
        with_reducible rfl
      try simp only [Act.put, List.setIfInBounds_toArray, List.set_cons_zero, List.set_cons_succ]
      refine wpAnyH_ready (rs := [4, 9]) (by kernel_rfl) (by simp) ?_
      refine AllReadyH.cons (o := _) rfl ?cA (AllReadyH.cons (o := _) rfl ?cB AllReadyH.nil)
      case cA =>
        have c2 := g7.l.l.r.vc 2 (v := sv) rfl
        rw [HSV.out] at c2
        intro K hK
        go_simp
        go_wp2_with fail
        refine hK.out _ _ (g7.l.l.l.l.l.r.vc 4 (v := .int .i64 c.locals) rfl) (fun hHeld => ?_)
        clear hK K
        try simp only [Act.put, List.getElem_toArray, List.getElem_cons_zero, List.getElem_cons_succ, List.setIfInBounds_toArray, List.set_cons_zero, List.set_cons_succ]
        clear c2
        refine wpAnyH_ready (rs := [9]) (by kernel_rfl) (by simp) ?_
        refine AllReadyH.cons (o := _) rfl (fun K hK => ?_) AllReadyH.nil
        go_simp
        with_reducible refine (HNW.out _ g7).mono ?_
        rintro e wA ⟨b', og, oc, lg, rfl, gA⟩
        go_wp2_with fail
        refine hK.out _ _ (gA.l.l.l.l.l.l.r.vc 4 (v := .int .i64 c.locals) rfl) (fun hHeld => ?_)
        clear hK K
        try simp only [Act.put, List.getElem_toArray, List.getElem_cons_zero, List.getElem_cons_succ, List.setIfInBounds_toArray, List.set_cons_zero, List.set_cons_succ]
        refine wpAnyH_ready (rs := [10]) (by kernel_rfl) (by simp) ?_
        refine AllReadyH.cons (o := _) rfl (fun K hK => ?_) AllReadyH.nil
        go_simp
        have gB := gA.moreSt (St.fresh #[.pointer (some ⟨b', 0, none⟩)] 65)
        go_wp2_with fail
        refine hK.out _ _ (gB.l.l.l.l.l.l.l.r.vc 4 (v := .int .i64 c.locals) rfl) (fun hHeld => ?_)
        clear hK K
        try simp only [Act.put, List.getElem_toArray, List.getElem_cons_zero, List.getElem_cons_succ, List.setIfInBounds_toArray, List.set_cons_zero, List.set_cons_succ]
        obtain ⟨tb, htb⟩ : ∃ k, wA.heap.size = k := ⟨_, rfl⟩
        have hBe : (wA.alloc (.cells #[.pointer (some ⟨b', 0, none⟩)] 65)).cell? ⟨tb, 0, none⟩ = some (.pointer (some ⟨b', 0, none⟩)) := by rw [← htb, (Blk.new wA #[.pointer (some ⟨b', 0, none⟩)] 65).cell]; rfl
        rw [htb] at *
        clear htb
        generalize wA.alloc _ = wB at *
        have hrow := gB.l.l.l.r.is.1
        rw [HSV.out] at hrow
        obtain ⟨v', wC, hr, ho, hgr, hbk⟩ := run_append_mine (P := Tryz.prog) wB 0 51 51 65 i0 (.pointer none) 1 8 Tryz.underlying51 hi hz0 hz1 hz2 rfl (by decide) _ j (tptrs fa j) hrow ⟨tb, 0, none⟩ 1 1 [.pointer (some ⟨b', 0, none⟩)] rfl
          (fun i u hu => by match i, hu with | 0, hu => simp at hu; subst hu; simpa [Addr.add] using hBe) (fun u hu => by simp at hu; subst hu; rfl) (by have := HJ.out; unfold maxLen; omega) (by have := HJ.out; omega) (Nat.zero_le _)
        obtain ⟨na, ncap, rfl, _, _⟩ := slice_of_owns ho
        have gC := gB.then fun S h => goesL (fun S h => goesL (fun S h => goesL (fun S h => goesR (fun S h => rowG_push h (Below.refl _ _) ho (by rw [HSV.out]; exact hgr) (by rw [HSV.out]; exact hbk)) S h) S h) S h) S h
        have cb4 := gC.l.l.l.l.l.l.l.r.vc 4 (v := .int .i64 c.locals) rfl
        refine wpAnyH_ready (rs := [11]) (by kernel_rfl) (by simp) ?_
        refine AllReadyH.cons (o := _) rfl (fun K hK => ?_) AllReadyH.nil
        refine ready_append _ _ _ rfl (by kernel_rfl) _ _ rfl rfl hr ?_
        refine hK.out _ _ cb4 (fun hHeld => ?_)
        clear hK K
        try simp only [Act.put, List.getElem_toArray, List.getElem_cons_zero, List.getElem_cons_succ, List.setIfInBounds_toArray, List.set_cons_zero, List.set_cons_succ]
        clear hr ho hgr hbk hBe hrow gB
        refine wpAnyH_take (i := 12) (oi := _) (v := ?_) rfl (by kernel_rfl) (by kernel_rfl) (by kernel_rfl) (fun _ _ _ h => h) (Or.inl ⟨by rfl, ?_⟩) (by assumption) ?_
        rotate_left
        · intro w hSw
          (try dsimp only at hSw)
          go_simp
          with_reducible rfl
        try simp only [Act.put, List.setIfInBounds_toArray, List.set_cons_zero, List.set_cons_succ]
        refine wpAnyH_take (i := 13) (oi := _) (v := ?_) rfl (by kernel_rfl) (by kernel_rfl) (by kernel_rfl) (fun _ _ _ h => h) (Or.inl ⟨by rfl, ?_⟩) (by assumption) ?_
        rotate_left
        · intro w hSw
          (try dsimp only at hSw)
          go_simp
          with_reducible rfl
        try simp only [Act.put, List.setIfInBounds_toArray, List.set_cons_zero, List.set_cons_succ]
        have c2 := gC.l.l.l.l.r.vc 2 (v := sv) rfl
        rw [HSV.out] at c2
        have f2 := gC.l.l.l.l.r.vf 2
        have gD := gC.then fun S h => goesL (fun S h => goesL (fun S h => goesL (fun S h => goesL (fun S h => goesR (fun S h => (Goes.begin h).vput 2 (.slice na (j + 1) ncap) (cs' := hpCells A.b yb (.slice na (j + 1) ncap) 0) rfl) S h) S h) S h) S h) S h
        clear hHeld cb4
        have cb4 := gD.l.l.l.l.l.l.l.r.vc 4 (v := .int .i64 c.locals) rfl
        refine wpAnyH_ready (rs := [14]) (by kernel_rfl) (by simp) ?_
        refine AllReadyH.cons (o := _) rfl (fun K hK => ?_) AllReadyH.nil
        go_simp
        go_wp2_with fail
        refine hK.out _ _ (cb4) (fun hHeld => ?_)
        clear hK K
        try simp only [Act.put, List.getElem_toArray, List.getElem_cons_zero, List.getElem_cons_succ, List.setIfInBounds_toArray, List.set_cons_zero, List.set_cons_succ]
        refine wpAnyH_done (by kernel_rfl) ?_ _
        clear hHeld cb4 c2 f2 gC
        have gE := gD.l
        have HE := Lib.hid gE
        clear gD gE
        generalize World.setCell _ _ _ = wE at *
        go_wp2_with fail
        go_round
        case rel =>
          refine ⟨j + 1, .slice na (j + 1) ncap, fun i => if i = j then ⟨b', og, 0, oc, lg⟩ else fa i, by omega, by go_num, ?_⟩
          refine HE.out.conv fun S w h => ?_
          have h1 := sepAt.assoc h
          refine sepAt.monoR (fun _ h => ?_) (sepAt.monoL (fun _ h => sepAt.monoR (fun _ h => ?_) h) h1)
          · exact all_push2 (T := fun t a => Th a t c.locals (no t) (sc t) p0) (sepAt.monoR (fun _ h => sepAt.monoR (fun _ h => sepAt.monoR (fun _ h => emp_more h) h) h) h)
          · rw [tptrs_push]; exact h
        case measure => simp [intOf]; omega
      case cB =>
        intro K hK
        go_simp
        with_reducible refine (HNW.out _ g7).mono ?_
        rintro e wA ⟨b', og, oc, lg, rfl, gA⟩
        go_wp2_with fail
        refine hK.out _ _ (gA.l.l.l.l.l.l.r.vc 4 (v := .int .i64 c.locals) rfl) (fun hHeld => ?_)
        clear hK K
        try simp only [Act.put, List.getElem_toArray, List.getElem_cons_zero, List.getElem_cons_succ, List.setIfInBounds_toArray, List.set_cons_zero, List.set_cons_succ]
        refine wpAnyH_ready (rs := [4, 10]) (by kernel_rfl) (by simp) ?_
        refine AllReadyH.cons (o := _) rfl ?cC (AllReadyH.cons (o := _) rfl ?cD AllReadyH.nil)
        case cC =>
          have c2 := gA.l.l.l.r.vc 2 (v := sv) rfl
          rw [HSV.out] at c2
          intro K hK
          go_simp
          go_wp2_with fail
          refine hK.out _ _ (gA.l.l.l.l.l.l.r.vc 4 (v := .int .i64 c.locals) rfl) (fun hHeld => ?_)
          clear hK K
          try simp only [Act.put, List.getElem_toArray, List.getElem_cons_zero, List.getElem_cons_succ, List.setIfInBounds_toArray, List.set_cons_zero, List.set_cons_succ]
          clear c2
          refine wpAnyH_ready (rs := [10]) (by kernel_rfl) (by simp) ?_
          refine AllReadyH.cons (o := _) rfl (fun K hK => ?_) AllReadyH.nil
          go_simp
          have gB := gA.moreSt (St.fresh #[.pointer (some ⟨b', 0, none⟩)] 65)
          go_wp2_with fail
          refine hK.out _ _ (gB.l.l.l.l.l.l.l.r.vc 4 (v := .int .i64 c.locals) rfl) (fun hHeld => ?_)
          clear hK K
          try simp only [Act.put, List.getElem_toArray, List.getElem_cons_zero, List.getElem_cons_succ, List.setIfInBounds_toArray, List.set_cons_zero, List.set_cons_succ]
          obtain ⟨tb, htb⟩ : ∃ k, wA.heap.size = k := ⟨_, rfl⟩
          have hBe : (wA.alloc (.cells #[.pointer (some ⟨b', 0, none⟩)] 65)).cell? ⟨tb, 0, none⟩ = some (.pointer (some ⟨b', 0, none⟩)) := by rw [← htb, (Blk.new wA #[.pointer (some ⟨b', 0, none⟩)] 65).cell]; rfl
          rw [htb] at *
          clear htb
          generalize wA.alloc _ = wB at *
          have hrow := gB.l.l.l.r.is.1
          rw [HSV.out] at hrow
          obtain ⟨v', wC, hr, ho, hgr, hbk⟩ := run_append_mine (P := Tryz.prog) wB 0 51 51 65 i0 (.pointer none) 1 8 Tryz.underlying51 hi hz0 hz1 hz2 rfl (by decide) _ j (tptrs fa j) hrow ⟨tb, 0, none⟩ 1 1 [.pointer (some ⟨b', 0, none⟩)] rfl
            (fun i u hu => by match i, hu with | 0, hu => simp at hu; subst hu; simpa [Addr.add] using hBe) (fun u hu => by simp at hu; subst hu; rfl) (by have := HJ.out; unfold maxLen; omega) (by have := HJ.out; omega) (Nat.zero_le _)
          obtain ⟨na, ncap, rfl, _, _⟩ := slice_of_owns ho
          have gC := gB.then fun S h => goesL (fun S h => goesL (fun S h => goesL (fun S h => goesR (fun S h => rowG_push h (Below.refl _ _) ho (by rw [HSV.out]; exact hgr) (by rw [HSV.out]; exact hbk)) S h) S h) S h) S h
          have cb4 := gC.l.l.l.l.l.l.l.r.vc 4 (v := .int .i64 c.locals) rfl
          refine wpAnyH_ready (rs := [11]) (by kernel_rfl) (by simp) ?_
          refine AllReadyH.cons (o := _) rfl (fun K hK => ?_) AllReadyH.nil
          refine ready_append _ _ _ rfl (by kernel_rfl) _ _ rfl rfl hr ?_
          refine hK.out _ _ cb4 (fun hHeld => ?_)
          clear hK K
          try simp only [Act.put, List.getElem_toArray, List.getElem_cons_zero, List.getElem_cons_succ, List.setIfInBounds_toArray, List.set_cons_zero, List.set_cons_succ]
          clear hr ho hgr hbk hBe hrow gB
          refine wpAnyH_take (i := 12) (oi := _) (v := ?_) rfl (by kernel_rfl) (by kernel_rfl) (by kernel_rfl) (fun _ _ _ h => h) (Or.inl ⟨by rfl, ?_⟩) (by assumption) ?_
          rotate_left
          · intro w hSw
            (try dsimp only at hSw)
            go_simp
            with_reducible rfl
          try simp only [Act.put, List.setIfInBounds_toArray, List.set_cons_zero, List.set_cons_succ]
          refine wpAnyH_take (i := 13) (oi := _) (v := ?_) rfl (by kernel_rfl) (by kernel_rfl) (by kernel_rfl) (fun _ _ _ h => h) (Or.inl ⟨by rfl, ?_⟩) (by assumption) ?_
          rotate_left
          · intro w hSw
            (try dsimp only at hSw)
            go_simp
            with_reducible rfl
          try simp only [Act.put, List.setIfInBounds_toArray, List.set_cons_zero, List.set_cons_succ]
          have c2 := gC.l.l.l.l.r.vc 2 (v := sv) rfl
          rw [HSV.out] at c2
          have f2 := gC.l.l.l.l.r.vf 2
          have gD := gC.then fun S h => goesL (fun S h => goesL (fun S h => goesL (fun S h => goesL (fun S h => goesR (fun S h => (Goes.begin h).vput 2 (.slice na (j + 1) ncap) (cs' := hpCells A.b yb (.slice na (j + 1) ncap) 0) rfl) S h) S h) S h) S h) S h
          clear hHeld cb4
          have cb4 := gD.l.l.l.l.l.l.l.r.vc 4 (v := .int .i64 c.locals) rfl
          refine wpAnyH_ready (rs := [14]) (by kernel_rfl) (by simp) ?_
          refine AllReadyH.cons (o := _) rfl (fun K hK => ?_) AllReadyH.nil
          go_simp
          go_wp2_with fail
          refine hK.out _ _ (cb4) (fun hHeld => ?_)
          clear hK K
          try simp only [Act.put, List.getElem_toArray, List.getElem_cons_zero, List.getElem_cons_succ, List.setIfInBounds_toArray, List.set_cons_zero, List.set_cons_succ]
          refine wpAnyH_done (by kernel_rfl) ?_ _
          clear hHeld cb4 c2 f2 gC
          have gE := gD.l
          have HE := Lib.hid gE
          clear gD gE
          generalize World.setCell _ _ _ = wE at *
          go_wp2_with fail
          go_round
          case rel =>
            refine ⟨j + 1, .slice na (j + 1) ncap, fun i => if i = j then ⟨b', og, 0, oc, lg⟩ else fa i, by omega, by go_num, ?_⟩
            refine HE.out.conv fun S w h => ?_
            have h1 := sepAt.assoc h
            refine sepAt.monoR (fun _ h => ?_) (sepAt.monoL (fun _ h => sepAt.monoR (fun _ h => ?_) h) h1)
            · exact all_push2 (T := fun t a => Th a t c.locals (no t) (sc t) p0) (sepAt.monoR (fun _ h => sepAt.monoR (fun _ h => sepAt.monoR (fun _ h => emp_more h) h) h) h)
            · rw [tptrs_push]; exact h
          case measure => simp [intOf]; omega
        case cD =>
          intro K hK
          go_simp
          have gB := gA.moreSt (St.fresh #[.pointer (some ⟨b', 0, none⟩)] 65)
          go_wp2_with fail
          refine hK.out _ _ (gB.l.l.l.l.l.l.l.r.vc 4 (v := .int .i64 c.locals) rfl) (fun hHeld => ?_)
          clear hK K
          try simp only [Act.put, List.getElem_toArray, List.getElem_cons_zero, List.getElem_cons_succ, List.setIfInBounds_toArray, List.set_cons_zero, List.set_cons_succ]
          obtain ⟨tb, htb⟩ : ∃ k, wA.heap.size = k := ⟨_, rfl⟩
          have hBe : (wA.alloc (.cells #[.pointer (some ⟨b', 0, none⟩)] 65)).cell? ⟨tb, 0, none⟩ = some (.pointer (some ⟨b', 0, none⟩)) := by rw [← htb, (Blk.new wA #[.pointer (some ⟨b', 0, none⟩)] 65).cell]; rfl
          rw [htb] at *
          clear htb
          generalize wA.alloc _ = wB at *
          have c2 := gB.l.l.l.l.r.vc 2 (v := sv) rfl
          rw [HSV.out] at c2
          refine wpAnyH_ready (rs := [4]) (by kernel_rfl) (by simp) ?_
          refine AllReadyH.cons (o := _) rfl (fun K hK => ?_) AllReadyH.nil
          go_simp
          go_wp2_with fail
          refine hK.out _ _ (gB.l.l.l.l.l.l.l.r.vc 4 (v := .int .i64 c.locals) rfl) (fun hHeld => ?_)
          clear hK K
          try simp only [Act.put, List.getElem_toArray, List.getElem_cons_zero, List.getElem_cons_succ, List.setIfInBounds_toArray, List.set_cons_zero, List.set_cons_succ]
          clear c2
          have hrow := gB.l.l.l.r.is.1
          rw [HSV.out] at hrow
          obtain ⟨v', wC, hr, ho, hgr, hbk⟩ := run_append_mine (P := Tryz.prog) wB 0 51 51 65 i0 (.pointer none) 1 8 Tryz.underlying51 hi hz0 hz1 hz2 rfl (by decide) _ j (tptrs fa j) hrow ⟨tb, 0, none⟩ 1 1 [.pointer (some ⟨b', 0, none⟩)] rfl
            (fun i u hu => by match i, hu with | 0, hu => simp at hu; subst hu; simpa [Addr.add] using hBe) (fun u hu => by simp at hu; subst hu; rfl) (by have := HJ.out; unfold maxLen; omega) (by have := HJ.out; omega) (Nat.zero_le _)
          obtain ⟨na, ncap, rfl, _, _⟩ := slice_of_owns ho
          have gC := gB.then fun S h => goesL (fun S h => goesL (fun S h => goesL (fun S h => goesR (fun S h => rowG_push h (Below.refl _ _) ho (by rw [HSV.out]; exact hgr) (by rw [HSV.out]; exact hbk)) S h) S h) S h) S h
          have cb4 := gC.l.l.l.l.l.l.l.r.vc 4 (v := .int .i64 c.locals) rfl
          refine wpAnyH_ready (rs := [11]) (by kernel_rfl) (by simp) ?_
          refine AllReadyH.cons (o := _) rfl (fun K hK => ?_) AllReadyH.nil
          refine ready_append _ _ _ rfl (by kernel_rfl) _ _ rfl rfl hr ?_
          refine hK.out _ _ cb4 (fun hHeld => ?_)
          clear hK K
          try simp only [Act.put, List.getElem_toArray, List.getElem_cons_zero, List.getElem_cons_succ, List.setIfInBounds_toArray, List.set_cons_zero, List.set_cons_succ]
          clear hr ho hgr hbk hBe hrow gB
          refine wpAnyH_take (i := 12) (oi := _) (v := ?_) rfl (by kernel_rfl) (by kernel_rfl) (by kernel_rfl) (fun _ _ _ h => h) (Or.inl ⟨by rfl, ?_⟩) (by assumption) ?_
          rotate_left
          · intro w hSw
            (try dsimp only at hSw)
            go_simp
            with_reducible rfl
          try simp only [Act.put, List.setIfInBounds_toArray, List.set_cons_zero, List.set_cons_succ]
          refine wpAnyH_take (i := 13) (oi := _) (v := ?_) rfl (by kernel_rfl) (by kernel_rfl) (by kernel_rfl) (fun _ _ _ h => h) (Or.inl ⟨by rfl, ?_⟩) (by assumption) ?_
          rotate_left
          · intro w hSw
            (try dsimp only at hSw)
            go_simp
            with_reducible rfl
          try simp only [Act.put, List.setIfInBounds_toArray, List.set_cons_zero, List.set_cons_succ]
          have c2 := gC.l.l.l.l.r.vc 2 (v := sv) rfl
          rw [HSV.out] at c2
          have f2 := gC.l.l.l.l.r.vf 2
          have gD := gC.then fun S h => goesL (fun S h => goesL (fun S h => goesL (fun S h => goesL (fun S h => goesR (fun S h => (Goes.begin h).vput 2 (.slice na (j + 1) ncap) (cs' := hpCells A.b yb (.slice na (j + 1) ncap) 0) rfl) S h) S h) S h) S h) S h
          clear hHeld cb4
          have cb4 := gD.l.l.l.l.l.l.l.r.vc 4 (v := .int .i64 c.locals) rfl
          refine wpAnyH_ready (rs := [14]) (by kernel_rfl) (by simp) ?_
          refine AllReadyH.cons (o := _) rfl (fun K hK => ?_) AllReadyH.nil
          go_simp
          go_wp2_with fail
          refine hK.out _ _ (cb4) (fun hHeld => ?_)
          clear hK K
          try simp only [Act.put, List.getElem_toArray, List.getElem_cons_zero, List.getElem_cons_succ, List.setIfInBounds_toArray, List.set_cons_zero, List.set_cons_succ]
          refine wpAnyH_done (by kernel_rfl) ?_ _
          clear hHeld cb4 c2 f2 gC
          have gE := gD.l
          have HE := Lib.hid gE
          clear gD gE
          generalize World.setCell _ _ _ = wE at *
          go_wp2_with fail
          go_round
          case rel =>
            refine ⟨j + 1, .slice na (j + 1) ncap, fun i => if i = j then ⟨b', og, 0, oc, lg⟩ else fa i, by omega, by go_num, ?_⟩
            refine HE.out.conv fun S w h => ?_
            have h1 := sepAt.assoc h
            refine sepAt.monoR (fun _ h => ?_) (sepAt.monoL (fun _ h => sepAt.monoR (fun _ h => ?_) h) h1)
            · exact all_push2 (T := fun t a => Th a t c.locals (no t) (sc t) p0) (sepAt.monoR (fun _ h => sepAt.monoR (fun _ h => sepAt.monoR (fun _ h => emp_more h) h) h) h)
            · rw [tptrs_push]; exact h
          case measure => simp [intOf]; omega
    · obtain rfl : j = n := by omega
      have HF := Lib.hid (hpn_done (by omega) hg)
      clear hg
      go_wp2_with fail
      go_ret2
      exact ⟨_, _, _, _, _, rfl, HF.out⟩
end
end Go.Proofs.YtnkgnhpapcnebaaGreat
