/- The auditor: nothing is reached, all is sound. -/
import Derived.Test.YtnkgnhpapcnebaaGreatM44
set_option linter.unusedVariables false
set_option linter.unusedSimpArgs false
set_option maxHeartbeats 8000000
namespace Go.Proofs.YtnkgnhpapcnebaaGreat
open Go.RowKit
attribute [local go_sem] run_store_complex via_ret via_normal via_exit via_panic
section
variable {S : Nat → Prop} {w w' : World} {c : Cf} {A : CA} {q : Q} {yb hb n : Nat} {y : Yc} {Kt : Thing} {sv : Value} {fa : Nat → TA} {no : Nat → Nat} {sc : Nat → Nat → Opn} {steps : Int} {p : Nat → P}
set_option maxRecDepth 100000 in
theorem aud_roots (hc : c.ok) (hn : n = c.threads) (hgl : c.globals = 0) (hp : ∀ t, t < n → (p t).x.ph = 4) (h : (Hp A c q yb y Kt hb sv n fa no sc steps p).at_ S w) :
    Calls Tryz.prog 59 #[.pointer (some ⟨hb, 0, none⟩)] w fun e w' => e = .returned (.slice none 0 0) ∧ Goes (Hp A c q yb y Kt hb sv n fa no sc steps p) S w w' := by
  have HC := Lib.hid (Does.on (fun S h => hp_conf hc h : Does Tryz.prog 23 #[.pointer (some ⟨hb, 0, none⟩)] w (Hp A c q yb y Kt hb sv n fa no sc steps p) (fun (v : Nat × Nat) e => e = .returned (cfV c v.1 v.2)) (fun v => Sep (Hp A c q yb y Kt hb sv n fa no sc steps p) (Conf c v.1 v.2))) (Goes.begin h))
  have HT := Lib.hid fun t (ht : t < n) w1 (gg : Goes (Hp A c q yb y Kt hb sv n fa no sc steps p) S w w1) => Does.on (fun S h => hp_thread (by have := hc.threads; omega) ht hc.locals h : Does Tryz.prog 10 #[.pointer (some ⟨hb, 0, none⟩), .int .i64 (t : Int)] w1 (Hp A c q yb y Kt hb sv n fa no sc steps p) (fun (v : Option Addr × Nat × Nat) e => e = .returned (.tuple #[.int .i64 (p t).x.ph, .int .i64 (p t).x.st, .slice v.1 v.2.1 v.2.2])) (fun _ => Hp A c q yb y Kt hb sv n fa no sc steps p)) gg
  have HP := Lib.hid hp
  have HTH := Lib.hid hc.threads
  have HLC := Lib.hid hc.locals
  have HGL := Lib.hid hgl
  have HN := Lib.hid hn
  unfold cfV at HC
  clear h hp hc hgl hn
  go_enter Tryz.func59, Tryz.ntmps59
  go_wp2_with fail
  with_reducible refine HC.out.mono ?_
  rintro e w1 ⟨v, rfl, hg⟩
  have g1 := hg.l.moreSt (St.fresh #[.int .i64 c.frags, .int .i64 c.spine, .int .i64 c.globals, .int .i64 c.threads, .int .i64 c.locals, .int .i64 0, .int .i64 c.stack, .int .i64 c.low, .slice (some ⟨v.1, 0, none⟩) c.shapes.length v.2] 36)
  clear HC hg
  go_upto_region 3 with fail
  generalize w1.heap.size = cb at *
  generalize w1.alloc _ = w2 at *
  have c3 := g1.r.vc 3 (v := .int .i64 c.threads) rfl
  have HG := Lib.hid g1
  clear g1
  go_wp2_with fail
  clear c3
  go_loopw [3, 5, 6, 7, 8, 10, 11, 12, 22] (fun l _ _ _ _ _ _ _ i wr => ∃ j : Nat, j ≤ n ∧ i = .int .i64 j ∧ l = .slice none 0 0 ∧ Goes (Sep (Hp A c q yb y Kt hb sv n fa no sc steps p) (Var cb #[.int .i64 c.frags, .int .i64 c.spine, .int .i64 c.globals, .int .i64 c.threads, .int .i64 c.locals, .int .i64 0, .int .i64 c.stack, .int .i64 c.low, .slice (some ⟨v.1, 0, none⟩) c.shapes.length v.2] 36)) S w wr) (fun _ _ _ _ _ _ _ _ i _ => n - (intOf i).toNat)
  case atStart => exact ⟨0, Nat.zero_le _, rfl, rfl, HG.out⟩
  case round =>
    clear HG
    obtain ⟨j, hj, rfl, rfl, hg⟩ := hrel
    by_cases hlt : j < n
    · have hj16 : j ≤ 15 := by have := HN.out; have := HTH.out; omega
      have hlt2 : (j : Int) < (c.threads : Int) := by have := HN.out; omega
      have HTC := Lib.hid (Does.on (Does.l (fun S h => hp_thread (by have := HN.out; have := HTH.out; omega) hlt HLC.out h : Does Tryz.prog 10 #[.pointer (some ⟨hb, 0, none⟩), .int .i64 (j : Int)] _ (Hp A c q yb y Kt hb sv n fa no sc steps p) (fun (v : Option Addr × Nat × Nat) e => e = .returned (.tuple #[.int .i64 (p j).x.ph, .int .i64 (p j).x.st, .slice v.1 v.2.1 v.2.2])) (fun _ => Hp A c q yb y Kt hb sv n fa no sc steps p))) hg)
      rw [HP.out j hlt] at HTC
      clear hg
      go_wp2_with fail
      with_reducible refine HTC.out.mono ?_
      rintro e w3 ⟨u, rfl, hg⟩
      have HG := Lib.hid hg
      clear HTC hg
      go_wp2_with fail
      go_round
      case rel => exact ⟨j + 1, by omega, by go_num, rfl, HG.out⟩
      case measure => simp [intOf]; omega
    · obtain rfl : j = n := by omega
      have hge : ¬ (j : Int) < (c.threads : Int) := by have := HN.out; omega
      have hge2 : decide (j < c.threads) = false := by have := HN.out; simp; omega
      have hge3 : ¬ j < c.threads := by have := HN.out; omega
      have c2 := hg.r.vc 2 (v := .int .i64 c.globals) rfl
      rw [HGL.out] at c2
      have HG := Lib.hid hg
      clear hg
      go_wp2_with fail
      go_loopw [3, 13, 14, 15, 16, 17, 63] (fun l _ _ _ _ _ i wr => i = .int .i64 0 ∧ l = .slice none 0 0 ∧ Goes (Sep (Hp A c q yb y Kt hb sv j fa no sc steps p) (Var cb #[.int .i64 c.frags, .int .i64 c.spine, .int .i64 c.globals, .int .i64 c.threads, .int .i64 c.locals, .int .i64 0, .int .i64 c.stack, .int .i64 c.low, .slice (some ⟨v.1, 0, none⟩) c.shapes.length v.2] 36)) S w wr) (fun _ _ _ _ _ _ _ _ => 0)
      case atStart => exact ⟨rfl, rfl, HG.out⟩
      case round =>
        clear HG c2
        obtain ⟨rfl, rfl, hg⟩ := hrel
        have HG := Lib.hid hg
        clear hg
        go_wp2_with fail
        go_ret
        exact ⟨rfl, HG.out.l⟩
end
end Go.Proofs.YtnkgnhpapcnebaaGreat
/- The auditor: nothing is reached, all is sound. -/
namespace Go.Proofs.YtnkgnhpapcnebaaGreat
open Go.RowKit
attribute [local go_sem] run_store_complex via_ret via_normal via_exit via_panic
set_option maxRecDepth 100000 in
theorem field_frags (c : Cf) (g k : Nat) (w : World) : (Instr.field 36 (.agg #[.int .i64 c.frags, .int .i64 c.spine, .int .i64 c.globals, .int .i64 c.threads, .int .i64 c.locals, .int .i64 0, .int .i64 c.stack, .int .i64 c.low, .slice (some ⟨g, 0, none⟩) c.shapes.length k]) 0).run Tryz.prog w = .ok (.int .i64 c.frags) w := by
  kernel_rfl
section
variable {S : Nat → Prop} {w w' : World} {c : Cf} {A : CA} {q : Q} {yb hb n : Nat} {y : Yc} {Kt : Thing} {sv : Value} {fa : Nat → TA} {no : Nat → Nat} {sc : Nat → Nat → Opn} {steps : Int} {p : Nat → P}
set_option maxRecDepth 100000 in
theorem aud_reach (hc : c.ok) (hn : n = c.threads) (hgl : c.globals = 0) (hp : ∀ t, t < n → (p t).x.ph = 4) (h : (Hp A c q yb y Kt hb sv n fa no sc steps p).at_ S w) :
    Calls Tryz.prog 24 #[.pointer (some ⟨hb, 0, none⟩)] w fun e w' => e = .returned (.slice none 0 0) ∧ Goes (Hp A c q yb y Kt hb sv n fa no sc steps p) S w w' := by
  have HR := Lib.hid fun w1 (gg : Goes (Hp A c q yb y Kt hb sv n fa no sc steps p) S w w1) => gg.call fun S h => aud_roots hc hn hgl hp h
  have g0 := Goes.begin h
  clear h hp hc hgl hn
  go_enter Tryz.func24, Tryz.ntmps24
  have hmm := @run_makeMap Tryz.prog
  go_upto_region 2 with fail
  have g1 := g0.alloc_ (.map #[] 0)
  generalize w.alloc _ = w1 at *
  have HRC := Lib.hid (HR.out _ g1)
  clear HR g0 g1 hmm
  go_wp2_with fail
  with_reducible refine HRC.out.mono ?_
  rintro e w2 ⟨rfl, hg⟩
  clear HRC
  go_wp2_with fail
  go_loopw [4, 5, 6, 7, 8] (fun a b _ _ _ wr => a = .slice none 0 0 ∧ b = .slice none 0 0 ∧ Goes (Hp A c q yb y Kt hb sv n fa no sc steps p) S w wr) (fun _ _ _ _ _ _ => 0)
  case atStart => exact ⟨rfl, rfl, hg⟩
  case round =>
    clear hg
    obtain ⟨rfl, rfl, hg⟩ := hrel
    go_wp2_with fail
    with_reducible refine (sort_nil _).mono ?_
    rintro e w3 ⟨rfl, rfl⟩
    go_wp2_with fail
    go_ret
    exact ⟨rfl, hg⟩
set_option maxRecDepth 100000 in
theorem aud_sound (hc : c.ok) (hn : n = c.threads) (hgl : c.globals = 0) (hp : ∀ t, t < n → (p t).x.ph = 4) (h : (Hp A c q yb y Kt hb sv n fa no sc steps p).at_ S w) :
    Calls Tryz.prog 11 #[.pointer (some ⟨hb, 0, none⟩)] w fun e w' => e = .returned (.int .i64 0) ∧ Goes (Hp A c q yb y Kt hb sv n fa no sc steps p) S w w' := by
  have HR := Lib.hid fun w1 (gg : Goes (Hp A c q yb y Kt hb sv n fa no sc steps p) S w w1) => gg.call fun S h => aud_reach hc hn hgl hp h
  have HCN := Lib.hid (Does.on (fun S h => hp_counts hc h : Does Tryz.prog 22 #[.pointer (some ⟨hb, 0, none⟩)] w (Hp A c q yb y Kt hb sv n fa no sc steps p) (fun (v : Int × Int × Int) e => e = .returned (.tuple #[.int .i64 v.1, .int .i64 v.2.1, .int .i64 v.2.2]) ∧ v.1 + v.2.1 + v.2.2 = c.frags ∧ 0 ≤ v.1 ∧ 0 ≤ v.2.1 ∧ 0 ≤ v.2.2) (fun _ => Hp A c q yb y Kt hb sv n fa no sc steps p)) (Goes.begin h))
  have HE := Lib.hid fun w1 (gg : Goes (Hp A c q yb y Kt hb sv n fa no sc steps p) S w w1) => gg.call fun S h => hp_errno h
  have HC := Lib.hid fun w1 (gg : Goes (Hp A c q yb y Kt hb sv n fa no sc steps p) S w w1) => Does.on (fun S h => hp_conf hc h : Does Tryz.prog 23 #[.pointer (some ⟨hb, 0, none⟩)] w1 (Hp A c q yb y Kt hb sv n fa no sc steps p) (fun (v : Nat × Nat) e => e = .returned (cfV c v.1 v.2)) (fun v => Sep (Hp A c q yb y Kt hb sv n fa no sc steps p) (Conf c v.1 v.2))) gg
  have hfr := hc.frags.2
  unfold cfV at HC
  clear h hp hc hgl hn
  go_enter Tryz.func11, Tryz.ntmps11
  go_wp2_with fail
  with_reducible refine HCN.out.mono ?_
  rintro e w1 ⟨⟨v1, v2, v3⟩, ⟨rfl, hs, h1, h2, h3⟩, hg⟩
  simp only at hs h1 h2 h3
  have c1 := hg.l.l.vc 1 (v := .pointer (some ⟨yb, 0, none⟩)) rfl
  have HEC := Lib.hid (HE.out _ hg)
  have hsum : v1 + v2 + v3 = (c.frags : Int) := hs
  have hfi : (c.frags : Int) ≤ 1024 := by omega
  clear HCN HE hg hs
  go_wp2_with fail
  with_reducible refine HEC.out.mono ?_
  rintro e w2 ⟨rfl, hg⟩
  have HCC := Lib.hid (HC.out _ hg)
  clear HEC HC hg c1
  go_wp2_with fail
  with_reducible refine HCC.out.mono ?_
  rintro e w3 ⟨u, rfl, hgx⟩
  have hg := hgx.l
  have hff := field_frags c u.1 u.2
  clear HCC hgx
  have hmm := @run_makeMap Tryz.prog
  go_upto_region 5 with fail
  have g2 := (hg.alloc_ (.map #[] 0)).alloc_ (.map #[] 0)
  generalize World.alloc (World.alloc _ _) _ = w4 at *
  have HRC := Lib.hid (HR.out _ g2)
  clear HR hg g2 hmm
  go_wp2_with fail
  with_reducible refine HRC.out.mono ?_
  rintro e w5 ⟨rfl, hg⟩
  clear HRC
  go_wp2_with fail
  go_loopw [9, 10, 11, 13, 14, 43] (fun _ _ _ _ _ i wr => i = .int .i64 0 ∧ Goes (Hp A c q yb y Kt hb sv n fa no sc steps p) S w wr) (fun _ _ _ _ _ _ _ => 0)
  case atStart => exact ⟨rfl, hg⟩
  case round =>
    clear hg
    obtain ⟨rfl, hg⟩ := hrel
    go_wp2_with fail
    go_ret
    exact ⟨rfl, hg⟩
end
end Go.Proofs.YtnkgnhpapcnebaaGreat
/- A step of the machine: nothing is picked. -/
namespace Go.Proofs.YtnkgnhpapcnebaaGreat
open Go.RowKit
attribute [local go_sem] run_store_complex via_ret via_normal via_exit via_panic
section
variable {S : Nat → Prop} {w w' : World} {c : Cf} {A : CA} {q : Q} {yb hb n : Nat} {y : Yc} {K : Thing} {sv : Value} {fa : Nat → TA} {no : Nat → Nat} {sc : Nat → Nat → Opn} {steps : Int} {p : Nat → P}
set_option maxRecDepth 100000 in
theorem hp_step_out {pick : Int} (hn : n ≤ 16) (hp : pick < 0 ∨ (n : Int) < pick) (h : (Hp A c q yb y K hb sv n fa no sc steps p).at_ S w) :
    Calls Tryz.prog 7 #[.pointer (some ⟨hb, 0, none⟩), .int .i64 pick] w fun e w' => e = .returned (tkV pick rs0) ∧ Goes (Hp A c q yb y K hb sv n fa no sc steps p) S w w' := by
  obtain ⟨sg, so, scap, hsv, _, _⟩ := seq_form (Goes.begin h).l.r.is
  have g0 := ((Goes.begin h).moreSt (St.fresh (tkCells 0 rs0) 43)).moreSt (St.fresh (tkCells (pick) rs0) 43)
  rw [World.size_alloc] at g0
  obtain ⟨rb, hrb⟩ : ∃ k, w.heap.size = k := ⟨_, rfl⟩
  obtain ⟨xb, hxb⟩ : ∃ k, rb + 1 = k := ⟨_, rfl⟩
  rw [hrb, hxb] at g0
  have c2 := g0.l.l.l.l.vc 2 (v := sv) rfl
  rw [hsv] at c2
  unfold tkV
  simp only [tkCells, rs0] at *
  clear h hsv
  by_cases h0 : pick < 0
  · have hd : decide (pick < 0) = true := by simpa using h0
    clear hp
    go_enter Tryz.func7, Tryz.ntmps7
    go_upto_region 2 with fail
    generalize (w.alloc _).alloc _ = w1 at *
    have x0 := g0.r.vc 0 (v := .int .i64 pick) rfl
    have r0 := g0.l.r.vc 0 (v := .int .i64 0) rfl
    have f0 := g0.l.r.vf 0
    have x1 := g0.r.vc 1 (v := .bool false) rfl
    have r1 := g0.l.r.vc 1 (v := .bool false) rfl
    have f1 := g0.l.r.vf 1
    have x2 := g0.r.vc 2 (v := .int .i64 0) rfl
    have r2 := g0.l.r.vc 2 (v := .int .i64 0) rfl
    have f2 := g0.l.r.vf 2
    have x3 := g0.r.vc 3 (v := .int .i64 0) rfl
    have r3 := g0.l.r.vc 3 (v := .int .i64 0) rfl
    have f3 := g0.l.r.vf 3
    have x4 := g0.r.vc 4 (v := .int .i64 0) rfl
    have r4 := g0.l.r.vc 4 (v := .int .i64 0) rfl
    have f4 := g0.l.r.vf 4
    have x5 := g0.r.vc 5 (v := .bool false) rfl
    have r5 := g0.l.r.vc 5 (v := .bool false) rfl
    have f5 := g0.l.r.vf 5
    have x6 := g0.r.vc 6 (v := .complex .f64 0 0) rfl
    have r6 := g0.l.r.vc 6 (v := .complex .f64 0 0) rfl
    have f6 := g0.l.r.vf 6
    have gz := g0.then fun S h => goesL (fun S h => goesR (fun S h => (((((((Goes.begin h).vput 0 (.int .i64 pick) (cs' := #[.int .i64 pick, .bool false, .int .i64 0, .int .i64 0, .int .i64 0, .bool false, .complex .f64 0 0]) rfl).vput 1 (.bool false) (cs' := #[.int .i64 pick, .bool false, .int .i64 0, .int .i64 0, .int .i64 0, .bool false, .complex .f64 0 0]) rfl).vput 2 (.int .i64 0) (cs' := #[.int .i64 pick, .bool false, .int .i64 0, .int .i64 0, .int .i64 0, .bool false, .complex .f64 0 0]) rfl).vput 3 (.int .i64 0) (cs' := #[.int .i64 pick, .bool false, .int .i64 0, .int .i64 0, .int .i64 0, .bool false, .complex .f64 0 0]) rfl).vput 4 (.int .i64 0) (cs' := #[.int .i64 pick, .bool false, .int .i64 0, .int .i64 0, .int .i64 0, .bool false, .complex .f64 0 0]) rfl).vput 5 (.bool false) (cs' := #[.int .i64 pick, .bool false, .int .i64 0, .int .i64 0, .int .i64 0, .bool false, .complex .f64 0 0]) rfl).vput 6 (.complex .f64 0 0) (cs' := #[.int .i64 pick, .bool false, .int .i64 0, .int .i64 0, .int .i64 0, .bool false, .complex .f64 0 0]) rfl) S h) S h
    have k0 := gz.l.r.vc 0 (v := .int .i64 pick) rfl
    have k1 := gz.l.r.vc 1 (v := .bool false) rfl
    have k2 := gz.l.r.vc 2 (v := .int .i64 0) rfl
    have k3 := gz.l.r.vc 3 (v := .int .i64 0) rfl
    have k4 := gz.l.r.vc 4 (v := .int .i64 0) rfl
    have k5 := gz.l.r.vc 5 (v := .bool false) rfl
    have k6 := gz.l.r.vc 6 (v := .complex .f64 0 0) rfl
    have HF := Lib.hid gz.l.l
    clear gz g0
    go_wp2_with fail
    (try rw [via_ret])
    exact bodyPost_ret (v := .agg #[.int .i64 pick, .bool false, .int .i64 0, .int .i64 0, .int .i64 0, .bool false, .complex .f64 0 0]) (by simp [results, Tryz.results7, go_sem, k0, k1, k2, k3, k4, k5, k6]) rfl ⟨rfl, HF.out⟩
  · have hd : decide (pick < 0) = false := by simpa using h0
    have hd2 : decide (pick > (n : Int)) = true := by have := hp.resolve_left h0; simpa using this
    clear hp
    go_enter Tryz.func7, Tryz.ntmps7
    go_upto_region 2 with fail
    generalize (w.alloc _).alloc _ = w1 at *
    have x0 := g0.r.vc 0 (v := .int .i64 pick) rfl
    have r0 := g0.l.r.vc 0 (v := .int .i64 0) rfl
    have f0 := g0.l.r.vf 0
    have x1 := g0.r.vc 1 (v := .bool false) rfl
    have r1 := g0.l.r.vc 1 (v := .bool false) rfl
    have f1 := g0.l.r.vf 1
    have x2 := g0.r.vc 2 (v := .int .i64 0) rfl
    have r2 := g0.l.r.vc 2 (v := .int .i64 0) rfl
    have f2 := g0.l.r.vf 2
    have x3 := g0.r.vc 3 (v := .int .i64 0) rfl
    have r3 := g0.l.r.vc 3 (v := .int .i64 0) rfl
    have f3 := g0.l.r.vf 3
    have x4 := g0.r.vc 4 (v := .int .i64 0) rfl
    have r4 := g0.l.r.vc 4 (v := .int .i64 0) rfl
    have f4 := g0.l.r.vf 4
    have x5 := g0.r.vc 5 (v := .bool false) rfl
    have r5 := g0.l.r.vc 5 (v := .bool false) rfl
    have f5 := g0.l.r.vf 5
    have x6 := g0.r.vc 6 (v := .complex .f64 0 0) rfl
    have r6 := g0.l.r.vc 6 (v := .complex .f64 0 0) rfl
    have f6 := g0.l.r.vf 6
    have gz := g0.then fun S h => goesL (fun S h => goesR (fun S h => (((((((Goes.begin h).vput 0 (.int .i64 pick) (cs' := #[.int .i64 pick, .bool false, .int .i64 0, .int .i64 0, .int .i64 0, .bool false, .complex .f64 0 0]) rfl).vput 1 (.bool false) (cs' := #[.int .i64 pick, .bool false, .int .i64 0, .int .i64 0, .int .i64 0, .bool false, .complex .f64 0 0]) rfl).vput 2 (.int .i64 0) (cs' := #[.int .i64 pick, .bool false, .int .i64 0, .int .i64 0, .int .i64 0, .bool false, .complex .f64 0 0]) rfl).vput 3 (.int .i64 0) (cs' := #[.int .i64 pick, .bool false, .int .i64 0, .int .i64 0, .int .i64 0, .bool false, .complex .f64 0 0]) rfl).vput 4 (.int .i64 0) (cs' := #[.int .i64 pick, .bool false, .int .i64 0, .int .i64 0, .int .i64 0, .bool false, .complex .f64 0 0]) rfl).vput 5 (.bool false) (cs' := #[.int .i64 pick, .bool false, .int .i64 0, .int .i64 0, .int .i64 0, .bool false, .complex .f64 0 0]) rfl).vput 6 (.complex .f64 0 0) (cs' := #[.int .i64 pick, .bool false, .int .i64 0, .int .i64 0, .int .i64 0, .bool false, .complex .f64 0 0]) rfl) S h) S h
    have k0 := gz.l.r.vc 0 (v := .int .i64 pick) rfl
    have k1 := gz.l.r.vc 1 (v := .bool false) rfl
    have k2 := gz.l.r.vc 2 (v := .int .i64 0) rfl
    have k3 := gz.l.r.vc 3 (v := .int .i64 0) rfl
    have k4 := gz.l.r.vc 4 (v := .int .i64 0) rfl
    have k5 := gz.l.r.vc 5 (v := .bool false) rfl
    have k6 := gz.l.r.vc 6 (v := .complex .f64 0 0) rfl
    have HF := Lib.hid gz.l.l
    clear gz g0
    go_wp2_with fail
    (try rw [via_ret])
    exact bodyPost_ret (v := .agg #[.int .i64 pick, .bool false, .int .i64 0, .int .i64 0, .int .i64 0, .bool false, .complex .f64 0 0]) (by simp [results, Tryz.results7, go_sem, k0, k1, k2, k3, k4, k5, k6]) rfl ⟨rfl, HF.out⟩
end
end Go.Proofs.YtnkgnhpapcnebaaGreat
/- A step of the machine: the collector. -/
namespace Go.Proofs.YtnkgnhpapcnebaaGreat
open Go.RowKit
attribute [local go_sem] run_store_complex via_ret via_normal via_exit via_panic
section
variable {S : Nat → Prop} {w w' : World} {c : Cf} {A : CA} {q : Q} {yb hb n : Nat} {y : Yc} {K : Thing} {sv : Value} {fa : Nat → TA} {no : Nat → Nat} {sc : Nat → Nat → Opn} {steps : Int} {p : Nat → P}
set_option maxRecDepth 100000 in
theorem hp_step_cyc (hn : n ≤ 16) (hC : CyDoes A c q yb y K) (h : (Hp A c q yb y K hb sv n fa no sc steps p).at_ S w) :
    Calls Tryz.prog 7 #[.pointer (some ⟨hb, 0, none⟩), .int .i64 0] w fun e w' => ∃ (h' : Hq) (y' : Yc) (K' : Thing), (e = .returned (tkV 0 rs0) ∧ HqOk q h' ∧ CyOk c q.bn y' K') ∧ Goes (Hp A c { q with h := h' } yb y' K' hb sv n fa no sc (wrap64 (steps + 1)) p) S w w' := by
  obtain ⟨sg, so, scap, hsv, _, _⟩ := seq_form (Goes.begin h).l.r.is
  have g0 := ((Goes.begin h).moreSt (St.fresh (tkCells 0 rs0) 43)).moreSt (St.fresh (tkCells (0) rs0) 43)
  rw [World.size_alloc] at g0
  obtain ⟨rb, hrb⟩ : ∃ k, w.heap.size = k := ⟨_, rfl⟩
  obtain ⟨xb, hxb⟩ : ∃ k, rb + 1 = k := ⟨_, rfl⟩
  rw [hrb, hxb] at g0
  have c2 := g0.l.l.l.l.vc 2 (v := sv) rfl
  rw [hsv] at c2
  have c3 := g0.l.l.l.l.vc 3 (v := .int .i64 steps) rfl
  have f3 := g0.l.l.l.l.vf 3
  have g1 : Goes (Sep (Sep (Hp A c q yb y K hb sv n fa no sc (wrap64 (steps + 1)) p) (Var rb (tkCells 0 rs0) 43)) (Var xb (tkCells (0) rs0) 43)) S w _ := g0.then fun S h => goesL (fun S h => goesL (fun S h => goesL (fun S h => goesL (fun S h => (Goes.begin h).vput 3 (.int .i64 (wrap64 (steps + 1))) (cs' := hpCells A.b yb sv (wrap64 (steps + 1))) rfl) S h) S h) S h) S h
  have g2 := g1.drew_
  have c1 := g2.l.l.l.l.vc 1 (v := .pointer (some ⟨yb, 0, none⟩)) rfl
  have c0 := g2.l.l.l.l.vc 0 (v := .pointer (some ⟨A.b, 0, none⟩)) rfl
  have HL := Lib.hid (((((hC _).l (B := Ths c n fa no sc p)).r (B := Sep (Var hb (hpCells A.b yb sv (wrap64 (steps + 1))) 53) (Seq 1 sv n (tptrs fa n)))).lX' (Var rb (tkCells 0 rs0) 43) (Var xb (tkCells 0 rs0) 43)).on g2)
  unfold tkV
  simp only [tkCells, rs0] at *
  clear h hsv g0 g1 g2 hC
  go_enter Tryz.func7, Tryz.ntmps7
  go_upto_region 4 with fail
  generalize (w.alloc _).alloc _ = w1 at *
  go_upto_region 5 with fail
  generalize World.setCell _ _ _ = w2 at *
  clear c2 c3 f3
  go_wp2_with fail
  go_still_tail 9, (by kernel_rfl)
  change wpList _ _ _ _ _ w2.drew
  generalize w2.drew = w3 at *
  go_wp2_with fail
  with_reducible refine HL.out.mono ?_
  rintro e w4 ⟨r, ⟨rfl, h1, h2⟩, hgx⟩
  have hg : Goes (Sep (Sep (Hp A c { q with h := r.1 } yb r.2.1 r.2.2 hb sv n fa no sc (wrap64 (steps + 1)) p) (Var rb #[.int .i64 0, .bool false, .int .i64 0, .int .i64 0, .int .i64 0, .bool false, .complex .f64 0 0] 43)) (Var xb #[.int .i64 0, .bool false, .int .i64 0, .int .i64 0, .int .i64 0, .bool false, .complex .f64 0 0] 43)) S w w4 := hgx
  have H1 := Lib.hid h1
  have H2 := Lib.hid h2
  clear HL hgx c0 c1 h1 h2
  have x0 := hg.r.vc 0 (v := .int .i64 0) rfl
  have r0 := hg.l.r.vc 0 (v := .int .i64 0) rfl
  have f0 := hg.l.r.vf 0
  have x1 := hg.r.vc 1 (v := .bool false) rfl
  have r1 := hg.l.r.vc 1 (v := .bool false) rfl
  have f1 := hg.l.r.vf 1
  have x2 := hg.r.vc 2 (v := .int .i64 0) rfl
  have r2 := hg.l.r.vc 2 (v := .int .i64 0) rfl
  have f2 := hg.l.r.vf 2
  have x3 := hg.r.vc 3 (v := .int .i64 0) rfl
  have r3 := hg.l.r.vc 3 (v := .int .i64 0) rfl
  have f3 := hg.l.r.vf 3
  have x4 := hg.r.vc 4 (v := .int .i64 0) rfl
  have r4 := hg.l.r.vc 4 (v := .int .i64 0) rfl
  have f4 := hg.l.r.vf 4
  have x5 := hg.r.vc 5 (v := .bool false) rfl
  have r5 := hg.l.r.vc 5 (v := .bool false) rfl
  have f5 := hg.l.r.vf 5
  have x6 := hg.r.vc 6 (v := .complex .f64 0 0) rfl
  have r6 := hg.l.r.vc 6 (v := .complex .f64 0 0) rfl
  have f6 := hg.l.r.vf 6
  have gz := hg.then fun S h => goesL (fun S h => goesR (fun S h => (((((((Goes.begin h).vput 0 (.int .i64 0) (cs' := #[.int .i64 0, .bool false, .int .i64 0, .int .i64 0, .int .i64 0, .bool false, .complex .f64 0 0]) rfl).vput 1 (.bool false) (cs' := #[.int .i64 0, .bool false, .int .i64 0, .int .i64 0, .int .i64 0, .bool false, .complex .f64 0 0]) rfl).vput 2 (.int .i64 0) (cs' := #[.int .i64 0, .bool false, .int .i64 0, .int .i64 0, .int .i64 0, .bool false, .complex .f64 0 0]) rfl).vput 3 (.int .i64 0) (cs' := #[.int .i64 0, .bool false, .int .i64 0, .int .i64 0, .int .i64 0, .bool false, .complex .f64 0 0]) rfl).vput 4 (.int .i64 0) (cs' := #[.int .i64 0, .bool false, .int .i64 0, .int .i64 0, .int .i64 0, .bool false, .complex .f64 0 0]) rfl).vput 5 (.bool false) (cs' := #[.int .i64 0, .bool false, .int .i64 0, .int .i64 0, .int .i64 0, .bool false, .complex .f64 0 0]) rfl).vput 6 (.complex .f64 0 0) (cs' := #[.int .i64 0, .bool false, .int .i64 0, .int .i64 0, .int .i64 0, .bool false, .complex .f64 0 0]) rfl) S h) S h
  have k0 := gz.l.r.vc 0 (v := .int .i64 0) rfl
  have k1 := gz.l.r.vc 1 (v := .bool false) rfl
  have k2 := gz.l.r.vc 2 (v := .int .i64 0) rfl
  have k3 := gz.l.r.vc 3 (v := .int .i64 0) rfl
  have k4 := gz.l.r.vc 4 (v := .int .i64 0) rfl
  have k5 := gz.l.r.vc 5 (v := .bool false) rfl
  have k6 := gz.l.r.vc 6 (v := .complex .f64 0 0) rfl
  have HF := Lib.hid gz.l.l
  clear gz hg
  go_wp2_with fail
  (try rw [via_ret])
  exact bodyPost_ret (v := .agg #[.int .i64 0, .bool false, .int .i64 0, .int .i64 0, .int .i64 0, .bool false, .complex .f64 0 0]) (by simp [results, Tryz.results7, go_sem, k0, k1, k2, k3, k4, k5, k6]) rfl ⟨_, _, _, ⟨rfl, H1.out, H2.out⟩, HF.out⟩
end
end Go.Proofs.YtnkgnhpapcnebaaGreat
