/- A thread: whether a value among some is what is looked for; of none, and of one. -/
import Derived.Test.YtnkgnhpapcnebaaGreatM17
import Derived.Test.YtnkgnhpapcnebaaGreatM29
set_option linter.unusedVariables false
set_option linter.unusedSimpArgs false
set_option maxHeartbeats 8000000
namespace Go.Proofs.YtnkgnhpapcnebaaGreat
open Go.RowKit
attribute [local go_sem] run_store_complex via_ret via_normal via_exit via_panic
section
variable {O : Thing} {S : Nat → Prop} {w w' : World} {tb g : Nat}
set_option maxRecDepth 100000 in
theorem val_index_nil (caps : Array Value) (f : Nat) (h : O.at_ S w) :
    Calls Tryz.prog 281 #[.slice none 0 0, .func (.func f) #[] caps] w fun e w' => e = .returned (.int .i64 (-1)) ∧ Goes O S w w' := by
  have HH := Lib.hid h
  clear h
  go_enter Tryz.func281, Tryz.ntmps281
  go_wp2_with fail
  go_loopw [5, 8] (fun u i wr => i = .int .i64 0 ∧ Goes O S w wr) (fun _ _ _ => 0)
  case atStart => exact ⟨rfl, Goes.same HH.out⟩
  case round =>
    obtain ⟨rfl, hb⟩ := hrel
    go_wp2_with fail
    go_ret
    exact ⟨rfl, hb⟩
set_option maxRecDepth 100000 in
theorem val_has_nil (caps : Array Value) (f : Nat) (h : O.at_ S w) :
    Calls Tryz.prog 231 #[.slice none 0 0, .func (.func f) #[] caps] w fun e w' => e = .returned (.bool false) ∧ Goes O S w w' := by
  have HI := Lib.hid (val_index_nil caps f h)
  clear h
  go_enter Tryz.func231, Tryz.ntmps231
  go_wp2_with fail
  with_reducible refine (HI.out).mono ?_
  rintro e w' ⟨rfl, hb⟩
  go_wp2_with fail
  go_ret
  exact ⟨rfl, hb⟩
set_option maxRecDepth 100000 in
theorem val_index_one1 {a r : Bool} {z1 z2 : Nat}  (p : Value) (h : O.at_ S w) (hc : ∀ w', Goes O S w w' → w'.cell? ⟨g, 0, none⟩ = some (.bool a) ∧ w'.cell? ⟨g, 1, none⟩ = some (.complex .f64 z1 z2))
    (hF : ∀ w', Goes O S w w' → Calls Tryz.prog 232 #[.agg #[.bool a, .complex .f64 z1 z2], p] w' fun e w2 => e = .returned (.bool r) ∧ Goes O S w w2) :
    Calls Tryz.prog 281 #[.slice (some ⟨g, 0, none⟩) 1 1, .func (.func 232) #[] #[p]] w fun e w' => e = .returned (.int .i64 (if r then 0 else -1)) ∧ Goes O S w w' := by
  have HH := Lib.hid h
  have HC := Lib.hid hc
  have HF := Lib.hid hF
  clear h hc hF
  go_enter Tryz.func281, Tryz.ntmps281
  go_wp2_with fail
  go_loopw [5, 8] (fun u i wr => (i = .int .i64 0 ∨ i = .int .i64 1 ∧ r = false) ∧ Goes O S w wr) (fun _ i _ => 1 - (intOf i).toNat)
  case atStart => exact ⟨.inl rfl, Goes.same HH.out⟩
  case round =>
    obtain ⟨hi, hb⟩ := hrel
    rcases hi with rfl | ⟨rfl, rfl⟩
    · obtain ⟨c0, c1⟩ := HC.out _ hb
      have HB := Lib.hid hb
      clear hb
      go_wp2_with fail
      with_reducible refine (HF.out _ HB.out).mono ?_
      rintro e w3 ⟨rfl, hb⟩
      clear HB
      cases r with
      | true =>
        go_wp2_with fail
        go_ret
        exact ⟨rfl, hb⟩
      | false =>
        go_wp2_with fail
        go_round
        case rel => exact ⟨.inr ⟨rfl, trivial⟩, hb⟩
        case measure => decide
    · go_wp2_with fail
      go_ret
      exact ⟨rfl, hb⟩
set_option maxRecDepth 100000 in
theorem val_has_one1 {a r : Bool} {z1 z2 : Nat}  (p : Value) (h : O.at_ S w) (hc : ∀ w', Goes O S w w' → w'.cell? ⟨g, 0, none⟩ = some (.bool a) ∧ w'.cell? ⟨g, 1, none⟩ = some (.complex .f64 z1 z2))
    (hF : ∀ w', Goes O S w w' → Calls Tryz.prog 232 #[.agg #[.bool a, .complex .f64 z1 z2], p] w' fun e w2 => e = .returned (.bool r) ∧ Goes O S w w2) :
    Calls Tryz.prog 231 #[.slice (some ⟨g, 0, none⟩) 1 1, .func (.func 232) #[] #[p]] w fun e w' => e = .returned (.bool r) ∧ Goes O S w w' := by
  have HI := Lib.hid (val_index_one1 p h hc hF)
  clear h hc hF
  cases r with
  | true =>
    go_enter Tryz.func231, Tryz.ntmps231
    go_wp2_with fail
    with_reducible refine (HI.out).mono ?_
    rintro e w' ⟨rfl, hb⟩
    go_wp2_with fail
    go_ret
    exact ⟨rfl, hb⟩
  | false =>
    go_enter Tryz.func231, Tryz.ntmps231
    go_wp2_with fail
    with_reducible refine (HI.out).mono ?_
    rintro e w' ⟨rfl, hb⟩
    go_wp2_with fail
    go_ret
    exact ⟨rfl, hb⟩
set_option maxRecDepth 100000 in
theorem val_index_one0 {a r : Bool} {z1 z2 : Nat}  (h : O.at_ S w) (hc : ∀ w', Goes O S w w' → w'.cell? ⟨g, 0, none⟩ = some (.bool a) ∧ w'.cell? ⟨g, 1, none⟩ = some (.complex .f64 z1 z2))
    (hF : ∀ w', Goes O S w w' → Calls Tryz.prog 233 #[.agg #[.bool a, .complex .f64 z1 z2]] w' fun e w2 => e = .returned (.bool r) ∧ Goes O S w w2) :
    Calls Tryz.prog 281 #[.slice (some ⟨g, 0, none⟩) 1 1, .func (.func 233) #[] #[]] w fun e w' => e = .returned (.int .i64 (if r then 0 else -1)) ∧ Goes O S w w' := by
  have HH := Lib.hid h
  have HC := Lib.hid hc
  have HF := Lib.hid hF
  clear h hc hF
  go_enter Tryz.func281, Tryz.ntmps281
  go_wp2_with fail
  go_loopw [5, 8] (fun u i wr => (i = .int .i64 0 ∨ i = .int .i64 1 ∧ r = false) ∧ Goes O S w wr) (fun _ i _ => 1 - (intOf i).toNat)
  case atStart => exact ⟨.inl rfl, Goes.same HH.out⟩
  case round =>
    obtain ⟨hi, hb⟩ := hrel
    rcases hi with rfl | ⟨rfl, rfl⟩
    · obtain ⟨c0, c1⟩ := HC.out _ hb
      have HB := Lib.hid hb
      clear hb
      go_wp2_with fail
      with_reducible refine (HF.out _ HB.out).mono ?_
      rintro e w3 ⟨rfl, hb⟩
      clear HB
      cases r with
      | true =>
        go_wp2_with fail
        go_ret
        exact ⟨rfl, hb⟩
      | false =>
        go_wp2_with fail
        go_round
        case rel => exact ⟨.inr ⟨rfl, trivial⟩, hb⟩
        case measure => decide
    · go_wp2_with fail
      go_ret
      exact ⟨rfl, hb⟩
set_option maxRecDepth 100000 in
theorem val_has_one0 {a r : Bool} {z1 z2 : Nat}  (h : O.at_ S w) (hc : ∀ w', Goes O S w w' → w'.cell? ⟨g, 0, none⟩ = some (.bool a) ∧ w'.cell? ⟨g, 1, none⟩ = some (.complex .f64 z1 z2))
    (hF : ∀ w', Goes O S w w' → Calls Tryz.prog 233 #[.agg #[.bool a, .complex .f64 z1 z2]] w' fun e w2 => e = .returned (.bool r) ∧ Goes O S w w2) :
    Calls Tryz.prog 231 #[.slice (some ⟨g, 0, none⟩) 1 1, .func (.func 233) #[] #[]] w fun e w' => e = .returned (.bool r) ∧ Goes O S w w' := by
  have HI := Lib.hid (val_index_one0 h hc hF)
  clear h hc hF
  cases r with
  | true =>
    go_enter Tryz.func231, Tryz.ntmps231
    go_wp2_with fail
    with_reducible refine (HI.out).mono ?_
    rintro e w' ⟨rfl, hb⟩
    go_wp2_with fail
    go_ret
    exact ⟨rfl, hb⟩
  | false =>
    go_enter Tryz.func231, Tryz.ntmps231
    go_wp2_with fail
    with_reducible refine (HI.out).mono ?_
    rintro e w' ⟨rfl, hb⟩
    go_wp2_with fail
    go_ret
    exact ⟨rfl, hb⟩
set_option maxRecDepth 100000 in
theorem ops1 {t r : Bool} {z1 z2 : Nat} (h : O.at_ S w) (ht : ∀ w', Goes O S w w' → w'.cell? ⟨tb, 0, none⟩ = some (.bool t)) :
    Calls Tryz.prog 232 #[.agg #[.bool r, .complex .f64 z1 z2], .pointer (some ⟨tb, 0, none⟩)] w fun e w' => e = .returned (.bool (!(r == t))) ∧ Goes O S w w' := by
  have g1 := (Goes.begin h).moreSt (St.fresh #[.bool r, .complex .f64 z1 z2] 39)
  obtain ⟨vb, hvb⟩ : ∃ k, w.heap.size = k := ⟨_, rfl⟩
  rw [hvb] at g1
  have v0 := g1.r.vc 0 (v := .bool r) rfl
  have t0 := ht _ g1.l
  have HG := Lib.hid g1.l
  clear h ht g1
  go_enter Tryz.func232, Tryz.ntmps232
  go_upto_region 1 with fail
  generalize w.alloc _ = w1 at *
  go_wp2_with fail
  go_ret
  exact ⟨rfl, HG.out⟩
set_option maxRecDepth 100000 in
theorem ops2 {r : Bool} {k i : Nat} (hk : k ≤ 17) (hi : i ≤ 17) (h : O.at_ S w) :
    Calls Tryz.prog 233 #[.agg #[.bool r, cx k i]] w fun e w' => e = .returned (.bool (k == 0 && i == 1)) ∧ Goes O S w w' := by
  have g1 := (Goes.begin h).moreSt (St.fresh #[.bool r, cx k i] 39)
  obtain ⟨vb, hvb⟩ : ∃ k, w.heap.size = k := ⟨_, rfl⟩
  rw [hvb] at g1
  have v1 := g1.drew_.r.vc 1 (v := cx k i) rfl
  have HG := Lib.hid g1.drew_.l
  have HS := Lib.hid fun w => num_same_cx k i 0 1 w hk hi (by omega) (by omega)
  have HN := Lib.hid fun w => word_none w
  clear h g1 hk hi
  unfold vNone cx at *
  go_enter Tryz.func233, Tryz.ntmps233
  go_upto_region 1 with fail
  generalize w.alloc _ = w1 at *
  go_still_tail 4, (by kernel_rfl)
  still_call (HN.out _).mono fun e w' ⟨h1, h2⟩ => ⟨h1, h2.symm⟩
  still_call (HS.out _).mono fun e w' ⟨h1, h2⟩ => ⟨h1, h2.symm⟩
  repeat still_step
  refine wpStill_nil ?_
  go_wp2_with fail
  go_ret
  exact ⟨rfl, HG.out⟩
end
end Go.Proofs.YtnkgnhpapcnebaaGreat
/- A thread: what is wrong with the operands of an operation, by its kind. -/
namespace Go.Proofs.YtnkgnhpapcnebaaGreat
open Go.RowKit
attribute [local go_sem] run_store_complex via_ret via_normal via_exit via_panic
/-- What is wrong with a reference that must be there. -/
def opE (v : Lc) : Int := if v.ref then (if v.k == 0 && v.i == 1 then 3 else 0) else 4
section
variable {b t : Nat} {ov lv : Value} {x : Tc} {X : Thing} {S : Nat → Prop} {w w' : World} {lg n : Nat} {l : Nat → Lc}
set_option maxRecDepth 100000 in
theorem act_operands1 {o : Opn} (hk : o.kd = 1) (h : (LThr b t ov lg n x l X).at_ S w) :
    Calls Tryz.prog 168 #[.pointer (some ⟨b, 0, none⟩), .agg (opc o)] w fun e w' => e = .returned (.int .i64 0) ∧ Goes (LThr b t ov lg n x l X) S w w' := by
  have hoc : opc o = #[.int .i64 1, .int .i64 (o.a : Int), .int .i64 (o.b : Int), .int .i64 (o.c : Int), .int .i64 (o.n : Int), .complex .f64 o.z1 o.z2] := by unfold opc; rw [hk]; rfl
  rw [hoc]
  have ga := (Goes.begin h).moreSt (St.fresh #[.int .i64 1, .int .i64 (o.a : Int), .int .i64 (o.b : Int), .int .i64 (o.c : Int), .int .i64 (o.n : Int), .complex .f64 o.z1 o.z2] 26)
  have c2a := ga.l.c 2 (v := .slice (some ⟨lg, 0, none⟩) n n) rfl
  clear ga
  have g0 := ((Goes.begin h).moreSt (St.fresh #[.int .i64 1, .int .i64 (o.a : Int), .int .i64 (o.b : Int), .int .i64 (o.c : Int), .int .i64 (o.n : Int), .complex .f64 o.z1 o.z2] 26)).moreSt (St.fresh #[.bool true] 4)
  rw [World.size_alloc] at g0
  obtain ⟨vb, hvb⟩ : ∃ k, w.heap.size = k := ⟨_, rfl⟩
  obtain ⟨tb, htb⟩ : ∃ k, vb + 1 = k := ⟨_, rfl⟩
  rw [hvb, htb] at g0
  have c2 := g0.l.l.c 2 (v := .slice (some ⟨lg, 0, none⟩) n n) rfl
  have o0 := g0.l.r.vc 0 (v := .int .i64 1) rfl
  have t0 := g0.r.vc 0 (v := .bool true) rfl
  have HH := Lib.hid (g0.call (fun S h => val_has_nil #[.pointer (some ⟨tb, 0, none⟩)] 232 h))
  have HH2 := Lib.hid (fun w w' (g : Goes (Sep (Sep (LThr b t ov lg n x l X) (Var vb #[.int .i64 1, .int .i64 (o.a : Int), .int .i64 (o.b : Int), .int .i64 (o.c : Int), .int .i64 (o.n : Int), .complex .f64 o.z1 o.z2] 26)) (Var tb #[.bool true] 4)) S w w') => g.call (fun S h => val_has_nil #[] 233 h))
  clear h g0 hoc hk
  go_enter Tryz.func168, Tryz.ntmps168
  go_upto_region 4 with fail
  generalize (w.alloc _).alloc _ = w1 at *
  go_wp2_with fail
  with_reducible refine HH.out.mono ?_
  rintro e w2 ⟨rfl, hg⟩
  have HC := Lib.hid (HH2.out _ _ hg)
  clear HH HH2 hg c2 o0 t0 c2a
  go_wp2_with fail
  with_reducible refine HC.out.mono ?_
  rintro e w3 ⟨rfl, hg⟩
  clear HC
  go_wp2_with fail
  go_ret
  exact ⟨rfl, hg.l.l⟩
set_option maxRecDepth 100000 in
theorem act_operands7 {o : Opn} (hk : o.kd = 7) (h : (LThr b t ov lg n x l X).at_ S w) :
    Calls Tryz.prog 168 #[.pointer (some ⟨b, 0, none⟩), .agg (opc o)] w fun e w' => e = .returned (.int .i64 0) ∧ Goes (LThr b t ov lg n x l X) S w w' := by
  have hoc : opc o = #[.int .i64 7, .int .i64 (o.a : Int), .int .i64 (o.b : Int), .int .i64 (o.c : Int), .int .i64 (o.n : Int), .complex .f64 o.z1 o.z2] := by unfold opc; rw [hk]; rfl
  rw [hoc]
  have ga := (Goes.begin h).moreSt (St.fresh #[.int .i64 7, .int .i64 (o.a : Int), .int .i64 (o.b : Int), .int .i64 (o.c : Int), .int .i64 (o.n : Int), .complex .f64 o.z1 o.z2] 26)
  have c2a := ga.l.c 2 (v := .slice (some ⟨lg, 0, none⟩) n n) rfl
  clear ga
  have g0 := ((Goes.begin h).moreSt (St.fresh #[.int .i64 7, .int .i64 (o.a : Int), .int .i64 (o.b : Int), .int .i64 (o.c : Int), .int .i64 (o.n : Int), .complex .f64 o.z1 o.z2] 26)).moreSt (St.fresh #[.bool true] 4)
  rw [World.size_alloc] at g0
  obtain ⟨vb, hvb⟩ : ∃ k, w.heap.size = k := ⟨_, rfl⟩
  obtain ⟨tb, htb⟩ : ∃ k, vb + 1 = k := ⟨_, rfl⟩
  rw [hvb, htb] at g0
  have c2 := g0.l.l.c 2 (v := .slice (some ⟨lg, 0, none⟩) n n) rfl
  have o0 := g0.l.r.vc 0 (v := .int .i64 7) rfl
  have t0 := g0.r.vc 0 (v := .bool true) rfl
  have HH := Lib.hid (g0.call (fun S h => val_has_nil #[.pointer (some ⟨tb, 0, none⟩)] 232 h))
  have HH2 := Lib.hid (fun w w' (g : Goes (Sep (Sep (LThr b t ov lg n x l X) (Var vb #[.int .i64 7, .int .i64 (o.a : Int), .int .i64 (o.b : Int), .int .i64 (o.c : Int), .int .i64 (o.n : Int), .complex .f64 o.z1 o.z2] 26)) (Var tb #[.bool true] 4)) S w w') => g.call (fun S h => val_has_nil #[] 233 h))
  clear h g0 hoc hk
  go_enter Tryz.func168, Tryz.ntmps168
  go_upto_region 4 with fail
  generalize (w.alloc _).alloc _ = w1 at *
  go_wp2_with fail
  with_reducible refine HH.out.mono ?_
  rintro e w2 ⟨rfl, hg⟩
  have HC := Lib.hid (HH2.out _ _ hg)
  clear HH HH2 hg c2 o0 t0 c2a
  go_wp2_with fail
  with_reducible refine HC.out.mono ?_
  rintro e w3 ⟨rfl, hg⟩
  clear HC
  go_wp2_with fail
  go_ret
  exact ⟨rfl, hg.l.l⟩
set_option maxRecDepth 100000 in
theorem act_operands12 {o : Opn} (hk : o.kd = 12) (h : (LThr b t ov lg n x l X).at_ S w) :
    Calls Tryz.prog 168 #[.pointer (some ⟨b, 0, none⟩), .agg (opc o)] w fun e w' => e = .returned (.int .i64 0) ∧ Goes (LThr b t ov lg n x l X) S w w' := by
  have hoc : opc o = #[.int .i64 12, .int .i64 (o.a : Int), .int .i64 (o.b : Int), .int .i64 (o.c : Int), .int .i64 (o.n : Int), .complex .f64 o.z1 o.z2] := by unfold opc; rw [hk]; rfl
  rw [hoc]
  have ga := (Goes.begin h).moreSt (St.fresh #[.int .i64 12, .int .i64 (o.a : Int), .int .i64 (o.b : Int), .int .i64 (o.c : Int), .int .i64 (o.n : Int), .complex .f64 o.z1 o.z2] 26)
  have c2a := ga.l.c 2 (v := .slice (some ⟨lg, 0, none⟩) n n) rfl
  clear ga
  have g0 := ((Goes.begin h).moreSt (St.fresh #[.int .i64 12, .int .i64 (o.a : Int), .int .i64 (o.b : Int), .int .i64 (o.c : Int), .int .i64 (o.n : Int), .complex .f64 o.z1 o.z2] 26)).moreSt (St.fresh #[.bool true] 4)
  rw [World.size_alloc] at g0
  obtain ⟨vb, hvb⟩ : ∃ k, w.heap.size = k := ⟨_, rfl⟩
  obtain ⟨tb, htb⟩ : ∃ k, vb + 1 = k := ⟨_, rfl⟩
  rw [hvb, htb] at g0
  have c2 := g0.l.l.c 2 (v := .slice (some ⟨lg, 0, none⟩) n n) rfl
  have o0 := g0.l.r.vc 0 (v := .int .i64 12) rfl
  have t0 := g0.r.vc 0 (v := .bool true) rfl
  have HH := Lib.hid (g0.call (fun S h => val_has_nil #[.pointer (some ⟨tb, 0, none⟩)] 232 h))
  have HH2 := Lib.hid (fun w w' (g : Goes (Sep (Sep (LThr b t ov lg n x l X) (Var vb #[.int .i64 12, .int .i64 (o.a : Int), .int .i64 (o.b : Int), .int .i64 (o.c : Int), .int .i64 (o.n : Int), .complex .f64 o.z1 o.z2] 26)) (Var tb #[.bool true] 4)) S w w') => g.call (fun S h => val_has_nil #[] 233 h))
  clear h g0 hoc hk
  go_enter Tryz.func168, Tryz.ntmps168
  go_upto_region 4 with fail
  generalize (w.alloc _).alloc _ = w1 at *
  go_wp2_with fail
  with_reducible refine HH.out.mono ?_
  rintro e w2 ⟨rfl, hg⟩
  have HC := Lib.hid (HH2.out _ _ hg)
  clear HH HH2 hg c2 o0 t0 c2a
  go_wp2_with fail
  with_reducible refine HC.out.mono ?_
  rintro e w3 ⟨rfl, hg⟩
  clear HC
  go_wp2_with fail
  go_ret
  exact ⟨rfl, hg.l.l⟩
set_option maxRecDepth 100000 in
theorem act_operands13 {o : Opn} (hk : o.kd = 13) (h : (LThr b t ov lg n x l X).at_ S w) :
    Calls Tryz.prog 168 #[.pointer (some ⟨b, 0, none⟩), .agg (opc o)] w fun e w' => e = .returned (.int .i64 0) ∧ Goes (LThr b t ov lg n x l X) S w w' := by
  have hoc : opc o = #[.int .i64 13, .int .i64 (o.a : Int), .int .i64 (o.b : Int), .int .i64 (o.c : Int), .int .i64 (o.n : Int), .complex .f64 o.z1 o.z2] := by unfold opc; rw [hk]; rfl
  rw [hoc]
  have ga := (Goes.begin h).moreSt (St.fresh #[.int .i64 13, .int .i64 (o.a : Int), .int .i64 (o.b : Int), .int .i64 (o.c : Int), .int .i64 (o.n : Int), .complex .f64 o.z1 o.z2] 26)
  have c2a := ga.l.c 2 (v := .slice (some ⟨lg, 0, none⟩) n n) rfl
  clear ga
  have g0 := ((Goes.begin h).moreSt (St.fresh #[.int .i64 13, .int .i64 (o.a : Int), .int .i64 (o.b : Int), .int .i64 (o.c : Int), .int .i64 (o.n : Int), .complex .f64 o.z1 o.z2] 26)).moreSt (St.fresh #[.bool true] 4)
  rw [World.size_alloc] at g0
  obtain ⟨vb, hvb⟩ : ∃ k, w.heap.size = k := ⟨_, rfl⟩
  obtain ⟨tb, htb⟩ : ∃ k, vb + 1 = k := ⟨_, rfl⟩
  rw [hvb, htb] at g0
  have c2 := g0.l.l.c 2 (v := .slice (some ⟨lg, 0, none⟩) n n) rfl
  have o0 := g0.l.r.vc 0 (v := .int .i64 13) rfl
  have t0 := g0.r.vc 0 (v := .bool true) rfl
  have HH := Lib.hid (g0.call (fun S h => val_has_nil #[.pointer (some ⟨tb, 0, none⟩)] 232 h))
  have HH2 := Lib.hid (fun w w' (g : Goes (Sep (Sep (LThr b t ov lg n x l X) (Var vb #[.int .i64 13, .int .i64 (o.a : Int), .int .i64 (o.b : Int), .int .i64 (o.c : Int), .int .i64 (o.n : Int), .complex .f64 o.z1 o.z2] 26)) (Var tb #[.bool true] 4)) S w w') => g.call (fun S h => val_has_nil #[] 233 h))
  clear h g0 hoc hk
  go_enter Tryz.func168, Tryz.ntmps168
  go_upto_region 4 with fail
  generalize (w.alloc _).alloc _ = w1 at *
  go_wp2_with fail
  with_reducible refine HH.out.mono ?_
  rintro e w2 ⟨rfl, hg⟩
  have HC := Lib.hid (HH2.out _ _ hg)
  clear HH HH2 hg c2 o0 t0 c2a
  go_wp2_with fail
  with_reducible refine HC.out.mono ?_
  rintro e w3 ⟨rfl, hg⟩
  clear HC
  go_wp2_with fail
  go_ret
  exact ⟨rfl, hg.l.l⟩
set_option maxRecDepth 100000 in
theorem act_operands3 {o : Opn} {j : Nat} (hk : o.kd = 3) (hjo : o.b = j) (hj : j < n) (hs : (l j).k ≤ 17 ∧ (l j).i ≤ 17) (h : (LThr b t ov lg n x l X).at_ S w) :
    Calls Tryz.prog 168 #[.pointer (some ⟨b, 0, none⟩), .agg (opc o)] w fun e w' => e = .returned (.int .i64 (opE (l j))) ∧ Goes (LThr b t ov lg n x l X) S w w' := by
  have hoc : opc o = #[.int .i64 3, .int .i64 (o.a : Int), .int .i64 (j : Int), .int .i64 (o.c : Int), .int .i64 (o.n : Int), .complex .f64 o.z1 o.z2] := by unfold opc; rw [hk, hjo]; rfl
  rw [hoc]
  have ga := (Goes.begin h).moreSt (St.fresh #[.int .i64 3, .int .i64 (o.a : Int), .int .i64 (j : Int), .int .i64 (o.c : Int), .int .i64 (o.n : Int), .complex .f64 o.z1 o.z2] 26)
  have c2a := ga.l.c 2 (v := .slice (some ⟨lg, 0, none⟩) n n) rfl
  clear ga
  have g0 := ((Goes.begin h).moreSt (St.fresh #[.int .i64 3, .int .i64 (o.a : Int), .int .i64 (j : Int), .int .i64 (o.c : Int), .int .i64 (o.n : Int), .complex .f64 o.z1 o.z2] 26)).moreSt (St.fresh #[.bool true] 4)
  rw [World.size_alloc] at g0
  obtain ⟨vb, hvb⟩ : ∃ k, w.heap.size = k := ⟨_, rfl⟩
  obtain ⟨tb, htb⟩ : ∃ k, vb + 1 = k := ⟨_, rfl⟩
  rw [hvb, htb] at g0
  have c2 := g0.l.l.c 2 (v := .slice (some ⟨lg, 0, none⟩) n n) rfl
  have o0 := g0.l.r.vc 0 (v := .int .i64 3) rfl
  have o1 := g0.l.r.vc 2 (v := .int .i64 (j : Int)) rfl
  have t0 := g0.r.vc 0 (v := .bool true) rfl
  obtain ⟨d0, d1⟩ := lthr_cells g0.l.l hj
  have hjn : (j : Int) < (n : Int) := by omega
  have gn := g0.moreSt (St.fresh #[.bool (l j).ref, cx (l j).k (l j).i] 39)
  obtain ⟨g, hsz⟩ : ∃ k, ((w.alloc (.cells #[.int .i64 3, .int .i64 (o.a : Int), .int .i64 (j : Int), .int .i64 (o.c : Int), .int .i64 (o.n : Int), .complex .f64 o.z1 o.z2] 26)).alloc (.cells #[.bool true] 4)).heap.size = k := ⟨_, rfl⟩
  rw [hsz] at gn
  have e1 : ∀ w', Goes (Sep (Sep (Sep (LThr b t ov lg n x l X) (Var vb #[.int .i64 3, .int .i64 (o.a : Int), .int .i64 (j : Int), .int .i64 (o.c : Int), .int .i64 (o.n : Int), .complex .f64 o.z1 o.z2] 26)) (Var tb #[.bool true] 4)) (Var g #[.bool (l j).ref, cx (l j).k (l j).i] 39)) S w w' → w'.cell? ⟨g, 0, none⟩ = some (.bool (l j).ref) ∧ w'.cell? ⟨g, 1, none⟩ = some (cx (l j).k (l j).i) := fun w' h => ⟨h.r.vc 0 rfl, h.r.vc 1 rfl⟩
  have HF := Lib.hid (gn.call fun S' h => val_has_one1 (g := g) (a := (l j).ref) (z1 := fl (l j).k) (z2 := fl (l j).i) (r := !((l j).ref == true)) (.pointer (some ⟨tb, 0, none⟩)) h (fun w' h => ⟨h.r.vc 0 rfl, h.r.vc 1 rfl⟩) (fun w' hw => hw.call fun S2 h2 => ops1 h2 fun w' h => h.l.r.vc 0 rfl))
  have HH2 := Lib.hid (fun w w' (gg : Goes (Sep (Sep (Sep (LThr b t ov lg n x l X) (Var vb #[.int .i64 3, .int .i64 (o.a : Int), .int .i64 (j : Int), .int .i64 (o.c : Int), .int .i64 (o.n : Int), .complex .f64 o.z1 o.z2] 26)) (Var tb #[.bool true] 4)) (Var g #[.bool (l j).ref, cx (l j).k (l j).i] 39)) S w w') => gg.call fun S' h => val_has_one0 (g := g) (a := (l j).ref) (z1 := fl (l j).k) (z2 := fl (l j).i) (r := ((l j).k == 0 && (l j).i == 1)) h (fun w' h => ⟨h.r.vc 0 rfl, h.r.vc 1 rfl⟩) (fun w' hw => hw.call fun S2 h2 => ops2 hs.1 hs.2 h2))
  clear h g0 hoc hk e1 gn hs hjo
  unfold cx opE at *
  generalize ((l j).k == 0 && (l j).i == 1) = bb at *
  generalize (l j).ref = rr at *
  generalize fl (l j).k = y1 at *
  generalize fl (l j).i = y2 at *
  go_enter Tryz.func168, Tryz.ntmps168
  go_upto_region 4 with fail
  generalize (w.alloc _).alloc _ = w1 at *
  go_wp2_with fail
  with_reducible refine HF.out.mono ?_
  rintro e w3 ⟨rfl, hg⟩
  have HG := Lib.hid hg
  cases rr with
  | false =>
    clear HF HH2 hg c2 o0 o1 t0 c2a d0 d1
    go_wp2_with fail
    go_ret
    exact ⟨rfl, HG.out.l.l.l⟩
  | true =>
    clear HF hg c2 o0 o1 t0 c2a d0 d1
    have HC := Lib.hid (HH2.out _ _ HG.out)
    clear HH2 HG
    go_wp2_with fail
    with_reducible refine HC.out.mono ?_
    rintro e w4 ⟨rfl, hg⟩
    clear HC
    cases bb with
    | true =>
      go_wp2_with fail
      go_ret
      exact ⟨rfl, hg.l.l.l⟩
    | false =>
      go_wp2_with fail
      go_ret
      exact ⟨rfl, hg.l.l.l⟩
set_option maxRecDepth 100000 in
theorem act_operands4 {o : Opn} {j : Nat} (hk : o.kd = 4) (hjo : o.a = j) (hj : j < n) (hs : (l j).k ≤ 17 ∧ (l j).i ≤ 17) (h : (LThr b t ov lg n x l X).at_ S w) :
    Calls Tryz.prog 168 #[.pointer (some ⟨b, 0, none⟩), .agg (opc o)] w fun e w' => e = .returned (.int .i64 (opE (l j))) ∧ Goes (LThr b t ov lg n x l X) S w w' := by
  have hoc : opc o = #[.int .i64 4, .int .i64 (j : Int), .int .i64 (o.b : Int), .int .i64 (o.c : Int), .int .i64 (o.n : Int), .complex .f64 o.z1 o.z2] := by unfold opc; rw [hk, hjo]; rfl
  rw [hoc]
  have ga := (Goes.begin h).moreSt (St.fresh #[.int .i64 4, .int .i64 (j : Int), .int .i64 (o.b : Int), .int .i64 (o.c : Int), .int .i64 (o.n : Int), .complex .f64 o.z1 o.z2] 26)
  have c2a := ga.l.c 2 (v := .slice (some ⟨lg, 0, none⟩) n n) rfl
  clear ga
  have g0 := ((Goes.begin h).moreSt (St.fresh #[.int .i64 4, .int .i64 (j : Int), .int .i64 (o.b : Int), .int .i64 (o.c : Int), .int .i64 (o.n : Int), .complex .f64 o.z1 o.z2] 26)).moreSt (St.fresh #[.bool true] 4)
  rw [World.size_alloc] at g0
  obtain ⟨vb, hvb⟩ : ∃ k, w.heap.size = k := ⟨_, rfl⟩
  obtain ⟨tb, htb⟩ : ∃ k, vb + 1 = k := ⟨_, rfl⟩
  rw [hvb, htb] at g0
  have c2 := g0.l.l.c 2 (v := .slice (some ⟨lg, 0, none⟩) n n) rfl
  have o0 := g0.l.r.vc 0 (v := .int .i64 4) rfl
  have o1 := g0.l.r.vc 1 (v := .int .i64 (j : Int)) rfl
  have t0 := g0.r.vc 0 (v := .bool true) rfl
  obtain ⟨d0, d1⟩ := lthr_cells g0.l.l hj
  have hjn : (j : Int) < (n : Int) := by omega
  have gn := g0.moreSt (St.fresh #[.bool (l j).ref, cx (l j).k (l j).i] 39)
  obtain ⟨g, hsz⟩ : ∃ k, ((w.alloc (.cells #[.int .i64 4, .int .i64 (j : Int), .int .i64 (o.b : Int), .int .i64 (o.c : Int), .int .i64 (o.n : Int), .complex .f64 o.z1 o.z2] 26)).alloc (.cells #[.bool true] 4)).heap.size = k := ⟨_, rfl⟩
  rw [hsz] at gn
  have e1 : ∀ w', Goes (Sep (Sep (Sep (LThr b t ov lg n x l X) (Var vb #[.int .i64 4, .int .i64 (j : Int), .int .i64 (o.b : Int), .int .i64 (o.c : Int), .int .i64 (o.n : Int), .complex .f64 o.z1 o.z2] 26)) (Var tb #[.bool true] 4)) (Var g #[.bool (l j).ref, cx (l j).k (l j).i] 39)) S w w' → w'.cell? ⟨g, 0, none⟩ = some (.bool (l j).ref) ∧ w'.cell? ⟨g, 1, none⟩ = some (cx (l j).k (l j).i) := fun w' h => ⟨h.r.vc 0 rfl, h.r.vc 1 rfl⟩
  have HF := Lib.hid (gn.call fun S' h => val_has_one1 (g := g) (a := (l j).ref) (z1 := fl (l j).k) (z2 := fl (l j).i) (r := !((l j).ref == true)) (.pointer (some ⟨tb, 0, none⟩)) h (fun w' h => ⟨h.r.vc 0 rfl, h.r.vc 1 rfl⟩) (fun w' hw => hw.call fun S2 h2 => ops1 h2 fun w' h => h.l.r.vc 0 rfl))
  have HH2 := Lib.hid (fun w w' (gg : Goes (Sep (Sep (Sep (LThr b t ov lg n x l X) (Var vb #[.int .i64 4, .int .i64 (j : Int), .int .i64 (o.b : Int), .int .i64 (o.c : Int), .int .i64 (o.n : Int), .complex .f64 o.z1 o.z2] 26)) (Var tb #[.bool true] 4)) (Var g #[.bool (l j).ref, cx (l j).k (l j).i] 39)) S w w') => gg.call fun S' h => val_has_one0 (g := g) (a := (l j).ref) (z1 := fl (l j).k) (z2 := fl (l j).i) (r := ((l j).k == 0 && (l j).i == 1)) h (fun w' h => ⟨h.r.vc 0 rfl, h.r.vc 1 rfl⟩) (fun w' hw => hw.call fun S2 h2 => ops2 hs.1 hs.2 h2))
  clear h g0 hoc hk e1 gn hs hjo
  unfold cx opE at *
  generalize ((l j).k == 0 && (l j).i == 1) = bb at *
  generalize (l j).ref = rr at *
  generalize fl (l j).k = y1 at *
  generalize fl (l j).i = y2 at *
  go_enter Tryz.func168, Tryz.ntmps168
  go_upto_region 4 with fail
  generalize (w.alloc _).alloc _ = w1 at *
  go_wp2_with fail
  with_reducible refine HF.out.mono ?_
  rintro e w3 ⟨rfl, hg⟩
  have HG := Lib.hid hg
  cases rr with
  | false =>
    clear HF HH2 hg c2 o0 o1 t0 c2a d0 d1
    go_wp2_with fail
    go_ret
    exact ⟨rfl, HG.out.l.l.l⟩
  | true =>
    clear HF hg c2 o0 o1 t0 c2a d0 d1
    have HC := Lib.hid (HH2.out _ _ HG.out)
    clear HH2 HG
    go_wp2_with fail
    with_reducible refine HC.out.mono ?_
    rintro e w4 ⟨rfl, hg⟩
    clear HC
    cases bb with
    | true =>
      go_wp2_with fail
      go_ret
      exact ⟨rfl, hg.l.l.l⟩
    | false =>
      go_wp2_with fail
      go_ret
      exact ⟨rfl, hg.l.l.l⟩
set_option maxRecDepth 100000 in
theorem act_operands11 {o : Opn} {j : Nat} (hk : o.kd = 11) (hjo : o.b = j) (hj : j < n) (hs : (l j).k ≤ 17 ∧ (l j).i ≤ 17) (h : (LThr b t ov lg n x l X).at_ S w) :
    Calls Tryz.prog 168 #[.pointer (some ⟨b, 0, none⟩), .agg (opc o)] w fun e w' => e = .returned (.int .i64 (opE (l j))) ∧ Goes (LThr b t ov lg n x l X) S w w' := by
  have hoc : opc o = #[.int .i64 11, .int .i64 (o.a : Int), .int .i64 (j : Int), .int .i64 (o.c : Int), .int .i64 (o.n : Int), .complex .f64 o.z1 o.z2] := by unfold opc; rw [hk, hjo]; rfl
  rw [hoc]
  have ga := (Goes.begin h).moreSt (St.fresh #[.int .i64 11, .int .i64 (o.a : Int), .int .i64 (j : Int), .int .i64 (o.c : Int), .int .i64 (o.n : Int), .complex .f64 o.z1 o.z2] 26)
  have c2a := ga.l.c 2 (v := .slice (some ⟨lg, 0, none⟩) n n) rfl
  clear ga
  have g0 := ((Goes.begin h).moreSt (St.fresh #[.int .i64 11, .int .i64 (o.a : Int), .int .i64 (j : Int), .int .i64 (o.c : Int), .int .i64 (o.n : Int), .complex .f64 o.z1 o.z2] 26)).moreSt (St.fresh #[.bool true] 4)
  rw [World.size_alloc] at g0
  obtain ⟨vb, hvb⟩ : ∃ k, w.heap.size = k := ⟨_, rfl⟩
  obtain ⟨tb, htb⟩ : ∃ k, vb + 1 = k := ⟨_, rfl⟩
  rw [hvb, htb] at g0
  have c2 := g0.l.l.c 2 (v := .slice (some ⟨lg, 0, none⟩) n n) rfl
  have o0 := g0.l.r.vc 0 (v := .int .i64 11) rfl
  have o1 := g0.l.r.vc 2 (v := .int .i64 (j : Int)) rfl
  have t0 := g0.r.vc 0 (v := .bool true) rfl
  obtain ⟨d0, d1⟩ := lthr_cells g0.l.l hj
  have hjn : (j : Int) < (n : Int) := by omega
  have gn := g0.moreSt (St.fresh #[.bool (l j).ref, cx (l j).k (l j).i] 39)
  obtain ⟨g, hsz⟩ : ∃ k, ((w.alloc (.cells #[.int .i64 11, .int .i64 (o.a : Int), .int .i64 (j : Int), .int .i64 (o.c : Int), .int .i64 (o.n : Int), .complex .f64 o.z1 o.z2] 26)).alloc (.cells #[.bool true] 4)).heap.size = k := ⟨_, rfl⟩
  rw [hsz] at gn
  have e1 : ∀ w', Goes (Sep (Sep (Sep (LThr b t ov lg n x l X) (Var vb #[.int .i64 11, .int .i64 (o.a : Int), .int .i64 (j : Int), .int .i64 (o.c : Int), .int .i64 (o.n : Int), .complex .f64 o.z1 o.z2] 26)) (Var tb #[.bool true] 4)) (Var g #[.bool (l j).ref, cx (l j).k (l j).i] 39)) S w w' → w'.cell? ⟨g, 0, none⟩ = some (.bool (l j).ref) ∧ w'.cell? ⟨g, 1, none⟩ = some (cx (l j).k (l j).i) := fun w' h => ⟨h.r.vc 0 rfl, h.r.vc 1 rfl⟩
  have HF := Lib.hid (gn.call fun S' h => val_has_one1 (g := g) (a := (l j).ref) (z1 := fl (l j).k) (z2 := fl (l j).i) (r := !((l j).ref == true)) (.pointer (some ⟨tb, 0, none⟩)) h (fun w' h => ⟨h.r.vc 0 rfl, h.r.vc 1 rfl⟩) (fun w' hw => hw.call fun S2 h2 => ops1 h2 fun w' h => h.l.r.vc 0 rfl))
  have HH2 := Lib.hid (fun w w' (gg : Goes (Sep (Sep (Sep (LThr b t ov lg n x l X) (Var vb #[.int .i64 11, .int .i64 (o.a : Int), .int .i64 (j : Int), .int .i64 (o.c : Int), .int .i64 (o.n : Int), .complex .f64 o.z1 o.z2] 26)) (Var tb #[.bool true] 4)) (Var g #[.bool (l j).ref, cx (l j).k (l j).i] 39)) S w w') => gg.call fun S' h => val_has_one0 (g := g) (a := (l j).ref) (z1 := fl (l j).k) (z2 := fl (l j).i) (r := ((l j).k == 0 && (l j).i == 1)) h (fun w' h => ⟨h.r.vc 0 rfl, h.r.vc 1 rfl⟩) (fun w' hw => hw.call fun S2 h2 => ops2 hs.1 hs.2 h2))
  clear h g0 hoc hk e1 gn hs hjo
  unfold cx opE at *
  generalize ((l j).k == 0 && (l j).i == 1) = bb at *
  generalize (l j).ref = rr at *
  generalize fl (l j).k = y1 at *
  generalize fl (l j).i = y2 at *
  go_enter Tryz.func168, Tryz.ntmps168
  go_upto_region 4 with fail
  generalize (w.alloc _).alloc _ = w1 at *
  go_wp2_with fail
  with_reducible refine HF.out.mono ?_
  rintro e w3 ⟨rfl, hg⟩
  have HG := Lib.hid hg
  cases rr with
  | false =>
    clear HF HH2 hg c2 o0 o1 t0 c2a d0 d1
    go_wp2_with fail
    go_ret
    exact ⟨rfl, HG.out.l.l.l⟩
  | true =>
    clear HF hg c2 o0 o1 t0 c2a d0 d1
    have HC := Lib.hid (HH2.out _ _ HG.out)
    clear HH2 HG
    go_wp2_with fail
    with_reducible refine HC.out.mono ?_
    rintro e w4 ⟨rfl, hg⟩
    clear HC
    cases bb with
    | true =>
      go_wp2_with fail
      go_ret
      exact ⟨rfl, hg.l.l.l⟩
    | false =>
      go_wp2_with fail
      go_ret
      exact ⟨rfl, hg.l.l.l⟩
set_option maxRecDepth 100000 in
theorem act_operands8 {o : Opn} {j : Nat} (hk : o.kd = 8) (hjo : o.b = j) (hj : j < n) (hs : (l j).k ≤ 17 ∧ (l j).i ≤ 17) (h : (LThr b t ov lg n x l X).at_ S w) :
    Calls Tryz.prog 168 #[.pointer (some ⟨b, 0, none⟩), .agg (opc o)] w fun e w' => e = .returned (.int .i64 ((if (l j).ref then 0 else 4))) ∧ Goes (LThr b t ov lg n x l X) S w w' := by
  have hoc : opc o = #[.int .i64 8, .int .i64 (o.a : Int), .int .i64 (j : Int), .int .i64 (o.c : Int), .int .i64 (o.n : Int), .complex .f64 o.z1 o.z2] := by unfold opc; rw [hk, hjo]; rfl
  rw [hoc]
  have ga := (Goes.begin h).moreSt (St.fresh #[.int .i64 8, .int .i64 (o.a : Int), .int .i64 (j : Int), .int .i64 (o.c : Int), .int .i64 (o.n : Int), .complex .f64 o.z1 o.z2] 26)
  have c2a := ga.l.c 2 (v := .slice (some ⟨lg, 0, none⟩) n n) rfl
  clear ga
  have g0 := ((Goes.begin h).moreSt (St.fresh #[.int .i64 8, .int .i64 (o.a : Int), .int .i64 (j : Int), .int .i64 (o.c : Int), .int .i64 (o.n : Int), .complex .f64 o.z1 o.z2] 26)).moreSt (St.fresh #[.bool true] 4)
  rw [World.size_alloc] at g0
  obtain ⟨vb, hvb⟩ : ∃ k, w.heap.size = k := ⟨_, rfl⟩
  obtain ⟨tb, htb⟩ : ∃ k, vb + 1 = k := ⟨_, rfl⟩
  rw [hvb, htb] at g0
  have c2 := g0.l.l.c 2 (v := .slice (some ⟨lg, 0, none⟩) n n) rfl
  have o0 := g0.l.r.vc 0 (v := .int .i64 8) rfl
  have o1 := g0.l.r.vc 2 (v := .int .i64 (j : Int)) rfl
  have t0 := g0.r.vc 0 (v := .bool true) rfl
  obtain ⟨d0, d1⟩ := lthr_cells g0.l.l hj
  have hjn : (j : Int) < (n : Int) := by omega
  have gn := g0.moreSt (St.fresh #[.bool (l j).ref, cx (l j).k (l j).i] 39)
  obtain ⟨g, hsz⟩ : ∃ k, ((w.alloc (.cells #[.int .i64 8, .int .i64 (o.a : Int), .int .i64 (j : Int), .int .i64 (o.c : Int), .int .i64 (o.n : Int), .complex .f64 o.z1 o.z2] 26)).alloc (.cells #[.bool true] 4)).heap.size = k := ⟨_, rfl⟩
  rw [hsz] at gn
  have e1 : ∀ w', Goes (Sep (Sep (Sep (LThr b t ov lg n x l X) (Var vb #[.int .i64 8, .int .i64 (o.a : Int), .int .i64 (j : Int), .int .i64 (o.c : Int), .int .i64 (o.n : Int), .complex .f64 o.z1 o.z2] 26)) (Var tb #[.bool true] 4)) (Var g #[.bool (l j).ref, cx (l j).k (l j).i] 39)) S w w' → w'.cell? ⟨g, 0, none⟩ = some (.bool (l j).ref) ∧ w'.cell? ⟨g, 1, none⟩ = some (cx (l j).k (l j).i) := fun w' h => ⟨h.r.vc 0 rfl, h.r.vc 1 rfl⟩
  have HF := Lib.hid (gn.call fun S' h => val_has_one1 (g := g) (a := (l j).ref) (z1 := fl (l j).k) (z2 := fl (l j).i) (r := !((l j).ref == true)) (.pointer (some ⟨tb, 0, none⟩)) h (fun w' h => ⟨h.r.vc 0 rfl, h.r.vc 1 rfl⟩) (fun w' hw => hw.call fun S2 h2 => ops1 h2 fun w' h => h.l.r.vc 0 rfl))
  have HH2 := Lib.hid (fun w w' (gg : Goes (Sep (Sep (Sep (LThr b t ov lg n x l X) (Var vb #[.int .i64 8, .int .i64 (o.a : Int), .int .i64 (j : Int), .int .i64 (o.c : Int), .int .i64 (o.n : Int), .complex .f64 o.z1 o.z2] 26)) (Var tb #[.bool true] 4)) (Var g #[.bool (l j).ref, cx (l j).k (l j).i] 39)) S w w') => gg.call fun S' h => val_has_one0 (g := g) (a := (l j).ref) (z1 := fl (l j).k) (z2 := fl (l j).i) (r := ((l j).k == 0 && (l j).i == 1)) h (fun w' h => ⟨h.r.vc 0 rfl, h.r.vc 1 rfl⟩) (fun w' hw => hw.call fun S2 h2 => ops2 hs.1 hs.2 h2))
  clear h g0 hoc hk e1 gn hs hjo
  unfold cx at *
  generalize (l j).ref = rr at *
  generalize fl (l j).k = y1 at *
  generalize fl (l j).i = y2 at *
  go_enter Tryz.func168, Tryz.ntmps168
  go_upto_region 4 with fail
  generalize (w.alloc _).alloc _ = w1 at *
  go_wp2_with fail
  with_reducible refine HF.out.mono ?_
  rintro e w3 ⟨rfl, hg⟩
  have HG := Lib.hid hg
  cases rr with
  | false =>
    clear HF HH2 hg c2 o0 o1 t0 c2a d0 d1
    go_wp2_with fail
    go_ret
    exact ⟨rfl, HG.out.l.l.l⟩
  | true =>
    clear HF HH2 hg c2 o0 o1 t0 c2a d0 d1
    go_wp2_with fail
    go_ret
    exact ⟨rfl, HG.out.l.l.l⟩
end
end Go.Proofs.YtnkgnhpapcnebaaGreat
