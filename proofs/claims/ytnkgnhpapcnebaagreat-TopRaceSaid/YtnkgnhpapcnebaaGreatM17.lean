/- A thread's step. -/
import Derived.Test.YtnkgnhpapcnebaaGreatM16
set_option linter.unusedVariables false
set_option linter.unusedSimpArgs false
set_option maxHeartbeats 8000000
namespace Go.Proofs.YtnkgnhpapcnebaaGreat
open Go.RowKit
attribute [local go_sem] run_store_complex via_ret via_normal via_exit via_panic
section
variable {b t : Nat} {ov lv : Value} {x : Tc} {X : Thing} {S : Nat → Prop} {w w' : World} {A : CA} {c : Cf} {q : Q} {α : Type} {O : Thing} {O' : α → Thing} {p : α → Prop}
/-- Nothing done. -/
def idle : Value := .tuple #[.agg zeroRes, .bool false]
set_option maxRecDepth 100000 in
theorem act_step_border (h3 : ∀ S w, O.at_ S w → w.cell? ⟨b, 3, none⟩ = some (.int .i64 1))
    (hB : ∀ w, Does Tryz.prog 53 #[.pointer (some ⟨b, 0, none⟩), .pointer (some ⟨A.b, 0, none⟩)] w O (fun y e => e = .returned (.tuple #[]) ∧ p y) O') :
    ∀ w, Does Tryz.prog 16 #[.pointer (some ⟨b, 0, none⟩), .pointer (some ⟨A.b, 0, none⟩)] w O (fun y e => e = .returned idle ∧ p y) O' := by
  intro w S h
  have g0 := (Goes.begin h).moreSt (St.fresh zeroRes 41)
  generalize hrb : w.heap.size = rb at g0
  have c3 := h3 _ _ g0.l.is
  have HL := Lib.hid (((hB _).l (B := Var rb zeroRes 41)).on g0)
  unfold idle
  simp only [zeroRes] at *
  clear h g0 h3 hB
  go_enter Tryz.func16, Tryz.ntmps16
  go_upto_region 1 with fail
  generalize w.alloc _ = w1 at *
  go_wp2_with fail
  with_reducible refine HL.out.mono ?_
  rintro e w2 ⟨y, ⟨rfl, hp⟩, hg⟩
  have q0 := hg.r.vc 0 (v := .int .i64 0) rfl
  have q1 := hg.r.vc 1 (v := .int .i64 0) rfl
  have q2 := hg.r.vc 2 (v := .int .i64 0) rfl
  have q3 := hg.r.vc 3 (v := .bool false) rfl
  have q4 := hg.r.vc 4 (v := .complex .f64 0 0) rfl
  have p0 := hg.r.vf 0
  have p1 := hg.r.vf 1
  have p2 := hg.r.vf 2
  have p3 := hg.r.vf 3
  have p4 := hg.r.vf 4
  have g8 := hg.then fun S h => goesR (fun S h => (((((Goes.begin h).vput 0 (.int .i64 0) rfl).vput 1 (.int .i64 0) rfl).vput 2 (.int .i64 0) rfl).vput 3 (.bool false) rfl).vput 4 (.complex .f64 0 0) rfl) S h
  have k0 := g8.r.vc 0 (v := .int .i64 0) rfl
  have k1 := g8.r.vc 1 (v := .int .i64 0) rfl
  have k2 := g8.r.vc 2 (v := .int .i64 0) rfl
  have k3 := g8.r.vc 3 (v := .bool false) rfl
  have k4 := g8.r.vc 4 (v := .complex .f64 0 0) rfl
  have HF := Lib.hid g8.l
  have HP := Lib.hid hp
  clear HL hg g8 c3 hp
  go_wp2_with fail
  exact bodyPost_ret (v := .tuple #[.agg #[.int .i64 0, .int .i64 0, .int .i64 0, .bool false, .complex .f64 0 0], .bool false]) (by simp [results, Tryz.results16, go_sem, k0, k1, k2, k3, k4]) rfl ⟨y, ⟨rfl, HP.out⟩, HF.out⟩
set_option maxRecDepth 100000 in
theorem act_step_gone (h3 : ∀ S w, O.at_ S w → w.cell? ⟨b, 3, none⟩ = some (.int .i64 4)) (h : O.at_ S w) :
    Calls Tryz.prog 16 #[.pointer (some ⟨b, 0, none⟩), .pointer (some ⟨A.b, 0, none⟩)] w fun e w' => e = .returned idle ∧ Goes O S w w' := by
  have g0 := (Goes.begin h).moreSt (St.fresh zeroRes 41)
  generalize hrb : w.heap.size = rb at g0
  have c3 := h3 _ _ g0.l.is
  have HG := Lib.hid g0
  unfold idle
  simp only [zeroRes] at *
  clear h g0 h3
  go_enter Tryz.func16, Tryz.ntmps16
  go_upto_region 1 with fail
  generalize w.alloc _ = w1 at *
  have hg := HG.out
  have q0 := hg.r.vc 0 (v := .int .i64 0) rfl
  have q1 := hg.r.vc 1 (v := .int .i64 0) rfl
  have q2 := hg.r.vc 2 (v := .int .i64 0) rfl
  have q3 := hg.r.vc 3 (v := .bool false) rfl
  have q4 := hg.r.vc 4 (v := .complex .f64 0 0) rfl
  have p0 := hg.r.vf 0
  have p1 := hg.r.vf 1
  have p2 := hg.r.vf 2
  have p3 := hg.r.vf 3
  have p4 := hg.r.vf 4
  have g8 := hg.then fun S h => goesR (fun S h => (((((Goes.begin h).vput 0 (.int .i64 0) rfl).vput 1 (.int .i64 0) rfl).vput 2 (.int .i64 0) rfl).vput 3 (.bool false) rfl).vput 4 (.complex .f64 0 0) rfl) S h
  have k0 := g8.r.vc 0 (v := .int .i64 0) rfl
  have k1 := g8.r.vc 1 (v := .int .i64 0) rfl
  have k2 := g8.r.vc 2 (v := .int .i64 0) rfl
  have k3 := g8.r.vc 3 (v := .bool false) rfl
  have k4 := g8.r.vc 4 (v := .complex .f64 0 0) rfl
  have HF := Lib.hid g8.l
  clear hg g8 HG
  go_wp2_with fail
  exact bodyPost_ret (v := .tuple #[.agg #[.int .i64 0, .int .i64 0, .int .i64 0, .bool false, .complex .f64 0 0], .bool false]) (by simp [results, Tryz.results16, go_sem, k0, k1, k2, k3, k4]) rfl ⟨rfl, HF.out⟩
/-- What an operation's step tells. -/
structure Rs where
  nx : Int
  own : Int
  er : Int
  r : Bool
  z1 : Nat
  z2 : Nat
  d : Bool
def Rs.v (y : Rs) : Value := .tuple #[.agg #[.int .i64 y.nx, .int .i64 y.own, .int .i64 y.er, .bool y.r, .complex .f64 y.z1 y.z2], .bool y.d]
set_option maxRecDepth 100000 in
theorem act_step_within {rs : α → Rs} (hph : x.ph = 2)
    (hW : ∀ w, Does Tryz.prog 54 #[.pointer (some ⟨b, 0, none⟩), .pointer (some ⟨A.b, 0, none⟩)] w (Sep (Core A c q) (Thr b t ov lv { x with own := wrap64 (x.own + 1) } X)) (fun y e => e = .returned (rs y).v ∧ p y) O') :
    ∀ w, Does Tryz.prog 16 #[.pointer (some ⟨b, 0, none⟩), .pointer (some ⟨A.b, 0, none⟩)] w (Sep (Core A c q) (Thr b t ov lv x X)) (fun y e => e = .returned (rs y).v ∧ p y) O' := by
  intro w S h
  have g0 := (Goes.begin h).moreSt (St.fresh zeroRes 41)
  generalize hrb : w.heap.size = rb at g0
  have c3 := g0.l.r.c 3 (v := .int .i64 x.ph) rfl
  rw [hph] at c3
  have c10 := g0.l.r.c 10 (v := .int .i64 x.own) rfl
  have f10 := g0.l.r.fr 10
  have g1 : Goes (Sep (Sep (Core A c q) (Thr b t ov lv { x with own := wrap64 (x.own + 1) } X)) (Var rb zeroRes 41)) S w _ := g0.then fun S h => goesL (fun S h => goesR (fun S h => (Goes.begin h).put 10 (.int .i64 (wrap64 (x.own + 1))) (cs' := thCells t ov lv { x with own := wrap64 (x.own + 1) }) rfl) S h) S h
  have HL := Lib.hid (((hW _).l (B := Var rb zeroRes 41)).on g1)
  unfold Rs.v at *
  simp only [zeroRes] at *
  clear h g0 g1 hW
  go_enter Tryz.func16, Tryz.ntmps16
  go_upto_region 1 with fail
  generalize w.alloc _ = w1 at *
  go_wp2_with fail
  with_reducible refine HL.out.mono ?_
  rintro e w2 ⟨y, ⟨rfl, hp⟩, hg⟩
  have q0 := hg.r.vc 0 (v := .int .i64 0) rfl
  have q1 := hg.r.vc 1 (v := .int .i64 0) rfl
  have q2 := hg.r.vc 2 (v := .int .i64 0) rfl
  have q3 := hg.r.vc 3 (v := .bool false) rfl
  have q4 := hg.r.vc 4 (v := .complex .f64 0 0) rfl
  have p0 := hg.r.vf 0
  have p1 := hg.r.vf 1
  have p2 := hg.r.vf 2
  have p3 := hg.r.vf 3
  have p4 := hg.r.vf 4
  have g8 := hg.then fun S h => goesR (fun S h => (((((Goes.begin h).vput 0 (.int .i64 (rs y).nx) rfl).vput 1 (.int .i64 (rs y).own) rfl).vput 2 (.int .i64 (rs y).er) rfl).vput 3 (.bool (rs y).r) rfl).vput 4 (.complex .f64 (rs y).z1 (rs y).z2) rfl) S h
  have k0 := g8.r.vc 0 (v := .int .i64 (rs y).nx) rfl
  have k1 := g8.r.vc 1 (v := .int .i64 (rs y).own) rfl
  have k2 := g8.r.vc 2 (v := .int .i64 (rs y).er) rfl
  have k3 := g8.r.vc 3 (v := .bool (rs y).r) rfl
  have k4 := g8.r.vc 4 (v := .complex .f64 (rs y).z1 (rs y).z2) rfl
  have HF := Lib.hid g8.l
  have HP := Lib.hid hp
  clear HL hg g8 c3 c10 f10 hp
  go_wp2_with fail
  exact bodyPost_ret (v := .tuple #[.agg #[.int .i64 (rs y).nx, .int .i64 (rs y).own, .int .i64 (rs y).er, .bool (rs y).r, .complex .f64 (rs y).z1 (rs y).z2], .bool (rs y).d]) (by simp [results, Tryz.results16, go_sem, k0, k1, k2, k3, k4]) rfl ⟨y, ⟨rfl, HP.out⟩, HF.out⟩
set_option maxRecDepth 100000 in
theorem act_step_out (hph : x.ph = 0) (ht : t < c.threads) (hc : c.ok) (ho : q.h.own t = -1) (h : (Sep (Core A c q) (Thr b t ov lv x X)).at_ S w) :
    Calls Tryz.prog 16 #[.pointer (some ⟨b, 0, none⟩), .pointer (some ⟨A.b, 0, none⟩)] w fun e w' => e = .returned idle ∧ Goes (Sep (Core A c { q with h := { q.h with own := setI q.h.own t q.h.st } }) (Thr b t ov lv { x with ph := 1, pc := 0, st := q.h.st, sn := q.h.sn } X)) S w w' := by
  have g0 := ((Goes.begin h).moreSt (St.fresh zeroRes 41))
  generalize hrb : w.heap.size = rb at g0
  have c3 := g0.l.r.c 3 (v := .int .i64 x.ph) rfl
  rw [hph] at c3
  have g1 := g0.drew_
  have k12 := g1.l.l.c 12 (v := .pointer (some ⟨A.bh, 0, none⟩)) rfl
  have d0 := g1.l.r.c 0 (v := .int .i64 (t : Int)) rfl
  have HL := Lib.hid ((core_hn (k := fun _ => { q.h with own := setI q.h.own t q.h.st }) (hni_join t ht hc.threads.2 ho _)).l.l.on g1)
  unfold idle
  simp only [zeroRes] at *
  clear h g0 g1 hc ho hph
  go_enter Tryz.func16, Tryz.ntmps16
  go_upto_region 1 with fail
  generalize w.alloc _ = w1 at *
  go_wp2_with fail
  refine wp_region_held_drew (S := fun w' => w'.cell? ⟨A.b, 12, none⟩ = some (.pointer (some ⟨A.bh, 0, none⟩)) ∧ w'.cell? ⟨b, 0, none⟩ = some (.int .i64 (t : Int))) (by kernel_rfl) ⟨k12, d0⟩ (fun hHeld => ?_)
  refine wpAnyH_take (i := 0) (oi := _) (v := ?_) rfl (by kernel_rfl) (by kernel_rfl) (by kernel_rfl) (fun _ _ _ h => h) (Or.inl ⟨by rfl, ?_⟩) (by assumption) ?_
  rotate_left
  · intro w hSw
    (try dsimp only at hSw)
    go_simp
    with_reducible rfl
  try simp only [Act.put, List.setIfInBounds_toArray, List.set_cons_zero, List.set_cons_succ]
  refine wpAnyH_take (i := 1) (oi := _) (v := ?_) rfl (by kernel_rfl) (by kernel_rfl) (by kernel_rfl) (fun _ _ _ h => h) (Or.inl ⟨by rfl, ?_⟩) (by assumption) ?_
  rotate_left
  · intro w hSw
    (try dsimp only at hSw)
    go_simp
    with_reducible rfl
  try simp only [Act.put, List.setIfInBounds_toArray, List.set_cons_zero, List.set_cons_succ]
  refine wpAnyH_take (i := 2) (oi := _) (v := ?_) rfl (by kernel_rfl) (by kernel_rfl) (by kernel_rfl) (fun _ _ _ h => h) (Or.inl ⟨by rfl, ?_⟩) (by assumption) ?_
  rotate_left
  · intro w hSw
    (try dsimp only at hSw)
    go_simp
    with_reducible rfl
  try simp only [Act.put, List.setIfInBounds_toArray, List.set_cons_zero, List.set_cons_succ]
  refine wpAnyH_take (i := 3) (oi := _) (v := ?_) rfl (by kernel_rfl) (by kernel_rfl) (by kernel_rfl) (fun _ _ _ h => h) (Or.inl ⟨by rfl, ?_⟩) (by assumption) ?_
  rotate_left
  · intro w hSw
    (try dsimp only at hSw)
    go_simp
    with_reducible rfl
  try simp only [Act.put, List.setIfInBounds_toArray, List.set_cons_zero, List.set_cons_succ]
  refine wpAnyH_take (i := 4) (oi := _) (v := ?_) rfl (by kernel_rfl) (by kernel_rfl) (by kernel_rfl) (fun _ _ _ h => h) (Or.inl ⟨by rfl, ?_⟩) (by assumption) ?_
  rotate_left
  · intro w hSw
    (try dsimp only at hSw)
    go_simp
    with_reducible rfl
  try simp only [Act.put, List.setIfInBounds_toArray, List.set_cons_zero, List.set_cons_succ]
  refine wpAnyH_take (i := 5) (oi := _) (v := ?_) rfl (by kernel_rfl) (by kernel_rfl) (by kernel_rfl) (fun _ _ _ h => h) (Or.inl ⟨by rfl, ?_⟩) (by assumption) ?_
  rotate_left
  · intro w hSw
    (try dsimp only at hSw)
    go_simp
    with_reducible rfl
  try simp only [Act.put, List.setIfInBounds_toArray, List.set_cons_zero, List.set_cons_succ]
  refine wpAnyH_take (i := 6) (oi := _) (v := ?_) rfl (by kernel_rfl) (by kernel_rfl) (by kernel_rfl) (fun _ _ _ h => h) (Or.inl ⟨by rfl, ?_⟩) (by assumption) ?_
  rotate_left
  · intro w hSw
    (try dsimp only at hSw)
    go_simp
    with_reducible rfl
  try simp only [Act.put, List.setIfInBounds_toArray, List.set_cons_zero, List.set_cons_succ]
  refine wpAnyH_take (i := 7) (oi := _) (v := ?_) rfl (by kernel_rfl) (by kernel_rfl) (by kernel_rfl) (fun _ _ _ h => h) (Or.inl ⟨by rfl, ?_⟩) (by assumption) ?_
  rotate_left
  · intro w hSw
    (try dsimp only at hSw)
    go_simp
    with_reducible rfl
  try simp only [Act.put, List.setIfInBounds_toArray, List.set_cons_zero, List.set_cons_succ]
  refine wpAnyH_ready (rs := [8]) (by kernel_rfl) (by simp) ?_
  refine AllReadyH.cons (o := _) rfl (fun K hK => ?_) AllReadyH.nil
  go_simp
  with_reducible refine HL.out.mono ?_
  rintro e w3 ⟨_, rfl, hg⟩
  have hg : Goes (Sep (Sep (Core A c { q with h := { q.h with own := setI q.h.own t q.h.st } }) (Thr b t ov lv x X)) (Var rb #[.int .i64 0, .int .i64 0, .int .i64 0, .bool false, .complex .f64 0 0] 41)) S w w3 := hg
  have k12' := hg.l.l.c 12 (v := .pointer (some ⟨A.bh, 0, none⟩)) rfl
  have d0' := hg.l.r.c 0 (v := .int .i64 (t : Int)) rfl
  go_wp2_with fail
  refine hK.out _ _ ⟨k12', d0'⟩ (fun hHeld => ?_)
  clear hK K k12' d0'
  try simp only [Act.put, List.setIfInBounds_toArray, List.set_cons_zero, List.set_cons_succ]
  refine wpAnyH_take (i := 9) (oi := _) (v := ?_) rfl (by kernel_rfl) (by kernel_rfl) (by kernel_rfl) (fun _ _ _ h => h) (Or.inl ⟨by rfl, ?_⟩) (by assumption) ?_
  rotate_left
  · intro w hSw
    (try dsimp only at hSw)
    go_simp
    with_reducible rfl
  try simp only [Act.put, List.setIfInBounds_toArray, List.set_cons_zero, List.set_cons_succ]
  refine wpAnyH_take (i := 10) (oi := _) (v := ?_) rfl (by kernel_rfl) (by kernel_rfl) (by kernel_rfl) (fun _ _ _ h => h) (Or.inl ⟨by rfl, ?_⟩) (by assumption) ?_
  rotate_left
  · intro w hSw
    (try dsimp only at hSw)
    go_simp
    with_reducible rfl
  try simp only [Act.put, List.setIfInBounds_toArray, List.set_cons_zero, List.set_cons_succ]
  refine wpAnyH_take (i := 11) (oi := _) (v := ?_) rfl (by kernel_rfl) (by kernel_rfl) (by kernel_rfl) (fun _ _ _ h => h) (Or.inl ⟨by rfl, ?_⟩) (by assumption) ?_
  rotate_left
  · intro w hSw
    (try dsimp only at hSw)
    go_simp
    with_reducible rfl
  try simp only [Act.put, List.setIfInBounds_toArray, List.set_cons_zero, List.set_cons_succ]
  refine wpAnyH_take (i := 12) (oi := _) (v := ?_) rfl (by kernel_rfl) (by kernel_rfl) (by kernel_rfl) (fun _ _ _ h => h) (Or.inl ⟨by rfl, ?_⟩) (by assumption) ?_
  rotate_left
  · intro w hSw
    (try dsimp only at hSw)
    go_simp
    with_reducible rfl
  try simp only [Act.put, List.setIfInBounds_toArray, List.set_cons_zero, List.set_cons_succ]
  refine wpAnyH_take (i := 13) (oi := _) (v := ?_) rfl (by kernel_rfl) (by kernel_rfl) (by kernel_rfl) (fun _ _ _ h => h) (Or.inl ⟨by rfl, ?_⟩) (by assumption) ?_
  rotate_left
  · intro w hSw
    (try dsimp only at hSw)
    go_simp
    with_reducible rfl
  try simp only [Act.put, List.setIfInBounds_toArray, List.set_cons_zero, List.set_cons_succ]
  refine wpAnyH_take (i := 14) (oi := _) (v := ?_) rfl (by kernel_rfl) (by kernel_rfl) (by kernel_rfl) (fun _ _ _ h => h) (Or.inl ⟨by rfl, ?_⟩) (by assumption) ?_
  rotate_left
  · intro w hSw
    (try dsimp only at hSw)
    go_simp
    with_reducible rfl
  try simp only [Act.put, List.setIfInBounds_toArray, List.set_cons_zero, List.set_cons_succ]
  refine wpAnyH_take (i := 15) (oi := _) (v := ?_) rfl (by kernel_rfl) (by kernel_rfl) (by kernel_rfl) (fun _ _ _ h => h) (Or.inl ⟨by rfl, ?_⟩) (by assumption) ?_
  rotate_left
  · intro w hSw
    (try dsimp only at hSw)
    go_simp
    with_reducible rfl
  try simp only [Act.put, List.setIfInBounds_toArray, List.set_cons_zero, List.set_cons_succ]
  refine wpAnyH_done (by kernel_rfl) ?_ _
  have c4 := hg.l.r.c 4 (v := .int .i64 x.st) rfl
  have c5 := hg.l.r.c 5 (v := .bool x.sn) rfl
  have c3' := hg.l.r.c 3 (v := .int .i64 x.ph) rfl
  have c7 := hg.l.r.c 7 (v := .int .i64 x.pc) rfl
  have f4 := hg.l.r.fr 4
  have f5 := hg.l.r.fr 5
  have f3 := hg.l.r.fr 3
  have f7 := hg.l.r.fr 7
  have g4 : Goes (Sep (Sep (Core A c { q with h := { q.h with own := setI q.h.own t q.h.st } }) (Thr b t ov lv { x with ph := 1, pc := 0, st := q.h.st, sn := q.h.sn } X)) (Var rb #[.int .i64 0, .int .i64 0, .int .i64 0, .bool false, .complex .f64 0 0] 41)) S w _ :=
    hg.then fun S h => goesL (fun S h => goesR (fun S h => goesL (fun S h => ((((Goes.begin h).vput 4 (.int .i64 q.h.st) rfl).vput 5 (.bool q.h.sn) rfl).vput 3 (.int .i64 1) rfl).vput 7 (.int .i64 0) (cs' := thCells t ov lv { x with ph := 1, pc := 0, st := q.h.st, sn := q.h.sn }) rfl) S h) S h) S h
  have HG := Lib.hid g4
  clear HL hg g4 k12 d0 c3
  go_upto_region 16 with fail
  generalize World.setCell _ _ _ = w5 at *
  clear c4 c5 c3' c7 f4 f5 f3 f7
  have hg := HG.out
  have q0 := hg.r.vc 0 (v := .int .i64 0) rfl
  have q1 := hg.r.vc 1 (v := .int .i64 0) rfl
  have q2 := hg.r.vc 2 (v := .int .i64 0) rfl
  have q3 := hg.r.vc 3 (v := .bool false) rfl
  have q4 := hg.r.vc 4 (v := .complex .f64 0 0) rfl
  have p0 := hg.r.vf 0
  have p1 := hg.r.vf 1
  have p2 := hg.r.vf 2
  have p3 := hg.r.vf 3
  have p4 := hg.r.vf 4
  have g8 := hg.then fun S h => goesR (fun S h => (((((Goes.begin h).vput 0 (.int .i64 0) rfl).vput 1 (.int .i64 0) rfl).vput 2 (.int .i64 0) rfl).vput 3 (.bool false) rfl).vput 4 (.complex .f64 0 0) rfl) S h
  have k0 := g8.r.vc 0 (v := .int .i64 0) rfl
  have k1 := g8.r.vc 1 (v := .int .i64 0) rfl
  have k2 := g8.r.vc 2 (v := .int .i64 0) rfl
  have k3 := g8.r.vc 3 (v := .bool false) rfl
  have k4 := g8.r.vc 4 (v := .complex .f64 0 0) rfl
  have HF := Lib.hid g8.l
  clear hg g8 HG
  go_wp2_with fail
  exact bodyPost_ret (v := .tuple #[.agg #[.int .i64 0, .int .i64 0, .int .i64 0, .bool false, .complex .f64 0 0], .bool false]) (by simp [results, Tryz.results16, go_sem, k0, k1, k2, k3, k4]) rfl ⟨rfl, HF.out⟩
end
end Go.Proofs.YtnkgnhpapcnebaaGreat
/- A thread: the small parts of its operations. -/
namespace Go.Proofs.YtnkgnhpapcnebaaGreat
open Go.RowKit
attribute [local go_sem] run_store_complex via_ret via_normal via_exit via_panic
section
variable {b t : Nat} {ov lv : Value} {x : Tc} {X : Thing} {S : Nat → Prop} {w w' : World} {A : CA} {c : Cf} {q : Q} {lg n : Nat} {l : Nat → Lc}
/-- Behind an operation. -/
def Tc.next (x : Tc) : Tc := { x with ph := 1, pc := 0, nx := x.nx + 1 }
set_option maxRecDepth 100000 in
theorem act_fails {er : Int} (her : ¬ er = 0) (hph : x.ph = 2) (hnx : x.nx ≤ 1000) (h : (Thr b t ov lv x X).at_ S w) :
    Calls Tryz.prog 120 #[.pointer (some ⟨b, 0, none⟩), .int .i64 er] w fun e w' => e = .returned (Rs.v ⟨x.nx, x.own, er, false, 0, 0, true⟩) ∧ Goes (Thr b t ov lv x.next X) S w w' := by
  have g0 := (Goes.begin h).moreSt (St.fresh zeroRes 41)
  generalize hrb : w.heap.size = rb at g0
  have HL := Lib.hid (g0.call (sepL fun S h => act_done_err her hph hnx h))
  unfold Rs.v resV at *
  simp only [zeroRes] at *
  clear h g0
  go_enter Tryz.func120, Tryz.ntmps120
  go_upto_region 1 with fail
  generalize w.alloc _ = w1 at *
  go_wp2_with fail
  with_reducible refine HL.out.mono ?_
  rintro e w2 ⟨rfl, hg⟩
  clear HL
  have q0_ := hg.r.vc 0 (v := .int .i64 0) rfl
  have p0_ := hg.r.vf 0
  have q1_ := hg.r.vc 1 (v := .int .i64 0) rfl
  have p1_ := hg.r.vf 1
  have q2_ := hg.r.vc 2 (v := .int .i64 0) rfl
  have p2_ := hg.r.vf 2
  have q3_ := hg.r.vc 3 (v := .bool false) rfl
  have p3_ := hg.r.vf 3
  have q4_ := hg.r.vc 4 (v := .complex .f64 0 0) rfl
  have p4_ := hg.r.vf 4
  have g8_ := hg.then fun S h => goesR (fun S h => (((((Goes.begin h).vput 0 (.int .i64 (x.nx)) rfl).vput 1 (.int .i64 (x.own)) rfl).vput 2 (.int .i64 (er)) rfl).vput 3 (.bool (false)) rfl).vput 4 (.complex .f64 0 0) rfl) S h
  have k0_ := g8_.r.vc 0 (v := .int .i64 (x.nx)) rfl
  have k1_ := g8_.r.vc 1 (v := .int .i64 (x.own)) rfl
  have k2_ := g8_.r.vc 2 (v := .int .i64 (er)) rfl
  have k3_ := g8_.r.vc 3 (v := .bool (false)) rfl
  have k4_ := g8_.r.vc 4 (v := .complex .f64 0 0) rfl
  have HF := Lib.hid g8_.l
  clear hg g8_
  go_wp2_with fail
  (try rw [via_ret])
  exact bodyPost_ret (v := .tuple #[.agg #[.int .i64 (x.nx), .int .i64 (x.own), .int .i64 (er), .bool (false), .complex .f64 0 0], .bool true]) (by simp [results, Tryz.results120, go_sem, k0_, k1_, k2_, k3_, k4_]) rfl ⟨rfl, HF.out⟩
set_option maxRecDepth 100000 in
theorem act_head {j : Nat} (hj : j < n) (hs : (l j).k ≤ 17 ∧ (l j).i ≤ 17) (h : (LThr b t ov lg n x l X).at_ S w) :
    Calls Tryz.prog 173 #[.pointer (some ⟨b, 0, none⟩), .int .i64 (j : Int)] w fun e w' => e = .returned (.int .i64 (ixI (l j).k (l j).i)) ∧ w = w' := by
  have g0 := Goes.begin h
  have c2 := g0.c 2 (v := .slice (some ⟨lg, 0, none⟩) n n) rfl
  obtain ⟨d0, d1⟩ := lthr_cells g0 hj
  have HI := Lib.hid fun w => word_index (l j).k (l j).i w hs.1 hs.2
  unfold cx at HI
  generalize fl (l j).k = z1 at *
  generalize fl (l j).i = z2 at *
  clear g0 h
  go_enter Tryz.func173, Tryz.ntmps173
  go_wp2_with fail
  with_reducible refine (HI.out _).mono ?_
  rintro e w3 ⟨rfl, rfl⟩
  go_wp2_with fail
  go_ret
  exact ⟨rfl, rfl⟩
def bth (s : Int) : Bool := s == 1 || s == 2
def shd (s : Int) : Bool := s == 1 || s == 2 || s == 3
set_option maxRecDepth 100000 in
theorem act_both (h : (Thr b t ov lv x X).at_ S w) : Calls Tryz.prog 239 #[.pointer (some ⟨b, 0, none⟩)] w fun e w' => e = .returned (.bool (bth x.st)) ∧ w = w' := by
  have c4 := (Goes.begin h).c 4 (v := .int .i64 x.st) rfl
  clear h
  unfold bth
  generalize x.st = st at *
  by_cases h1 : st = 1
  · subst h1
    go_enter Tryz.func239, Tryz.ntmps239
    go_wp2_with fail
    go_ret
    exact ⟨rfl, rfl⟩
  · have h2 : (st == 1) = false := by simpa using h1
    rw [h2]
    have h3 : decide (st = 1) = false := by simpa using h1
    go_enter Tryz.func239, Tryz.ntmps239
    go_wp2_with fail
    go_ret
    exact ⟨by simp, rfl⟩
set_option maxRecDepth 100000 in
theorem act_shades (h : (Thr b t ov lv x X).at_ S w) : Calls Tryz.prog 242 #[.pointer (some ⟨b, 0, none⟩)] w fun e w' => e = .returned (.bool (shd x.st)) ∧ w = w' := by
  have c4 := (Goes.begin h).c 4 (v := .int .i64 x.st) rfl
  clear h
  unfold shd
  generalize x.st = st at *
  by_cases h1 : st = 1
  · subst h1
    go_enter Tryz.func242, Tryz.ntmps242
    go_wp2_with fail
    go_ret
    exact ⟨rfl, rfl⟩
  · have h2 : (st == 1) = false := by simpa using h1
    have h3 : decide (st = 1) = false := by simpa using h1
    by_cases k1 : st = 2
    · subst k1
      go_enter Tryz.func242, Tryz.ntmps242
      go_wp2_with fail
      go_ret
      exact ⟨rfl, rfl⟩
    · have k2 : (st == 2) = false := by simpa using k1
      have k3 : decide (st = 2) = false := by simpa using k1
      rw [h2, k2]
      go_enter Tryz.func242, Tryz.ntmps242
      go_wp2_with fail
      go_ret
      exact ⟨by simp, rfl⟩
set_option maxRecDepth 100000 in
theorem act_behind {F : Nat} (hF : F ≤ 16) (hw1 : x.w1 = fl (F + 1)) (hw2 : x.w2 = fl 1) (h : (Thr b t ov lv x X).at_ S w) : Calls Tryz.prog 186 #[.pointer (some ⟨b, 0, none⟩)] w fun e w' => e = .returned (.int .i64 (if bth x.st then 5 else 6)) ∧ w = w' := by
  have c16 := (Goes.begin h).c 16 (v := .complex .f64 x.w1 x.w2) rfl
  rw [hw1, hw2] at c16
  have HI := Lib.hid fun w => word_index (F + 1) 1 w (by omega) (by omega)
  have HB := Lib.hid (act_both h)
  rw [show ixB (F + 1) 1 = true by unfold ixB; simp] at HI
  unfold cx at HI
  generalize fl (F + 1) = z1 at *
  generalize fl 1 = z2 at *
  clear h
  cases hb : bth x.st with
  | true =>
    rw [hb] at HB
    go_enter Tryz.func186, Tryz.ntmps186
    go_wp2_with fail
    with_reducible refine (HI.out _).mono ?_
    rintro e w3 ⟨rfl, rfl⟩
    go_wp2_with fail
    with_reducible refine HB.out.mono ?_
    rintro e w3 ⟨rfl, rfl⟩
    go_wp2_with fail
    go_ret
    exact ⟨rfl, rfl⟩
  | false =>
    rw [hb] at HB
    go_enter Tryz.func186, Tryz.ntmps186
    go_wp2_with fail
    with_reducible refine (HI.out _).mono ?_
    rintro e w3 ⟨rfl, rfl⟩
    go_wp2_with fail
    with_reducible refine HB.out.mono ?_
    rintro e w3 ⟨rfl, rfl⟩
    go_wp2_with fail
    go_ret
    exact ⟨rfl, rfl⟩
def updL (l : Nat → Lc) (j : Nat) (v : Lc) : Nat → Lc := fun k => if k = j then v else l k
set_option maxRecDepth 100000 in
theorem locM_set (l : Nat → Lc) (j : Nat) (v : Lc) : setV (setV (locM l) (j * 2) (.bool v.ref)) (j * 2 + 1) (cx v.k v.i) = locM (updL l j v) := by
  funext m
  unfold setV
  by_cases e : m = j * 2 + 1
  · subst e; rw [if_pos rfl, locM1]; simp [updL]
  · rw [if_neg e]
    by_cases e2 : m = j * 2
    · subst e2; rw [if_pos rfl, locM0]; simp [updL]
    · rw [if_neg e2]
      unfold locM updL
      have : ¬ m / 2 = j := by omega
      simp only [this, if_false]
set_option maxRecDepth 100000 in
theorem act_lays {j : Nat} {v : Lc} (hj : j < n) (hn : n ≤ 8) (hph : x.ph = 2) (hnx : x.nx ≤ 1000) (h : (LThr b t ov lg n x l X).at_ S w) :
    Calls Tryz.prog 170 #[.pointer (some ⟨b, 0, none⟩), .int .i64 (j : Int), .agg #[.bool v.ref, cx v.k v.i]] w fun e w' => e = .returned (Rs.v ⟨x.nx, x.own, 0, v.ref, fl v.k, fl v.i, true⟩) ∧ Goes (LThr b t ov lg n x.next (updL l j v) X) S w w' := by
  have g0 := ((Goes.begin h).moreSt (St.fresh #[.bool v.ref, cx v.k v.i] 39)).moreSt (St.fresh zeroRes 41)
  rw [World.size_alloc] at g0
  obtain ⟨vb, hvb⟩ : ∃ k, w.heap.size = k := ⟨_, rfl⟩
  obtain ⟨rb, hrb⟩ : ∃ k, vb + 1 = k := ⟨_, rfl⟩
  rw [hvb, hrb] at g0
  have g1 := g0.drew_
  have c2 := g1.l.l.c 2 (v := .slice (some ⟨lg, 0, none⟩) n n) rfl
  have v0 := g1.l.r.vc 0 (v := .bool v.ref) rfl
  have v1 := g1.l.r.vc 1 (v := cx v.k v.i) rfl
  obtain ⟨d0, d1⟩ := lthr_cells g1.l.l hj
  have f0 := vals_free g1.l.l.r.l.is (j * 2)
  have f1 := vals_free g1.l.l.r.l.is (j * 2 + 1)
  have g2 := g1.then fun S h => goesL (fun S h => goesL (fun S h => goesR (fun S h => goesL (fun S h => (vals_set h (j * 2) (.bool v.ref)).then fun S h => vals_set h (j * 2 + 1) (cx v.k v.i)) S h) S h) S h) S h
  rw [locM_set] at g2
  have g2 : Goes (Sep (Sep (LThr b t ov lg n x (updL l j v) X) (Var vb #[.bool v.ref, cx v.k v.i] 39)) (Var rb zeroRes 41)) S w _ := g2
  have u0 := g2.l.r.vc 0 (v := .bool v.ref) rfl
  have u1 := g2.l.r.vc 1 (v := cx v.k v.i) rfl
  have HL := Lib.hid (g2.call (sepL (sepL fun S h => act_done_ok (r := v.ref) (z1 := fl v.k) (z2 := fl v.i) hph hnx h)))
  unfold Rs.v resV at *
  unfold cx at *
  generalize fl v.k = z1 at *
  generalize fl v.i = z2 at *
  generalize fl (l j).k = y1 at *
  generalize fl (l j).i = y2 at *
  simp only [zeroRes] at *
  have hjn : (j : Int) < (n : Int) := by omega
  clear h g0 g1 g2
  go_enter Tryz.func170, Tryz.ntmps170
  go_upto_region 1 with fail
  generalize (w.alloc _).alloc _ = w1 at *
  go_still_tail 7, (by kernel_rfl)
  change wpList _ _ _ _ _ w1.drew
  generalize w1.drew = w2 at *
  go_upto_region 2 with fail
  generalize World.setCell _ _ _ = w3 at *
  clear c2 v0 v1 d0 d1 f0 f1
  go_wp2_with fail
  with_reducible refine HL.out.mono ?_
  rintro e w4 ⟨rfl, hg⟩
  clear HL u0 u1
  have q0_ := hg.r.vc 0 (v := .int .i64 0) rfl
  have p0_ := hg.r.vf 0
  have q1_ := hg.r.vc 1 (v := .int .i64 0) rfl
  have p1_ := hg.r.vf 1
  have q2_ := hg.r.vc 2 (v := .int .i64 0) rfl
  have p2_ := hg.r.vf 2
  have q3_ := hg.r.vc 3 (v := .bool false) rfl
  have p3_ := hg.r.vf 3
  have q4_ := hg.r.vc 4 (v := .complex .f64 0 0) rfl
  have p4_ := hg.r.vf 4
  have g8_ := hg.then fun S h => goesR (fun S h => (((((Goes.begin h).vput 0 (.int .i64 (x.nx)) rfl).vput 1 (.int .i64 (x.own)) rfl).vput 2 (.int .i64 (0)) rfl).vput 3 (.bool (v.ref)) rfl).vput 4 (.complex .f64 z1 z2) rfl) S h
  have k0_ := g8_.r.vc 0 (v := .int .i64 (x.nx)) rfl
  have k1_ := g8_.r.vc 1 (v := .int .i64 (x.own)) rfl
  have k2_ := g8_.r.vc 2 (v := .int .i64 (0)) rfl
  have k3_ := g8_.r.vc 3 (v := .bool (v.ref)) rfl
  have k4_ := g8_.r.vc 4 (v := .complex .f64 z1 z2) rfl
  have HF := Lib.hid g8_.l
  clear hg g8_
  go_wp2_with fail
  (try rw [via_ret])
  exact bodyPost_ret (v := .tuple #[.agg #[.int .i64 (x.nx), .int .i64 (x.own), .int .i64 (0), .bool (v.ref), .complex .f64 z1 z2], .bool true]) (by simp [results, Tryz.results170, go_sem, k0_, k1_, k2_, k3_, k4_]) rfl ⟨rfl, HF.out.l⟩
end
end Go.Proofs.YtnkgnhpapcnebaaGreat
