/- A thread: it reads a word. -/
import Derived.Test.YtnkgnhpapcnebaaGreatM17
set_option linter.unusedVariables false
set_option linter.unusedSimpArgs false
set_option maxHeartbeats 8000000
namespace Go.Proofs.YtnkgnhpapcnebaaGreat
open Go.RowKit
attribute [local go_sem] run_store_complex via_ret via_normal via_exit via_panic
/-- An operation. -/
structure Opn where
  kd : Nat
  a : Nat
  b : Nat
  c : Nat
  n : Nat
  z1 : Nat
  z2 : Nat
def opc (o : Opn) : Array Value := #[.int .i64 (o.kd : Int), .int .i64 (o.a : Int), .int .i64 (o.b : Int), .int .i64 (o.c : Int), .int .i64 (o.n : Int), .complex .f64 o.z1 o.z2]
section
variable {b t : Nat} {ov lv : Value} {x : Tc} {X : Thing} {S : Nat → Prop} {w w' : World} {A : CA} {c : Cf} {q : Q} {lg n : Nat} {l : Nat → Lc}
set_option maxRecDepth 100000 in
theorem act_reads {o : Opn} {ad vk vi : Nat} (hc : c.ok) (hx : x.addr = (ad : Int)) (had : ad < c.words) (hv : ∀ f, MemOk c q.m f → f ad = cx vk vi) (hk : vk ≤ 17) (hi : vi ≤ 17) (hr : x.ref = true → vi = 1)
    (hj : o.a < n) (hn : n ≤ 8) (hph : x.ph = 2) (hnx : x.nx ≤ 1000) (h : (Sep (Core A c q) (LThr b t ov lg n x l X)).at_ S w) :
    Calls Tryz.prog 112 #[.pointer (some ⟨b, 0, none⟩), .pointer (some ⟨A.b, 0, none⟩), .agg (opc o)] w fun e w' => e = .returned (Rs.v ⟨x.nx, x.own, 0, x.ref, fl vk, fl vi, true⟩) ∧ Goes (Sep (Core A c q) (LThr b t ov lg n x.next (updL l o.a ⟨x.ref, vk, vi⟩) X)) S w w' := by
  obtain ⟨r, hrr⟩ : ∃ r, x.ref = r := ⟨_, rfl⟩
  obtain ⟨x, rfl⟩ : ∃ y : Tc, x = { y with addr := (ad : Int), ref := r } := ⟨x, by rw [← hx, ← hrr]⟩
  clear hrr
  have g0 := ((Goes.begin h).moreSt (St.fresh (opc o) 26)).moreSt (St.fresh zeroRes 41)
  rw [World.size_alloc] at g0
  obtain ⟨vb, hvb⟩ : ∃ k, w.heap.size = k := ⟨_, rfl⟩
  obtain ⟨rb, hrb⟩ : ∃ k, vb + 1 = k := ⟨_, rfl⟩
  rw [hvb, hrb] at g0
  have g1 := g0.drew_
  have HL := Lib.hid ((core_memR (memi_read ad hc had _)).l.l.l.on g1)
  have HV := Lib.hid hv
  have HI := Lib.hid fun w => word_is vk vi w hk hi
  have HR := Lib.hid hr
  have HL2 := Lib.hid fun w5 (hg5 : Goes (Sep (Sep (Sep (Core A c q) (LThr b t ov lg n { x with addr := (ad : Int), ref := r } l X)) (Var vb #[.int .i64 (o.kd : Int), .int .i64 (o.a : Int), .int .i64 (o.b : Int), .int .i64 (o.c : Int), .int .i64 (o.n : Int), .complex .f64 o.z1 o.z2] 26)) (Var rb #[.int .i64 0, .int .i64 0, .int .i64 0, .bool false, .complex .f64 0 0] 41)) S w w5) => hg5.call (sepL (sepL (sepR fun S h => act_lays (x := { x with addr := (ad : Int), ref := r }) (v := ⟨r, vk, vi⟩) hj hn hph hnx h)))
  unfold opc at *
  unfold Rs.v cx at *
  generalize fl vk = y1 at *
  generalize fl vi = y2 at *
  simp only [zeroRes] at *
  clear h g0 hv hc hr hx
  go_enter Tryz.func112, Tryz.ntmps112
  go_upto_region 1 with fail
  generalize (w.alloc _).alloc _ = w1 at *
  refine wp_region_held_drew (S := fun w' => w'.cell? ⟨A.b, 9, none⟩ = some (.pointer (some ⟨A.bm, 0, none⟩)) ∧ w'.cell? ⟨b, 13, none⟩ = some (.int .i64 (ad : Int))) (by kernel_rfl) ⟨g1.l.l.l.c 9 (v := .pointer (some ⟨A.bm, 0, none⟩)) rfl, g1.l.l.r.c 13 (v := .int .i64 (ad : Int)) rfl⟩ (fun hHeld => ?_)
  refine wpAnyH_take (i := 0) (oi := _) (v := ?_) rfl (by kernel_rfl) (by kernel_rfl) (by kernel_rfl) (fun _ _ _ h => h) (Or.inl ⟨by rfl, ?_⟩) (by assumption) ?_
  rotate_left
  · intro w hSw
    (try dsimp only at hSw)
    go_simp
    with_reducible rfl
  try simp only [Act.put, List.setIfInBounds_toArray, List.set_cons_zero, List.set_cons_succ]
  refine wpAnyH_take (i := 1) (oi := _) (v := ?_) rfl (by kernel_rfl) (by kernel_rfl) (by kernel_rfl) (fun _ _ _ h => h) (Or.inl ⟨by rfl, ?_⟩) (by assumption) ?_
  rotate_left
  · intro w hSw
    (try dsimp only at hSw)
    go_simp
    with_reducible rfl
  try simp only [Act.put, List.setIfInBounds_toArray, List.set_cons_zero, List.set_cons_succ]
  refine wpAnyH_take (i := 2) (oi := _) (v := ?_) rfl (by kernel_rfl) (by kernel_rfl) (by kernel_rfl) (fun _ _ _ h => h) (Or.inl ⟨by rfl, ?_⟩) (by assumption) ?_
  rotate_left
  · intro w hSw
    (try dsimp only at hSw)
    go_simp
    with_reducible rfl
  try simp only [Act.put, List.setIfInBounds_toArray, List.set_cons_zero, List.set_cons_succ]
  refine wpAnyH_take (i := 3) (oi := _) (v := ?_) rfl (by kernel_rfl) (by kernel_rfl) (by kernel_rfl) (fun _ _ _ h => h) (Or.inl ⟨by rfl, ?_⟩) (by assumption) ?_
  rotate_left
  · intro w hSw
    (try dsimp only at hSw)
    go_simp
    with_reducible rfl
  try simp only [Act.put, List.setIfInBounds_toArray, List.set_cons_zero, List.set_cons_succ]
  refine wpAnyH_take (i := 4) (oi := _) (v := ?_) rfl (by kernel_rfl) (by kernel_rfl) (by kernel_rfl) (fun _ _ _ h => h) (Or.inl ⟨by rfl, ?_⟩) (by assumption) ?_
  rotate_left
  · intro w hSw
    (try dsimp only at hSw)
    go_simp
    with_reducible rfl
  try simp only [Act.put, List.setIfInBounds_toArray, List.set_cons_zero, List.set_cons_succ]
  refine wpAnyH_take (i := 5) (oi := _) (v := ?_) rfl (by kernel_rfl) (by kernel_rfl) (by kernel_rfl) (fun _ _ _ h => h) (Or.inl ⟨by rfl, ?_⟩) (by assumption) ?_
  rotate_left
  · intro w hSw
    (try dsimp only at hSw)
    go_simp
    with_reducible rfl
  try simp only [Act.put, List.setIfInBounds_toArray, List.set_cons_zero, List.set_cons_succ]
  refine wpAnyH_take (i := 6) (oi := _) (v := ?_) rfl (by kernel_rfl) (by kernel_rfl) (by kernel_rfl) (fun _ _ _ h => h) (Or.inl ⟨by rfl, ?_⟩) (by assumption) ?_
  rotate_left
  · intro w hSw
    (try dsimp only at hSw)
    go_simp
    with_reducible rfl
  try simp only [Act.put, List.setIfInBounds_toArray, List.set_cons_zero, List.set_cons_succ]
  refine wpAnyH_take (i := 7) (oi := _) (v := ?_) rfl (by kernel_rfl) (by kernel_rfl) (by kernel_rfl) (fun _ _ _ h => h) (Or.inl ⟨by rfl, ?_⟩) (by assumption) ?_
  rotate_left
  · intro w hSw
    (try dsimp only at hSw)
    go_simp
    with_reducible rfl
  try simp only [Act.put, List.setIfInBounds_toArray, List.set_cons_zero, List.set_cons_succ]
  refine wpAnyH_take (i := 8) (oi := _) (v := ?_) rfl (by kernel_rfl) (by kernel_rfl) (by kernel_rfl) (fun _ _ _ h => h) (Or.inl ⟨by rfl, ?_⟩) (by assumption) ?_
  rotate_left
  · intro w hSw
    (try dsimp only at hSw)
    go_simp
    with_reducible rfl
  try simp only [Act.put, List.setIfInBounds_toArray, List.set_cons_zero, List.set_cons_succ]
  refine wpAnyH_ready (rs := [9]) (by kernel_rfl) (by simp) ?_
  refine AllReadyH.cons (o := _) rfl (fun K hK => ?_) AllReadyH.nil
  go_simp
  with_reducible refine HL.out.mono ?_
  rintro e w3 ⟨v, ⟨rfl, f, hf, rfl⟩, hg⟩
  have hg : Goes (Sep (Sep (Sep (Core A c q) (LThr b t ov lg n { x with addr := (ad : Int), ref := r } l X)) (Var vb #[.int .i64 (o.kd : Int), .int .i64 (o.a : Int), .int .i64 (o.b : Int), .int .i64 (o.c : Int), .int .i64 (o.n : Int), .complex .f64 o.z1 o.z2] 26)) (Var rb #[.int .i64 0, .int .i64 0, .int .i64 0, .bool false, .complex .f64 0 0] 41)) S w w3 := hg
  rw [HV.out f hf]
  clear HL hHeld hf
  go_wp2_with fail
  refine hK.out _ _ ⟨hg.l.l.l.c 9 (v := .pointer (some ⟨A.bm, 0, none⟩)) rfl, hg.l.l.r.c 13 (v := .int .i64 (ad : Int)) rfl⟩ (fun hHeld => ?_)
  clear hK K
  try simp only [Act.put, List.setIfInBounds_toArray, List.set_cons_zero, List.set_cons_succ]
  refine wpAnyH_take (i := 10) (oi := _) (v := ?_) rfl (by kernel_rfl) (by kernel_rfl) (by kernel_rfl) (fun _ _ _ h => h) (Or.inl ⟨by rfl, ?_⟩) (by assumption) ?_
  rotate_left
  · intro w hSw
    (try dsimp only at hSw)
    go_simp
    with_reducible rfl
  try simp only [Act.put, List.setIfInBounds_toArray, List.set_cons_zero, List.set_cons_succ]
  refine wpAnyH_take (i := 11) (oi := _) (v := ?_) rfl (by kernel_rfl) (by kernel_rfl) (by kernel_rfl) (fun _ _ _ h => h) (Or.inl ⟨by rfl, ?_⟩) (by assumption) ?_
  rotate_left
  · intro w hSw
    (try dsimp only at hSw)
    go_simp
    with_reducible rfl
  try simp only [Act.put, List.setIfInBounds_toArray, List.set_cons_zero, List.set_cons_succ]
  refine wpAnyH_take (i := 12) (oi := _) (v := ?_) rfl (by kernel_rfl) (by kernel_rfl) (by kernel_rfl) (fun _ _ _ h => h) (Or.inl ⟨by rfl, ?_⟩) (by assumption) ?_
  rotate_left
  · intro w hSw
    (try dsimp only at hSw)
    go_simp
    with_reducible rfl
  try simp only [Act.put, List.setIfInBounds_toArray, List.set_cons_zero, List.set_cons_succ]
  refine wpAnyH_take (i := 13) (oi := _) (v := ?_) rfl (by kernel_rfl) (by kernel_rfl) (by kernel_rfl) (fun _ _ _ h => h) (Or.inl ⟨by rfl, ?_⟩) (by assumption) ?_
  rotate_left
  · intro w hSw
    (try dsimp only at hSw)
    go_simp
    with_reducible rfl
  try simp only [Act.put, List.setIfInBounds_toArray, List.set_cons_zero, List.set_cons_succ]
  refine wpAnyH_take (i := 14) (oi := _) (v := ?_) rfl (by kernel_rfl) (by kernel_rfl) (by kernel_rfl) (fun _ _ _ h => h) (Or.inl ⟨by rfl, ?_⟩) (by assumption) ?_
  rotate_left
  · intro w hSw
    (try dsimp only at hSw)
    go_simp
    with_reducible rfl
  try simp only [Act.put, List.setIfInBounds_toArray, List.set_cons_zero, List.set_cons_succ]
  refine wpAnyH_done (by kernel_rfl) ?_ _
  clear hHeld g1
  cases r with
  | true =>
    have c14 := hg.l.l.r.c 14 (v := .bool true) rfl
    rw [show (vi == 1) = true by rw [HR.out rfl]; rfl] at HI
    go_wp2_with fail
    with_reducible refine (HI.out _).mono ?_
    rintro e w4 ⟨rfl, rfl⟩
    clear HI HR
    have hg1 := hg.drew_
    go_wp2_with fail
    clear c14
    have HG := Lib.hid hg
    refine wp_region_held_drew (S := fun w' => w'.cell? ⟨vb, 1, none⟩ = some (.int .i64 (o.a : Int)) ∧ w'.cell? ⟨b, 14, none⟩ = some (.bool true)) (by kernel_rfl) ⟨hg1.l.r.vc 1 (v := .int .i64 (o.a : Int)) rfl, hg1.l.l.r.c 14 (v := .bool true) rfl⟩ (fun hHeld => ?_)
    refine wpAnyH_take (i := 0) (oi := _) (v := ?_) rfl (by kernel_rfl) (by kernel_rfl) (by kernel_rfl) (fun _ _ _ h => h) (Or.inl ⟨by rfl, ?_⟩) (by assumption) ?_
    rotate_left
    · intro w hSw
      (try dsimp only at hSw)
      go_simp
      with_reducible rfl
    try simp only [Act.put, List.setIfInBounds_toArray, List.set_cons_zero, List.set_cons_succ]
    refine wpAnyH_take (i := 1) (oi := _) (v := ?_) rfl (by kernel_rfl) (by kernel_rfl) (by kernel_rfl) (fun _ _ _ h => h) (Or.inl ⟨by rfl, ?_⟩) (by assumption) ?_
    rotate_left
    · intro w hSw
      (try dsimp only at hSw)
      go_simp
      with_reducible rfl
    try simp only [Act.put, List.setIfInBounds_toArray, List.set_cons_zero, List.set_cons_succ]
    refine wpAnyH_take (i := 2) (oi := _) (v := ?_) rfl (by kernel_rfl) (by kernel_rfl) (by kernel_rfl) (fun _ _ _ h => h) (Or.inl ⟨by rfl, ?_⟩) (by assumption) ?_
    rotate_left
    · intro w hSw
      (try dsimp only at hSw)
      go_simp
      with_reducible rfl
    try simp only [Act.put, List.setIfInBounds_toArray, List.set_cons_zero, List.set_cons_succ]
    refine wpAnyH_take (i := 3) (oi := _) (v := ?_) rfl (by kernel_rfl) (by kernel_rfl) (by kernel_rfl) (fun _ _ _ h => h) (Or.inl ⟨by rfl, ?_⟩) (by assumption) ?_
    rotate_left
    · intro w hSw
      (try dsimp only at hSw)
      go_simp
      with_reducible rfl
    try simp only [Act.put, List.setIfInBounds_toArray, List.set_cons_zero, List.set_cons_succ]
    refine wpAnyH_take (i := 4) (oi := _) (v := ?_) rfl (by kernel_rfl) (by kernel_rfl) (by kernel_rfl) (fun _ _ _ h => h) (Or.inl ⟨by rfl, ?_⟩) (by assumption) ?_
    rotate_left
    · intro w hSw
      (try dsimp only at hSw)
      go_simp
      with_reducible rfl
    try simp only [Act.put, List.setIfInBounds_toArray, List.set_cons_zero, List.set_cons_succ]
    refine wpAnyH_take (i := 5) (oi := _) (v := ?_) rfl (by kernel_rfl) (by kernel_rfl) (by kernel_rfl) (fun _ _ _ h => h) (Or.inl ⟨by rfl, ?_⟩) (by assumption) ?_
    rotate_left
    · intro w hSw
      (try dsimp only at hSw)
      go_simp
      with_reducible rfl
    try simp only [Act.put, List.setIfInBounds_toArray, List.set_cons_zero, List.set_cons_succ]
    refine wpAnyH_take (i := 6) (oi := _) (v := ?_) rfl (by kernel_rfl) (by kernel_rfl) (by kernel_rfl) (fun _ _ _ h => h) (Or.inl ⟨by rfl, ?_⟩) (by assumption) ?_
    rotate_left
    · intro w hSw
      (try dsimp only at hSw)
      go_simp
      with_reducible rfl
    try simp only [Act.put, List.setIfInBounds_toArray, List.set_cons_zero, List.set_cons_succ]
    refine wpAnyH_take (i := 7) (oi := _) (v := ?_) rfl (by kernel_rfl) (by kernel_rfl) (by kernel_rfl) (fun _ _ _ h => h) (Or.inl ⟨by rfl, ?_⟩) (by assumption) ?_
    rotate_left
    · intro w hSw
      (try dsimp only at hSw)
      go_simp
      with_reducible rfl
    try simp only [Act.put, List.setIfInBounds_toArray, List.set_cons_zero, List.set_cons_succ]
    refine wpAnyH_take (i := 8) (oi := _) (v := ?_) rfl (by kernel_rfl) (by kernel_rfl) (by kernel_rfl) (fun _ _ _ h => h) (Or.inl ⟨by rfl, ?_⟩) (by assumption) ?_
    rotate_left
    · intro w hSw
      (try dsimp only at hSw)
      go_simp
      with_reducible rfl
    try simp only [Act.put, List.setIfInBounds_toArray, List.set_cons_zero, List.set_cons_succ]
    refine wpAnyH_take (i := 9) (oi := _) (v := ?_) rfl (by kernel_rfl) (by kernel_rfl) (by kernel_rfl) (fun _ _ _ h => h) (Or.inl ⟨by rfl, ?_⟩) (by assumption) ?_
    rotate_left
    · intro w hSw
      (try dsimp only at hSw)
      go_simp
      with_reducible rfl
    try simp only [Act.put, List.setIfInBounds_toArray, List.set_cons_zero, List.set_cons_succ]
    refine wpAnyH_ready (rs := [10]) (by kernel_rfl) (by simp) ?_
    refine AllReadyH.cons (o := _) rfl (fun K hK => ?_) AllReadyH.nil
    go_simp
    with_reducible refine (HL2.out _ hg1).mono ?_
    rintro e w5 ⟨rfl, hgx⟩
    have hg : Goes (Sep (Sep (Sep (Core A c q) (LThr b t ov lg n (Tc.next { x with addr := (ad : Int), ref := true }) (updL l o.a ⟨true, vk, vi⟩) X)) (Var vb #[.int .i64 (o.kd : Int), .int .i64 (o.a : Int), .int .i64 (o.b : Int), .int .i64 (o.c : Int), .int .i64 (o.n : Int), .complex .f64 o.z1 o.z2] 26)) (Var rb #[.int .i64 0, .int .i64 0, .int .i64 0, .bool false, .complex .f64 0 0] 41)) S w w5 := hgx
    clear hgx HL2 hHeld HG hg1
    go_wp2_with fail
    refine hK.out _ _ ⟨hg.l.r.vc 1 (v := .int .i64 (o.a : Int)) rfl, hg.l.l.r.c 14 (v := .bool true) rfl⟩ (fun hHeld => ?_)
    clear hK K
    try simp only [Act.put, List.setIfInBounds_toArray, List.set_cons_zero, List.set_cons_succ]
    refine wpAnyH_take (i := 11) (oi := _) (v := ?_) rfl (by kernel_rfl) (by kernel_rfl) (by kernel_rfl) (fun _ _ _ h => h) (Or.inl ⟨by rfl, ?_⟩) (by assumption) ?_
    rotate_left
    · intro w hSw
      (try dsimp only at hSw)
      go_simp
      with_reducible rfl
    try simp only [Act.put, List.setIfInBounds_toArray, List.set_cons_zero, List.set_cons_succ]
    refine wpAnyH_take (i := 12) (oi := _) (v := ?_) rfl (by kernel_rfl) (by kernel_rfl) (by kernel_rfl) (fun _ _ _ h => h) (Or.inl ⟨by rfl, ?_⟩) (by assumption) ?_
    rotate_left
    · intro w hSw
      (try dsimp only at hSw)
      go_simp
      with_reducible rfl
    try simp only [Act.put, List.setIfInBounds_toArray, List.set_cons_zero, List.set_cons_succ]
    have q0_ := hg.r.vc 0 (v := .int .i64 0) rfl
    have q1_ := hg.r.vc 1 (v := .int .i64 0) rfl
    have q2_ := hg.r.vc 2 (v := .int .i64 0) rfl
    have q3_ := hg.r.vc 3 (v := .bool false) rfl
    have q4_ := hg.r.vc 4 (v := .complex .f64 0 0) rfl
    have p0_ := hg.r.vf 0
    have p1_ := hg.r.vf 1
    have p2_ := hg.r.vf 2
    have p3_ := hg.r.vf 3
    have p4_ := hg.r.vf 4
    have g8_ := hg.then fun S h => goesR (fun S h => (((((Goes.begin h).vput 0 (.int .i64 x.nx) rfl).vput 1 (.int .i64 x.own) rfl).vput 2 (.int .i64 0) rfl).vput 3 (.bool true) rfl).vput 4 (.complex .f64 y1 y2) rfl) S h
    refine wpAnyH_ready (rs := [13]) (by kernel_rfl) (by simp) ?_
    refine AllReadyH.cons (o := _) rfl (fun K hK => ?_) AllReadyH.nil
    go_simp
    refine hK.out _ _ ⟨g8_.l.r.vc 1 (v := .int .i64 (o.a : Int)) rfl, g8_.l.l.r.c 14 (v := .bool true) rfl⟩ (fun hHeld => ?_)
    clear hK K
    have k0_ := g8_.r.vc 0 (v := .int .i64 x.nx) rfl
    have k1_ := g8_.r.vc 1 (v := .int .i64 x.own) rfl
    have k2_ := g8_.r.vc 2 (v := .int .i64 0) rfl
    have k3_ := g8_.r.vc 3 (v := .bool true) rfl
    have k4_ := g8_.r.vc 4 (v := .complex .f64 y1 y2) rfl
    have HF := Lib.hid g8_.l.l
    have s1_ := g8_.l.r.vc 1 (v := .int .i64 (o.a : Int)) rfl
    have s2_ := g8_.l.l.r.c 14 (v := .bool true) rfl
    clear g8_
    generalize World.setCell _ _ _ = w6 at *
    try simp only [Act.put, List.setIfInBounds_toArray, List.set_cons_zero, List.set_cons_succ]
    refine wpAnyH_ready (rs := [14]) (by kernel_rfl) (by simp) ?_
    refine AllReadyH.cons (o := _) rfl (fun K hK => ?_) AllReadyH.nil
    go_simp
    refine hK.out _ _ ⟨s1_, s2_⟩ (fun hHeld => ?_)
    clear hK K
    try simp only [Act.put, List.setIfInBounds_toArray, List.set_cons_zero, List.set_cons_succ]
    refine wpAnyH_done (by kernel_rfl) ?_ _
    clear hg q0_ q1_ q2_ q3_ q4_ p0_ p1_ p2_ p3_ p4_
    go_wp2_with fail
    exact bodyPost_ret (v := .tuple #[.agg #[.int .i64 x.nx, .int .i64 x.own, .int .i64 0, .bool true, .complex .f64 y1 y2], .bool true]) (by simp [results, Tryz.results112, go_sem, k0_, k1_, k2_, k3_, k4_]) rfl ⟨rfl, HF.out⟩
  | false =>
    have c14 := hg.l.l.r.c 14 (v := .bool false) rfl
    clear HI HR
    have hg1 := hg.drew_
    go_wp2_with fail
    clear c14
    have HG := Lib.hid hg
    refine wp_region_held_drew (S := fun w' => w'.cell? ⟨vb, 1, none⟩ = some (.int .i64 (o.a : Int)) ∧ w'.cell? ⟨b, 14, none⟩ = some (.bool false)) (by kernel_rfl) ⟨hg1.l.r.vc 1 (v := .int .i64 (o.a : Int)) rfl, hg1.l.l.r.c 14 (v := .bool false) rfl⟩ (fun hHeld => ?_)
    refine wpAnyH_take (i := 0) (oi := _) (v := ?_) rfl (by kernel_rfl) (by kernel_rfl) (by kernel_rfl) (fun _ _ _ h => h) (Or.inl ⟨by rfl, ?_⟩) (by assumption) ?_
    rotate_left
    · intro w hSw
      (try dsimp only at hSw)
      go_simp
      with_reducible rfl
    try simp only [Act.put, List.setIfInBounds_toArray, List.set_cons_zero, List.set_cons_succ]
    refine wpAnyH_take (i := 1) (oi := _) (v := ?_) rfl (by kernel_rfl) (by kernel_rfl) (by kernel_rfl) (fun _ _ _ h => h) (Or.inl ⟨by rfl, ?_⟩) (by assumption) ?_
    rotate_left
    · intro w hSw
      (try dsimp only at hSw)
      go_simp
      with_reducible rfl
    try simp only [Act.put, List.setIfInBounds_toArray, List.set_cons_zero, List.set_cons_succ]
    refine wpAnyH_take (i := 2) (oi := _) (v := ?_) rfl (by kernel_rfl) (by kernel_rfl) (by kernel_rfl) (fun _ _ _ h => h) (Or.inl ⟨by rfl, ?_⟩) (by assumption) ?_
    rotate_left
    · intro w hSw
      (try dsimp only at hSw)
      go_simp
      with_reducible rfl
    try simp only [Act.put, List.setIfInBounds_toArray, List.set_cons_zero, List.set_cons_succ]
    refine wpAnyH_take (i := 3) (oi := _) (v := ?_) rfl (by kernel_rfl) (by kernel_rfl) (by kernel_rfl) (fun _ _ _ h => h) (Or.inl ⟨by rfl, ?_⟩) (by assumption) ?_
    rotate_left
    · intro w hSw
      (try dsimp only at hSw)
      go_simp
      with_reducible rfl
    try simp only [Act.put, List.setIfInBounds_toArray, List.set_cons_zero, List.set_cons_succ]
    refine wpAnyH_take (i := 4) (oi := _) (v := ?_) rfl (by kernel_rfl) (by kernel_rfl) (by kernel_rfl) (fun _ _ _ h => h) (Or.inl ⟨by rfl, ?_⟩) (by assumption) ?_
    rotate_left
    · intro w hSw
      (try dsimp only at hSw)
      go_simp
      with_reducible rfl
    try simp only [Act.put, List.setIfInBounds_toArray, List.set_cons_zero, List.set_cons_succ]
    refine wpAnyH_take (i := 5) (oi := _) (v := ?_) rfl (by kernel_rfl) (by kernel_rfl) (by kernel_rfl) (fun _ _ _ h => h) (Or.inl ⟨by rfl, ?_⟩) (by assumption) ?_
    rotate_left
    · intro w hSw
      (try dsimp only at hSw)
      go_simp
      with_reducible rfl
    try simp only [Act.put, List.setIfInBounds_toArray, List.set_cons_zero, List.set_cons_succ]
    refine wpAnyH_take (i := 6) (oi := _) (v := ?_) rfl (by kernel_rfl) (by kernel_rfl) (by kernel_rfl) (fun _ _ _ h => h) (Or.inl ⟨by rfl, ?_⟩) (by assumption) ?_
    rotate_left
    · intro w hSw
      (try dsimp only at hSw)
      go_simp
      with_reducible rfl
    try simp only [Act.put, List.setIfInBounds_toArray, List.set_cons_zero, List.set_cons_succ]
    refine wpAnyH_take (i := 7) (oi := _) (v := ?_) rfl (by kernel_rfl) (by kernel_rfl) (by kernel_rfl) (fun _ _ _ h => h) (Or.inl ⟨by rfl, ?_⟩) (by assumption) ?_
    rotate_left
    · intro w hSw
      (try dsimp only at hSw)
      go_simp
      with_reducible rfl
    try simp only [Act.put, List.setIfInBounds_toArray, List.set_cons_zero, List.set_cons_succ]
    refine wpAnyH_take (i := 8) (oi := _) (v := ?_) rfl (by kernel_rfl) (by kernel_rfl) (by kernel_rfl) (fun _ _ _ h => h) (Or.inl ⟨by rfl, ?_⟩) (by assumption) ?_
    rotate_left
    · intro w hSw
      (try dsimp only at hSw)
      go_simp
      with_reducible rfl
    try simp only [Act.put, List.setIfInBounds_toArray, List.set_cons_zero, List.set_cons_succ]
    refine wpAnyH_take (i := 9) (oi := _) (v := ?_) rfl (by kernel_rfl) (by kernel_rfl) (by kernel_rfl) (fun _ _ _ h => h) (Or.inl ⟨by rfl, ?_⟩) (by assumption) ?_
    rotate_left
    · intro w hSw
      (try dsimp only at hSw)
      go_simp
      with_reducible rfl
    try simp only [Act.put, List.setIfInBounds_toArray, List.set_cons_zero, List.set_cons_succ]
    refine wpAnyH_ready (rs := [10]) (by kernel_rfl) (by simp) ?_
    refine AllReadyH.cons (o := _) rfl (fun K hK => ?_) AllReadyH.nil
    go_simp
    with_reducible refine (HL2.out _ hg1).mono ?_
    rintro e w5 ⟨rfl, hgx⟩
    have hg : Goes (Sep (Sep (Sep (Core A c q) (LThr b t ov lg n (Tc.next { x with addr := (ad : Int), ref := false }) (updL l o.a ⟨false, vk, vi⟩) X)) (Var vb #[.int .i64 (o.kd : Int), .int .i64 (o.a : Int), .int .i64 (o.b : Int), .int .i64 (o.c : Int), .int .i64 (o.n : Int), .complex .f64 o.z1 o.z2] 26)) (Var rb #[.int .i64 0, .int .i64 0, .int .i64 0, .bool false, .complex .f64 0 0] 41)) S w w5 := hgx
    clear hgx HL2 hHeld HG hg1
    go_wp2_with fail
    refine hK.out _ _ ⟨hg.l.r.vc 1 (v := .int .i64 (o.a : Int)) rfl, hg.l.l.r.c 14 (v := .bool false) rfl⟩ (fun hHeld => ?_)
    clear hK K
    try simp only [Act.put, List.setIfInBounds_toArray, List.set_cons_zero, List.set_cons_succ]
    refine wpAnyH_take (i := 11) (oi := _) (v := ?_) rfl (by kernel_rfl) (by kernel_rfl) (by kernel_rfl) (fun _ _ _ h => h) (Or.inl ⟨by rfl, ?_⟩) (by assumption) ?_
    rotate_left
    · intro w hSw
      (try dsimp only at hSw)
      go_simp
      with_reducible rfl
    try simp only [Act.put, List.setIfInBounds_toArray, List.set_cons_zero, List.set_cons_succ]
    refine wpAnyH_take (i := 12) (oi := _) (v := ?_) rfl (by kernel_rfl) (by kernel_rfl) (by kernel_rfl) (fun _ _ _ h => h) (Or.inl ⟨by rfl, ?_⟩) (by assumption) ?_
    rotate_left
    · intro w hSw
      (try dsimp only at hSw)
      go_simp
      with_reducible rfl
    try simp only [Act.put, List.setIfInBounds_toArray, List.set_cons_zero, List.set_cons_succ]
    have q0_ := hg.r.vc 0 (v := .int .i64 0) rfl
    have q1_ := hg.r.vc 1 (v := .int .i64 0) rfl
    have q2_ := hg.r.vc 2 (v := .int .i64 0) rfl
    have q3_ := hg.r.vc 3 (v := .bool false) rfl
    have q4_ := hg.r.vc 4 (v := .complex .f64 0 0) rfl
    have p0_ := hg.r.vf 0
    have p1_ := hg.r.vf 1
    have p2_ := hg.r.vf 2
    have p3_ := hg.r.vf 3
    have p4_ := hg.r.vf 4
    have g8_ := hg.then fun S h => goesR (fun S h => (((((Goes.begin h).vput 0 (.int .i64 x.nx) rfl).vput 1 (.int .i64 x.own) rfl).vput 2 (.int .i64 0) rfl).vput 3 (.bool false) rfl).vput 4 (.complex .f64 y1 y2) rfl) S h
    refine wpAnyH_ready (rs := [13]) (by kernel_rfl) (by simp) ?_
    refine AllReadyH.cons (o := _) rfl (fun K hK => ?_) AllReadyH.nil
    go_simp
    refine hK.out _ _ ⟨g8_.l.r.vc 1 (v := .int .i64 (o.a : Int)) rfl, g8_.l.l.r.c 14 (v := .bool false) rfl⟩ (fun hHeld => ?_)
    clear hK K
    have k0_ := g8_.r.vc 0 (v := .int .i64 x.nx) rfl
    have k1_ := g8_.r.vc 1 (v := .int .i64 x.own) rfl
    have k2_ := g8_.r.vc 2 (v := .int .i64 0) rfl
    have k3_ := g8_.r.vc 3 (v := .bool false) rfl
    have k4_ := g8_.r.vc 4 (v := .complex .f64 y1 y2) rfl
    have HF := Lib.hid g8_.l.l
    have s1_ := g8_.l.r.vc 1 (v := .int .i64 (o.a : Int)) rfl
    have s2_ := g8_.l.l.r.c 14 (v := .bool false) rfl
    clear g8_
    generalize World.setCell _ _ _ = w6 at *
    try simp only [Act.put, List.setIfInBounds_toArray, List.set_cons_zero, List.set_cons_succ]
    refine wpAnyH_ready (rs := [14]) (by kernel_rfl) (by simp) ?_
    refine AllReadyH.cons (o := _) rfl (fun K hK => ?_) AllReadyH.nil
    go_simp
    refine hK.out _ _ ⟨s1_, s2_⟩ (fun hHeld => ?_)
    clear hK K
    try simp only [Act.put, List.setIfInBounds_toArray, List.set_cons_zero, List.set_cons_succ]
    refine wpAnyH_done (by kernel_rfl) ?_ _
    clear hg q0_ q1_ q2_ q3_ q4_ p0_ p1_ p2_ p3_ p4_
    go_wp2_with fail
    exact bodyPost_ret (v := .tuple #[.agg #[.int .i64 x.nx, .int .i64 x.own, .int .i64 0, .bool false, .complex .f64 y1 y2], .bool true]) (by simp [results, Tryz.results112, go_sem, k0_, k1_, k2_, k3_, k4_]) rfl ⟨rfl, HF.out⟩
end
end Go.Proofs.YtnkgnhpapcnebaaGreat
/- A thread: a write begins. -/
namespace Go.Proofs.YtnkgnhpapcnebaaGreat
open Go.RowKit
attribute [local go_sem] run_store_complex via_ret via_normal via_exit via_panic
section
variable {b t : Nat} {ov lv : Value} {x : Tc} {X : Thing} {S : Nat → Prop} {w w' : World} {A : CA} {c : Cf} {q : Q} {lg n : Nat} {l : Nat → Lc}
set_option maxRecDepth 100000 in
theorem act_chooses {o : Opn} {r : Bool} (hr : x.ref = r) (hj : o.b < n) (h : (LThr b t ov lg n x l X).at_ S w) :
    Calls Tryz.prog 174 #[.pointer (some ⟨b, 0, none⟩), .agg (opc o)] w fun e w' => e = .returned (.tuple #[]) ∧ Goes (LThr b t ov lg n { x with at_ := if r && shd x.st then 3 else 6, w1 := fl (l o.b).k, w2 := fl (l o.b).i } l X) S w w' := by
  have g0 := (Goes.begin h).moreSt (St.fresh (opc o) 26)
  obtain ⟨vb, hvb⟩ : ∃ k, w.heap.size = k := ⟨_, rfl⟩
  rw [hvb] at g0
  have g1 := g0.drew_
  have c2 := g1.l.c 2 (v := .slice (some ⟨lg, 0, none⟩) n n) rfl
  obtain ⟨d0, d1⟩ := lthr_cells g1.l hj
  have o2 := g1.r.vc 2 (v := .int .i64 (o.b : Int)) rfl
  have c16 := g1.l.c 16 (v := .complex .f64 x.w1 x.w2) rfl
  have c11 := g1.l.c 11 (v := .int .i64 x.at_) rfl
  have f16 := g1.l.fr 16
  have f11 := g1.l.fr 11
  have g2 : Goes (Sep (LThr b t ov lg n { x with w1 := fl (l o.b).k, w2 := fl (l o.b).i } l X) (Var vb (opc o) 26)) S w _ := g1.then fun S h => goesL (fun S h => (Goes.begin h).put 16 (.complex .f64 (fl (l o.b).k) (fl (l o.b).i)) (cs' := thCells t ov (.slice (some ⟨lg, 0, none⟩) n n) { x with w1 := fl (l o.b).k, w2 := fl (l o.b).i }) rfl) S h
  have g3 : Goes (Sep (LThr b t ov lg n { x with at_ := 6, w1 := fl (l o.b).k, w2 := fl (l o.b).i } l X) (Var vb (opc o) 26)) S w _ := g2.then fun S h => goesL (fun S h => (Goes.begin h).put 11 (.int .i64 6) (cs' := thCells t ov (.slice (some ⟨lg, 0, none⟩) n n) { x with at_ := 6, w1 := fl (l o.b).k, w2 := fl (l o.b).i }) rfl) S h
  have c11' := g2.l.c 11 (v := .int .i64 x.at_) rfl
  have f11' := g2.l.fr 11
  have S2_ := And.intro (g2.l.c 2 (v := .slice (some ⟨lg, 0, none⟩) n n) rfl) (And.intro (lthr_cells g2.l hj).2 (g2.r.vc 2 (v := .int .i64 (o.b : Int)) rfl))
  have S3_ := And.intro (g3.l.c 2 (v := .slice (some ⟨lg, 0, none⟩) n n) rfl) (And.intro (lthr_cells g3.l hj).2 (g3.r.vc 2 (v := .int .i64 (o.b : Int)) rfl))
  have HG := Lib.hid g3
  have HR := Lib.hid hr
  have hjn : (o.b : Int) < (n : Int) := by omega
  unfold opc at *
  generalize fl (l o.b).k = y1 at *
  generalize fl (l o.b).i = y2 at *
  clear h g0 g1 g2 g3 hr
  go_enter Tryz.func174, Tryz.ntmps174
  go_upto_region 1 with fail
  generalize w.alloc _ = w1 at *
  refine wp_region_held_drew (S := (fun w' => w'.cell? ⟨b, 2, none⟩ = some (.slice (some ⟨lg, 0, none⟩) n n) ∧ w'.cell? ⟨lg, o.b * 2 + 1, none⟩ = some (.complex .f64 y1 y2) ∧ w'.cell? ⟨vb, 2, none⟩ = some (.int .i64 (o.b : Int)))) (by kernel_rfl) ⟨c2, d1, o2⟩ (fun hHeld => ?_)
  generalize w1.drew = wd at *
  refine wpAnyH_take (i := 0) (oi := _) (v := ?_) rfl (by kernel_rfl) (by kernel_rfl) (by kernel_rfl) (fun _ _ _ h => h) (Or.inl ⟨by rfl, ?_⟩) (by assumption) ?_
  rotate_left
  · intro w hSw
    (try dsimp only at hSw)
    go_simp
    with_reducible rfl
  try simp only [Act.put, List.setIfInBounds_toArray, List.set_cons_zero, List.set_cons_succ]
  refine wpAnyH_take (i := 1) (oi := _) (v := ?_) rfl (by kernel_rfl) (by kernel_rfl) (by kernel_rfl) (fun _ _ _ h => h) (Or.inl ⟨by rfl, ?_⟩) (by assumption) ?_
  rotate_left
  · intro w hSw
    (try dsimp only at hSw)
    go_simp
    with_reducible rfl
  try simp only [Act.put, List.setIfInBounds_toArray, List.set_cons_zero, List.set_cons_succ]
  refine wpAnyH_take (i := 2) (oi := _) (v := ?_) rfl (by kernel_rfl) (by kernel_rfl) (by kernel_rfl) (fun _ _ _ h => h) (Or.inl ⟨by rfl, ?_⟩) (by assumption) ?_
  rotate_left
  · intro w hSw
    (try dsimp only at hSw)
    go_simp
    with_reducible rfl
  try simp only [Act.put, List.setIfInBounds_toArray, List.set_cons_zero, List.set_cons_succ]
  refine wpAnyH_take (i := 3) (oi := _) (v := ?_) rfl (by kernel_rfl) (by kernel_rfl) (by kernel_rfl) (fun _ _ _ h => h) (Or.inl ⟨by rfl, ?_⟩) (by assumption) ?_
  rotate_left
  · intro w hSw
    (try dsimp only at hSw)
    go_simp
    with_reducible rfl
  try simp only [Act.put, List.setIfInBounds_toArray, List.set_cons_zero, List.set_cons_succ]
  refine wpAnyH_take (i := 4) (oi := _) (v := ?_) rfl (by kernel_rfl) (by kernel_rfl) (by kernel_rfl) (fun _ _ _ h => h) (Or.inl ⟨by rfl, ?_⟩) (by assumption) ?_
  rotate_left
  · intro w hSw
    (try dsimp only at hSw)
    go_simp
    with_reducible rfl
  try simp only [Act.put, List.setIfInBounds_toArray, List.set_cons_zero, List.set_cons_succ]
  refine wpAnyH_take (i := 5) (oi := _) (v := ?_) rfl (by kernel_rfl) (by kernel_rfl) (by kernel_rfl) (fun _ _ _ h => h) (Or.inl ⟨by rfl, ?_⟩) (by assumption) ?_
  rotate_left
  · intro w hSw
    (try dsimp only at hSw)
    go_simp
    with_reducible rfl
  try simp only [Act.put, List.setIfInBounds_toArray, List.set_cons_zero, List.set_cons_succ]
  refine wpAnyH_take (i := 6) (oi := _) (v := ?_) rfl (by kernel_rfl) (by kernel_rfl) (by kernel_rfl) (fun _ _ _ h => h) (Or.inl ⟨by rfl, ?_⟩) (by assumption) ?_
  rotate_left
  · intro w hSw
    (try dsimp only at hSw)
    go_simp
    with_reducible rfl
  try simp only [Act.put, List.setIfInBounds_toArray, List.set_cons_zero, List.set_cons_succ]
  refine wpAnyH_take (i := 7) (oi := _) (v := ?_) rfl (by kernel_rfl) (by kernel_rfl) (by kernel_rfl) (fun _ _ _ h => h) (Or.inl ⟨by rfl, ?_⟩) (by assumption) ?_
  rotate_left
  · intro w hSw
    (try dsimp only at hSw)
    go_simp
    with_reducible rfl
  try simp only [Act.put, List.setIfInBounds_toArray, List.set_cons_zero, List.set_cons_succ]
  refine wpAnyH_take (i := 8) (oi := _) (v := ?_) rfl (by kernel_rfl) (by kernel_rfl) (by kernel_rfl) (fun _ _ _ h => h) (Or.inl ⟨by rfl, ?_⟩) (by assumption) ?_
  rotate_left
  · intro w hSw
    (try dsimp only at hSw)
    go_simp
    with_reducible rfl
  try simp only [Act.put, List.setIfInBounds_toArray, List.set_cons_zero, List.set_cons_succ]
  refine wpAnyH_take (i := 9) (oi := _) (v := ?_) rfl (by kernel_rfl) (by kernel_rfl) (by kernel_rfl) (fun _ _ _ h => h) (Or.inl ⟨by rfl, ?_⟩) (by assumption) ?_
  rotate_left
  · intro w hSw
    (try dsimp only at hSw)
    go_simp
    with_reducible rfl
  try simp only [Act.put, List.setIfInBounds_toArray, List.set_cons_zero, List.set_cons_succ]
  refine wpAnyH_take (i := 10) (oi := _) (v := ?_) rfl (by kernel_rfl) (by kernel_rfl) (by kernel_rfl) (fun _ _ _ h => h) (Or.inl ⟨by rfl, ?_⟩) (by assumption) ?_
  rotate_left
  · intro w hSw
    (try dsimp only at hSw)
    go_simp
    with_reducible rfl
  try simp only [Act.put, List.setIfInBounds_toArray, List.set_cons_zero, List.set_cons_succ]
  refine wpAnyH_take (i := 11) (oi := _) (v := ?_) rfl (by kernel_rfl) (by kernel_rfl) (by kernel_rfl) (fun _ _ _ h => h) (Or.inl ⟨by rfl, ?_⟩) (by assumption) ?_
  rotate_left
  · intro w hSw
    (try dsimp only at hSw)
    go_simp
    with_reducible rfl
  try simp only [Act.put, List.setIfInBounds_toArray, List.set_cons_zero, List.set_cons_succ]
  refine wpAnyH_take (i := 12) (oi := _) (v := ?_) rfl (by kernel_rfl) (by kernel_rfl) (by kernel_rfl) (fun _ _ _ h => h) (Or.inl ⟨by rfl, ?_⟩) (by assumption) ?_
  rotate_left
  · intro w hSw
    (try dsimp only at hSw)
    go_simp
    with_reducible rfl
  try simp only [Act.put, List.setIfInBounds_toArray, List.set_cons_zero, List.set_cons_succ]
  refine wpAnyH_take (i := 13) (oi := _) (v := ?_) rfl (by kernel_rfl) (by kernel_rfl) (by kernel_rfl) (fun _ _ _ h => h) (Or.inl ⟨by rfl, ?_⟩) (by assumption) ?_
  rotate_left
  · intro w hSw
    (try dsimp only at hSw)
    go_simp
    with_reducible rfl
  try simp only [Act.put, List.setIfInBounds_toArray, List.set_cons_zero, List.set_cons_succ]
  refine wpAnyH_ready (rs := [14]) (by kernel_rfl) (by simp) ?_
  refine AllReadyH.cons (o := _) rfl (fun K hK => ?_) AllReadyH.nil
  go_simp
  refine hK.out _ _ S2_ (fun hHeld => ?_)
  clear hK K
  try simp only [Act.put, List.setIfInBounds_toArray, List.set_cons_zero, List.set_cons_succ]
  refine wpAnyH_take (i := 15) (oi := _) (v := ?_) rfl (by kernel_rfl) (by kernel_rfl) (by kernel_rfl) (fun _ _ _ h => h) (Or.inl ⟨by rfl, ?_⟩) (by assumption) ?_
  rotate_left
  · intro w hSw
    (try dsimp only at hSw)
    go_simp
    with_reducible rfl
  try simp only [Act.put, List.setIfInBounds_toArray, List.set_cons_zero, List.set_cons_succ]
  refine wpAnyH_take (i := 16) (oi := _) (v := ?_) rfl (by kernel_rfl) (by kernel_rfl) (by kernel_rfl) (fun _ _ _ h => h) (Or.inl ⟨by rfl, ?_⟩) (by assumption) ?_
  rotate_left
  · intro w hSw
    (try dsimp only at hSw)
    go_simp
    with_reducible rfl
  try simp only [Act.put, List.setIfInBounds_toArray, List.set_cons_zero, List.set_cons_succ]
  refine wpAnyH_take (i := 17) (oi := _) (v := ?_) rfl (by kernel_rfl) (by kernel_rfl) (by kernel_rfl) (fun _ _ _ h => h) (Or.inl ⟨by rfl, ?_⟩) (by assumption) ?_
  rotate_left
  · intro w hSw
    (try dsimp only at hSw)
    go_simp
    with_reducible rfl
  try simp only [Act.put, List.setIfInBounds_toArray, List.set_cons_zero, List.set_cons_succ]
  refine wpAnyH_ready (rs := [18]) (by kernel_rfl) (by simp) ?_
  refine AllReadyH.cons (o := _) rfl (fun K hK => ?_) AllReadyH.nil
  go_simp
  refine hK.out _ _ S3_ (fun hHeld => ?_)
  clear hK K
  try simp only [Act.put, List.setIfInBounds_toArray, List.set_cons_zero, List.set_cons_succ]
  refine wpAnyH_done (by kernel_rfl) ?_ _
  generalize World.setCell _ _ _ = w3 at *
  clear S2_ S3_ hHeld
  clear c2 d0 d1 o2 c16 c11 f16 f11 c11' f11'
  have c14 := HG.out.l.c 14 (v := .bool x.ref) rfl
  rw [HR.out] at c14
  cases r with
  | false =>
    have HF := Lib.hid HG.out.l
    clear HG HR
    go_wp2_with fail
    all_goals first | (go_end0; exact ⟨rfl, HF.out⟩) | skip
  | true =>
    have HS := Lib.hid (act_shades HG.out.l.is)
    cases hs : shd x.st with
    | false =>
      have HS2 := HS.out
      simp only at HS2
      rw [hs] at HS2
      have HS3 := Lib.hid HS2
      have HF := Lib.hid HG.out.l
      clear HG HR HS HS2
      go_wp2_with fail
      with_reducible refine HS3.out.mono ?_
      rintro e w4 ⟨rfl, rfl⟩
      go_wp2_with fail
      all_goals (go_end0; exact ⟨rfl, HF.out⟩)
    | true =>
      have HS2 := HS.out
      simp only at HS2
      rw [hs] at HS2
      have HS3 := Lib.hid HS2
      have c11 := HG.out.l.c 11 (v := .int .i64 6) rfl
      have f11 := HG.out.l.fr 11
      have g4 : Goes (Sep (LThr b t ov lg n { x with at_ := 3, w1 := y1, w2 := y2 } l X) _) S w _ := HG.out.then fun S h => goesL (fun S h => (Goes.begin h).put 11 (.int .i64 3) (cs' := thCells t ov (.slice (some ⟨lg, 0, none⟩) n n) { x with at_ := 3, w1 := y1, w2 := y2 }) rfl) S h
      have HF := Lib.hid g4.l
      clear HG HR HS HS2 g4
      go_wp2_with fail
      with_reducible refine HS3.out.mono ?_
      rintro e w4 ⟨rfl, rfl⟩
      go_wp2_with fail
      all_goals (go_end0; exact ⟨rfl, HF.out⟩)
end
end Go.Proofs.YtnkgnhpapcnebaaGreat
