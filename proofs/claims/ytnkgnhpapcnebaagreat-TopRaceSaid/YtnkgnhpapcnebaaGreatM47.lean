/- The law: the scripts are laid down. -/
import Derived.Test.YtnkgnhpapcnebaaGreatM46
set_option linter.unusedVariables false
set_option linter.unusedSimpArgs false
set_option maxHeartbeats 8000000
namespace Go.Proofs.YtnkgnhpapcnebaaGreat
open Go.RowKit
attribute [local go_sem] run_store_complex via_ret via_normal via_exit via_panic
set_option maxRecDepth 100000 in
theorem Tryz.info27 : (Tryz.prog.info? 27).map (fun i => (i.zero, i.size, i.bytes)) = some (some (.slice none 0 0), 1, 24) := by kernel_rfl
/-- The scripts of the law. -/
def scT (t : Nat) : Nat → Opn := if t = 0 then o0 8 else o1 t
def noT (t : Nat) : Nat := if t = 0 then 2 else 40
set_option maxRecDepth 100000 in
theorem scT_1 {t : Nat} (h : 1 ≤ t) : scT t = o1 t := by unfold scT; rw [if_neg (by omega)]
set_option maxRecDepth 100000 in
theorem noT_1 {t : Nat} (h : 1 ≤ t) : noT t = 40 := by unfold noT; rw [if_neg (by omega)]
/-- Five operations. -/
def five (t i : Nat) : Array Value := #[.int .i64 7, .int .i64 0, .int .i64 0, .int .i64 0, .int .i64 0, .complex .f64 0 0, .int .i64 12, .int .i64 1, .int .i64 0, .int .i64 0, .int .i64 0, .complex .f64 (fl t) (fl i), .int .i64 4, .int .i64 0, .int .i64 1, .int .i64 0, .int .i64 2, .complex .f64 0 0, .int .i64 3, .int .i64 2, .int .i64 0, .int .i64 0, .int .i64 2, .complex .f64 0 0, .int .i64 13, .int .i64 0, .int .i64 0, .int .i64 0, .int .i64 0, .complex .f64 0 0]
set_option maxRecDepth 100000 in
theorem opL_five (t i : Nat) : opL (o1 t) (5 * (i + 1)) = opL (o1 t) (5 * i) ++ (five t i).toList := by
  rw [show 5 * (i + 1) = 5 * i + 1 + 1 + 1 + 1 + 1 by omega]
  rw [opL, opL, opL, opL, opL]
  rw [o1_0 (t := t) (i := 5 * i) (by omega), o1_1 (t := t) (i := 5 * i + 1) (by omega), o1_2 (t := t) (i := 5 * i + 1 + 1) (by omega), o1_3 (t := t) (i := 5 * i + 1 + 1 + 1) (by omega), o1_4 (t := t) (i := 5 * i + 1 + 1 + 1 + 1) (by omega)]
  rw [show (5 * i + 1) / 5 = i by omega]
  simp [opc, five]
set_option maxRecDepth 100000 in
theorem five_one (t i : Nat) : ∀ u ∈ (five t i).toList, u.oneCell' = true := by
  intro u hu
  simp [five] at hu
  rcases hu with rfl | rfl | rfl | rfl | rfl | rfl | rfl | rfl | rfl | rfl | rfl | rfl | rfl | rfl | rfl | rfl | rfl | rfl | rfl | rfl | rfl <;> rfl
set_option maxRecDepth 100000 in
theorem row_full {e sz n g : Nat} {cs : Array Value} {S : Nat → Prop} {w : World} (hn : n ≤ maxLen) (hs : cs.size = n * sz) (h : (Var g cs e).at_ S w) : (RowG e sz (.slice (some ⟨g, 0, none⟩) n n) n cs.toList).at_ S w := by
  obtain ⟨h1, h2, h3⟩ := h
  exact ⟨⟨by simp [hs], .inr ⟨g, n, cs, rfl, Nat.zero_le _, h1, Nat.le_refl _, hn, hs, by rw [← hs, ← Array.length_toList, List.take_length]⟩⟩, fun k => ⟨fun hk => by rw [h3 k hk]; rfl, fun hk => by simp [Value.ownBlock] at hk; subst hk; exact h2⟩⟩
set_option maxRecDepth 100000 in
theorem vs_push (vs : Nat → Value) (n : Nat) (v : Value) : (List.range (n + 1)).map (fun i => if i = n then v else vs i) = (List.range n).map vs ++ [v] := by
  rw [List.range_succ, List.map_append]
  congr 1
  · apply List.map_congr_left
    intro k hk
    rw [if_neg (by simp at hk; omega)]
  · simp
/-- The scripts, each. -/
def Scs (vs : Nat → Value) (n : Nat) : Thing := All n fun j => Seq 6 (vs j) (noT j) (opL (scT j) (noT j))
def OT (vs : Nat → Value) (ov : Value) (n : Nat) : Thing := Sep (Scs vs n) (RowG 27 1 ov n ((List.range n).map vs))
section
variable {S : Nat → Prop} {w w' : World}
set_option maxRecDepth 100000 in
theorem ops0 {ob gb : Nat} (h : (Sep (Sep Emp (Var ob #[.int .i64 1, .int .i64 0, .int .i64 0, .int .i64 0, .int .i64 0, .complex .f64 0 0, .int .i64 8, .int .i64 0, .int .i64 0, .int .i64 0, .int .i64 0, .complex .f64 0 0] 26)) (Var gb #[.slice (some ⟨ob, 0, none⟩) 2 2] 27)).at_ S w) :
    (OT (fun _ => .slice (some ⟨ob, 0, none⟩) 2 2) (.slice (some ⟨gb, 0, none⟩) 1 1) 1).at_ S w :=
  sepAt.monoL (fun _ h => sepAt.monoR (fun _ h => opsSeq (o := o0 8) (by rfl) (by omega) (by unfold maxLen; omega) h) h) (sepAt.monoR (fun _ h => row_full (by unfold maxLen; omega) rfl h) h)
set_option maxRecDepth 100000 in
theorem ot_push {vs : Nat → Value} {v ov' : Value} {t : Nat} (h1 : 1 ≤ t) (h : (Sep (Sep (Scs vs t) (RowG 27 1 ov' (t + 1) ((List.range t).map vs ++ [v]))) (RowG 26 6 v 40 (opL (o1 t) 40))).at_ S w) :
    (OT (fun i => if i = t then v else vs i) ov' (t + 1)).at_ S w := by
  unfold OT
  rw [vs_push]
  refine sepAt.monoL (fun _ h => ?_) (sepAt.rot h)
  refine all_push2 (T := fun j v => Seq 6 v (noT j) (opL (scT j) (noT j))) (f := vs) (sepAt.monoR (fun _ h => ?_) h)
  rw [noT_1 h1, scT_1 h1]
  exact seq_of_row h (by omega)
set_option maxRecDepth 100000 in
theorem opsInT {vs : Nat → Value} {gb n capn : Nat} {C : Thing} (hn : n ≠ 0) : OpsIn (Sep (OT vs (.slice (some ⟨gb, 0, none⟩) n capn) n) C) gb 0 n vs noT scT where
  cell := fun S w h t ht => ((Goes.begin h).l.r.conv fun _ _ h => seq_of_row h hn).seq (i := t) (by simp [ht])
  seq := fun S w h t ht => by
    obtain ⟨S0, h0, _⟩ := sepAt.l h
    obtain ⟨S1, h1, _⟩ := sepAt.l h0
    obtain ⟨S2, h2, _⟩ := all_get h1 t ht
    exact ⟨S2, h2⟩
  len := fun t ht => by unfold noT; split <;> omega
end
end Go.Proofs.YtnkgnhpapcnebaaGreat
/- The law: what stays so from step to step. -/
namespace Go.Proofs.YtnkgnhpapcnebaaGreat
open Go.RowKit
section
variable {c : Cf} {q q' : Q} {p p' : P} {k t n : Nat} {bn bn' : Bool} {y y' : Yc} {K K' : Thing}
set_option maxRecDepth 100000 in
theorem At0.to (hw : q'.m.wr = q.m.wr) (h : At0 c k q p) : At0 c k q' p := by
  rcases h with ⟨h1, h2, h3⟩ | ⟨h1, h2, h3⟩ | ⟨h1, h2, h3, h4, h5⟩ | ⟨h1, h2, h3, h4, h5⟩ | ⟨h1, h2, h3, h4⟩ | ⟨h1, h2, h3, h4⟩ | ⟨h1, h2, h3, h4⟩ | ⟨r, h1, h2, h3, h4, h5, h6⟩ | ⟨h1, h2, h3, h4, h5⟩ | ⟨h1, h2, h3, h4, h5, h6, h7, h8, h9⟩ | ⟨h1, h2, h3, h4, h5, h6, h7, h8, h9⟩ | ⟨h1, h2⟩
  · exact .out h1 h2 h3
  · exact .look h1 h2 h3
  · exact .grey h1 h2 h3 h4 h5
  · exact .give h1 h2 h3 h4 h5
  · exact .drain h1 h2 h3 h4
  · exact .leave h1 h2 h3 h4
  · exact .start h1 h2 h3 h4
  · exact .make r h1 h2 h3 h4 h5 (hw.trans h6)
  · exact .born h1 h2 h3 h4 (hw.trans h5)
  · exact .shade h1 h2 h3 h4 h5 h6 h7 h8 h9
  · exact .write h1 h2 h3 h4 h5 h6 h7 h8 h9
  · exact .gone h1 h2
set_option maxRecDepth 100000 in
theorem J0.to (h : J0 c k q p) (hw : q'.m.wr = q.m.wr) (hp : q'.m.pb = q.m.pb) (ha : q'.ask = q.ask) (hb : q'.bn = q.bn) (ho : q'.h.own 0 = q.h.own 0) : J0 c k q' p where
  nx := h.nx
  loc := h.loc
  lref := h.lref
  hw := fun a => hw.trans (h.hw a)
  pb := fun a => hp.trans (h.pb a)
  zero := fun a b => ⟨ha.trans (h.zero a b).1, hw.trans (h.zero a b).2⟩
  bz := fun a => hb.trans (h.bz a)
  end4 := h.end4
  out := fun a => ho.trans (h.out a)
  here := fun a => by rw [ho]; exact h.here a
  at0 := h.at0.to hw
set_option maxRecDepth 100000 in
theorem J1.to (h : J1 c q t p) (ho : q'.h.own t = q.h.own t) (hp : q.m.pb = true → q'.m.pb = true) : J1 c q' t p where
  nx := h.nx
  loc := h.loc
  pub := fun a => hp (h.pub a)
  wr := fun a b => hp (h.wr a b)
  out := fun a => ho.trans (h.out a)
  here := fun a => by rw [ho]; exact h.here a
  pos := h.pos
  at1 := h.at1
set_option maxRecDepth 100000 in
theorem CyOk.born (h : CyOk c bn y K) (hb : bn = true → bn' = true) : CyOk c bn' y K := ⟨h.mv, h.roots, fun a b => ⟨hb (h.marks a b).1, (h.marks a b).2⟩, h.hauls⟩
end
/-- What is so between the steps. -/
structure LawOk (c : Cf) (n : Nat) (q : Q) (y : Yc) (K : Thing) (p : Nat → P) : Prop where
  g : Gi c q
  j0 : J0 c 8 q (p 0)
  j1 : ∀ t, 1 ≤ t → t < n → J1 c q t (p t)
  cy : CyOk c q.bn y K
/-- What a step tells. -/
inductive Said (n : Nat) (x : Int) (rs : Rs) (q q' : Q) : Prop
  | no (h : rs.d = false ∨ x < 2 ∨ (n : Int) < x) (h1 : q'.m.lk = q.m.lk) (h2 : q'.m.li = q.m.li)
  | bad (t nx : Nat) (h : rs.d = true) (hx : x = (t : Int) + 1) (ht : 1 ≤ t) (hn : t < n) (h3 : rs.nx = (nx : Int)) (h4 : nx < 40) (h5 : rs.er = 3) (h1 : q'.m.lk = q.m.lk) (h2 : q'.m.li = q.m.li)
  | put (t nx : Nat) (h : rs.d = true) (hx : x = (t : Int) + 1) (ht : 1 ≤ t) (hn : t < n) (h3 : rs.nx = (nx : Int)) (h4 : nx < 40) (h5 : rs.er = 0) (h6 : nx % 5 = 2) (h1 : q'.m.lk = t) (h2 : q'.m.li = nx / 5)
  | get (t nx : Nat) (h : rs.d = true) (hx : x = (t : Int) + 1) (ht : 1 ≤ t) (hn : t < n) (h3 : rs.nx = (nx : Int)) (h4 : nx < 40) (h5 : rs.er = 0) (h6 : nx % 5 = 3) (h7 : rs.z1 = fl q.m.lk) (h8 : rs.z2 = fl q.m.li) (h1 : q'.m.lk = q.m.lk) (h2 : q'.m.li = q.m.li)
  | else (t nx : Nat) (h : rs.d = true) (hx : x = (t : Int) + 1) (ht : 1 ≤ t) (hn : t < n) (h3 : rs.nx = (nx : Int)) (h4 : nx < 40) (h5 : rs.er = 0) (h6 : nx % 5 ≠ 2) (h7 : nx % 5 ≠ 3) (h1 : q'.m.lk = q.m.lk) (h2 : q'.m.li = q.m.li)
section
variable {c : Cf} {q q' : Q} {n t : Nat} {y y' : Yc} {K K' : Thing} {p : Nat → P} {p' : P} {h' : Hq} {rs : Rs} {x : Int}
set_option maxRecDepth 100000 in
theorem LawOk.start : LawOk c n q0 y0 Emp fun _ => p0 where
  g := gi0
  j0 := j00 _ _
  j1 := fun t ht hn => {
    nx := Nat.zero_le _
    loc := loc0 _ _
    pub := fun h => by simp [p0, holds, lc0] at h
    wr := fun h => absurd h (by show ¬ (0 : Int) = 2; decide)
    out := fun _ => rfl
    here := fun h => by have h' : (0 : Int) = 1 ∨ (0 : Int) = 2 := h; omega
    pos := fun h => by have h' : (0 : Int) = 1 ∨ (0 : Int) = 2 := h; omega
    at1 := .out rfl rfl rfl }
  cy := ⟨rfl, fun h => absurd h (by show ¬ (0 : Int) = 4; decide), fun h => absurd h (by show ¬ (0 : Int) = 5; decide), fun h => absurd h (by show ¬ (0 : Int) = 7; decide)⟩
set_option maxRecDepth 100000 in
theorem LawOk.cyc (h : LawOk c n q y K p) (hh : HqOk q h') (hc : CyOk c q.bn y' K') : LawOk c n { q with h := h' } y' K' p where
  g := ⟨hh.1, hh.2.1, h.g.lk, h.g.li, h.g.pb, h.g.bn, h.g.no⟩
  j0 := h.j0.to rfl rfl rfl rfl (by show h'.own 0 = _; rw [hh.2.2])
  j1 := fun t ht hn => (h.j1 t ht hn).to (by show h'.own t = _; rw [hh.2.2]) id
  cy := hc
set_option maxRecDepth 100000 in
theorem LawOk.zero (h : LawOk c n q y K p) (r : Rel0 c 8 q (p 0) rs q' p') : LawOk c n q' y K (updP p 0 p') where
  g := r.g
  j0 := r.j
  j1 := fun t ht hn => by
    unfold updP
    rw [if_neg (by omega)]
    exact (h.j1 t ht hn).to (r.own t (by omega)) r.pb
  cy := h.cy.born r.bn
set_option maxRecDepth 100000 in
theorem LawOk.one (h : LawOk c n q y K p) (ht : 1 ≤ t) (hn : t < n) (h16 : n ≤ 16) (r : Rel1 c t q (p t) rs q' p') : LawOk c n q' y K (updP p t p') where
  g := by
    obtain ⟨r1, r2, r3, r4, r5⟩ := r.rest
    have hlk : q'.m.lk ≤ 17 ∧ q'.m.li ≤ 17 ∧ (q'.m.pb = false → q'.m.lk = 0 ∧ q'.m.li = 0) := by
      rcases r.res with ⟨_, e⟩ | ⟨_, _, h40, ⟨_, e⟩ | ⟨_, _, e1, e2, e3⟩ | ⟨_, _, e, _⟩ | ⟨_, _, _, e⟩⟩
      · rw [e]; exact ⟨h.g.lk, h.g.li, h.g.no⟩
      · rw [e]; exact ⟨h.g.lk, h.g.li, h.g.no⟩
      · exact ⟨by omega, by omega, fun a => by rw [r5, e3] at a; cases a⟩
      · rw [e]; exact ⟨h.g.lk, h.g.li, h.g.no⟩
      · rw [e]; exact ⟨h.g.lk, h.g.li, h.g.no⟩
    exact ⟨by rw [r3]; exact h.g.st0, by rw [r3]; exact h.g.st4, hlk.1, hlk.2.1, by rw [r5, r4]; exact h.g.pb, by rw [r1, r4]; exact h.g.bn, hlk.2.2⟩
  j0 := by
    obtain ⟨r1, r2, r3, r4, r5⟩ := r.rest
    unfold updP
    rw [if_neg (by omega)]
    exact h.j0.to r4 r5 r2 r1 (r.own 0 (by omega))
  j1 := fun t' ht' hn' => by
    obtain ⟨r1, r2, r3, r4, r5⟩ := r.rest
    unfold updP
    by_cases e : t' = t
    · subst e; rw [if_pos rfl]; exact r.j
    · rw [if_neg e]; exact (h.j1 t' ht' hn').to (r.own t' e) (by rw [r5]; exact id)
  cy := h.cy.born (by rw [r.rest.1]; exact id)
set_option maxRecDepth 100000 in
theorem said_one (ht : 1 ≤ t) (hn : t < n) (r : Rel1 c t q (p t) rs q' p') : Said n ((t : Int) + 1) rs q q' := by
  rcases r.res with ⟨e0, e⟩ | ⟨e0, e1, h40, ⟨e2, e⟩ | ⟨e2, e3, e4, e5, _⟩ | ⟨e2, e3, e, e4, e5⟩ | ⟨e2, e3, e4, e⟩⟩
  · exact .no (.inl e0) (by rw [e]) (by rw [e])
  · exact .bad t _ e0 rfl ht hn e1 h40 e2 (by rw [e]) (by rw [e])
  · exact .put t _ e0 rfl ht hn e1 h40 e2 e3 e4 e5
  · exact .get t _ e0 rfl ht hn e1 h40 e2 e3 e4 e5 (by rw [e]) (by rw [e])
  · exact .else t _ e0 rfl ht hn e1 h40 e2 e3 e4 (by rw [e]) (by rw [e])
end
set_option maxRecDepth 100000 in
/-- A step with any pick. -/
theorem law_step {n : Nat} {A : CA} {q : Q} {yb hb : Nat} {y : Yc} {K : Thing} {sv : Value} {fa : Nat → TA} {steps : Int} {p : Nat → P} (h2 : 2 ≤ n) (h16 : n ≤ 16) (h : LawOk (cT n) n q y K p) (x : Int) (w : World) :
    Does Tryz.prog 7 #[.pointer (some ⟨hb, 0, none⟩), .int .i64 x] w (Hp A (cT n) q yb y K hb sv n fa noT scT steps p) (fun (v : Rs × Q × Yc × Thing × Int × (Nat → P)) e => e = .returned (tkV x v.1) ∧ LawOk (cT n) n v.2.1 v.2.2.1 v.2.2.2.1 v.2.2.2.2.2 ∧ Said n x v.1 q v.2.1) (fun v => Hp A (cT n) v.2.1 yb v.2.2.1 v.2.2.2.1 hb sv n fa noT scT v.2.2.2.2.1 v.2.2.2.2.2) := by
  intro S hs
  have h1 : 1 ≤ n := by omega
  by_cases hout : x < 0 ∨ (n : Int) < x
  · exact (hp_step_out h16 hout hs).mono fun e w' ⟨he, hg⟩ => ⟨(rs0, q, y, K, steps, p), ⟨he, h, .no (.inl rfl) rfl rfl⟩, hg⟩
  by_cases h0 : x = 0
  · subst h0
    exact (hp_step_cyc h16 (cy_step (cT_ok h1 h16) rfl rfl (by show 7 ≤ 16; omega) h.g h.cy) hs).mono fun e w' ⟨h', y', K', ⟨he, hh, hc⟩, hg⟩ => ⟨(rs0, { q with h := h' }, y', K', wrap64 (steps + 1), p), ⟨he, h.cyc hh hc, .no (.inl rfl) rfl rfl⟩, hg⟩
  obtain ⟨t, rfl⟩ : ∃ t : Nat, x = (t : Int) + 1 := ⟨(x - 1).toNat, by omega⟩
  have htn : t < n := by omega
  by_cases ht0 : t = 0
  · subst ht0
    exact (hp_step_thr (R := Rel0 (cT n) 8 q (p 0)) h16 htn (st0 (cT_z h1 h16) h.g h.j0) hs).mono fun e w' ⟨z, ⟨he, r⟩, hg⟩ => ⟨(z.1, z.2.1, y, K, wrap64 (steps + 1), updP p 0 z.2.2), ⟨he, h.zero r, .no (.inr (.inl (by omega))) r.lk.1 r.lk.2⟩, hg⟩
  · have hst : StepDoes A (cT n) q (fa t) t (cT n).locals (noT t) (scT t) (p t) (Rel1 (cT n) t q (p t)) := by
      rw [noT_1 (by omega), scT_1 (by omega)]
      exact st1 (cT_r h1 h16) htn (by omega) (by omega) h.g (h.j1 t (by omega) htn)
    exact (hp_step_thr h16 htn hst hs).mono fun e w' ⟨z, ⟨he, r⟩, hg⟩ => ⟨(z.1, z.2.1, y, K, wrap64 (steps + 1), updP p t z.2.2), ⟨he, h.one (by omega) htn h16 r, said_one (by omega) htn r⟩, hg⟩
end Go.Proofs.YtnkgnhpapcnebaaGreat
/- The law: TopRace. -/
namespace Go.Proofs.YtnkgnhpapcnebaaGreat
open Go.RowKit
attribute [local go_sem] run_store_complex via_ret via_normal via_exit via_panic
set_option maxRecDepth 100000 in
theorem race_main (n : Nat) (a1 : Option Addr) (len1 cap1 : Nat) (z1 : List Int) (w : World) (h2 : (2 : Int) ≤ (n : Int)) (h16 : (n : Int) ≤ 16) (hl : (len1 : Int) ≤ 3000) (w1 : IsRow .i64 w a1 len1 cap1 z1) :
    Calls Tryz.prog 3 #[.int .i64 (n : Int), .slice a1 len1 cap1] w fun e w' => e = .returned (.bool true) ∧ Below w.heap.size w w' := by
  obtain ⟨i0, hi, hz0, hz1, hz2⟩ := info_parts Tryz.info26
  obtain ⟨i1, hj, hy0, hy1, hy2⟩ := info_parts Tryz.info27
  have HW := Lib.hid w1
  clear w1
  go_enter Tryz.func3, Tryz.ntmps3
  go_wp2_with fail
  with_reducible refine (known_true _).mono ?_
  rintro e wa ⟨rfl, hb⟩
  have g0 : Goes Emp (fun _ => False) w wa := (Goes.begin (w := w) (fun _ h => h)).below_ hb
  clear hb
  have g1 := ((g0.moreSt (St.fresh #[.int .i64 1, .int .i64 0, .int .i64 0, .int .i64 0, .int .i64 0, .complex .f64 0 0, .int .i64 8, .int .i64 0, .int .i64 0, .int .i64 0, .int .i64 0, .complex .f64 0 0] 26)).moreSt (St.fresh #[.slice (some ⟨wa.heap.size, 0, none⟩) 2 2] 27)).conv fun _ _ h => ops0 h
  rw [World.size_alloc] at g1
  obtain ⟨ob, hob⟩ : ∃ k, wa.heap.size = k := ⟨_, rfl⟩
  obtain ⟨gb, hgb⟩ : ∃ k, ob + 1 = k := ⟨_, rfl⟩
  rw [hob, hgb] at g1
  have HG := Lib.hid g1
  clear g0 g1
  go_upto_region 6 with fail
  generalize (wa.alloc _).alloc _ = wb at *
  clear hob hgb
  have h1 : 1 < n := by omega
  go_wp2_with fail
  go_loopw [5, 6, 7, 8] (fun x i _ _ wr => ∃ (t : Nat) (vs : Nat → Value) (ov : Value), ov = x ∧ 1 ≤ t ∧ t ≤ n ∧ i = .int .i64 t ∧ Goes (OT vs ov t) (fun _ => False) w wr) (fun _ i _ _ _ => n - (intOf i).toNat)
  case atStart => exact ⟨1, _, _, rfl, Nat.le_refl _, by omega, rfl, HG.out⟩
  case round =>
    clear HG
    obtain ⟨t, vs, ov, rfl, ht1, ht, rfl, hg⟩ := hrel
    by_cases hlt : t < n
    · have HG := Lib.hid (row_empty (e := 26) (sz := 6) hg)
      clear hg
      have hlti : (t : Int) < (n : Int) := by omega
      go_wp2_with fail
      go_loopw [7, 8] (fun x i wx => ∃ (q : Nat) (v : Value) (wr : World), wr = wx ∧ v = x ∧ q ≤ 8 ∧ i = .int .i64 q ∧ Goes (Sep (OT vs ov t) (RowG 26 6 v (5 * q) (opL (o1 t) (5 * q)))) (fun _ => False) w wr) (fun _ i _ => 8 - (intOf i).toNat)
      case atStart => exact ⟨0, _, _, rfl, rfl, Nat.zero_le _, rfl, HG.out⟩
      case round =>
        clear HG
        obtain ⟨q, v, wr, rfl, rfl, hq, rfl, hg⟩ := hrel
        by_cases hq8 : q < 8
        · have HX := Lib.hid hg
          have HR := Lib.hid hg.r.is.1
          have HQ := Lib.hid hq
          have hqi : (q : Int) < 8 := by omega
          clear hg hq
          go_wp2_with (at_builtin; refine wpList_app rfl _ _ 27 rfl 26 i0 (.agg #[.int .i64 0, .int .i64 0, .int .i64 0, .int .i64 0, .int .i64 0, .complex .f64 0 0]) 6 56 Tryz.underlying27 hi hz0 hz1 hz2 rfl (by decide) _ _ _ rfl (HR.out.alloc _) ⟨wr.heap.size, 0, none⟩ 5 5 (five t q).toList rfl ?c0 ?c1 ?c2 ?c3 (by decide) ?_)
          case c0 => rfl
          case c1 =>
            intro j u hj
            show (wr.alloc (.cells (five t q) 26)).cell? _ = _
            rw [add_none, (Blk.new wr (five t q) 26).cell, Nat.zero_add]
            simpa using hj
          case c2 => exact five_one t q
          case c3 => omega
          intro v' w2 ho hgr hbk
          have H2 := Lib.hid (HX.out.then fun S h => goesR (fun S h => rowG_push h ((Below.refl wr.heap.size wr).alloc (Nat.le_refl _) (.cells (five t q) 26)) ho hgr (by simpa using hbk)) S h)
          clear HX HR ho hgr hbk
          go_wp2_with fail
          go_round
          case rel => exact ⟨q + 1, _, _, rfl, rfl, by omega, by go_num, by rw [opL_five, show 5 * (q + 1) = 5 * q + 5 by omega]; exact H2.out⟩
          case measure => simp [intOf]; omega
        · obtain rfl : q = 8 := by omega
          have hg1 : Goes (Sep (OT vs ov t) (RowG 26 6 v 40 (opL (o1 t) 40))) (fun _ => False) w wr := hg
          clear hg
          obtain ⟨ga, go, gcap, rfl, _, _⟩ := seq_form (hg1.r.conv fun _ _ h => seq_of_row h (by omega)).is
          have HX := Lib.hid hg1
          have HR := Lib.hid hg1.l.r.is.1
          clear hg1 hq
          go_wp2_with (at_builtin; refine wpList_app rfl _ _ 28 rfl 27 i1 (.slice none 0 0) 1 24 Tryz.underlying28 hj hy0 hy1 hy2 rfl (by decide) _ _ _ rfl (HR.out.alloc _) ⟨wr.heap.size, 0, none⟩ 1 1 [.slice (some ⟨ga, go, none⟩) 40 gcap] rfl ?c0 ?c1 ?c2 ?c3 (by decide) ?_)
          case c0 => rfl
          case c1 =>
            intro j u hj
            rw [add_none, (Blk.new wr #[.slice (some ⟨ga, go, none⟩) 40 gcap] 27).cell, Nat.zero_add]
            simpa using hj
          case c2 => intro u hu; simp at hu; subst hu; rfl
          case c3 => omega
          intro v' w2 ho hgr hbk
          have H2 := Lib.hid ((HX.out.then fun S h => goesL (fun S h => goesR (fun S h => rowG_push h ((Below.refl wr.heap.size wr).alloc (Nat.le_refl _) (.cells #[.slice (some ⟨ga, go, none⟩) 40 gcap] 27)) ho hgr (by simpa using hbk)) S h) S h).conv fun S w h => ot_push ht1 h)
          clear HX HR ho hgr hbk
          go_wp2_with fail
          go_round
          case rel => exact ⟨t + 1, _, _, rfl, by omega, by omega, by go_num, H2.out⟩
          case measure => simp [intOf]; omega
    · obtain rfl : t = n := by omega
      have HG := Lib.hid hg
      obtain ⟨oa, oo, ocap, hov, _, _⟩ := seq_form (hg.r.conv fun _ _ h => seq_of_row h (by omega)).is
      subst hov
      clear hg
      obtain rfl : oo = 0 := by
        rcases HG.out.r.is.1.2 with ⟨e, _⟩ | ⟨g, cap, cur, e, _⟩
        · cases e
        · cases e; rfl
      clear h1 hi hz0 hz1 hz2 hj hy0 hy1 hy2
      go_wp2_with fail
      with_reducible refine (plain_new t _).mono ?_
      rintro e w3 ⟨sb, rfl, hs⟩
      have g1 := HG.out.moreSt hs
      have HN := Lib.hid (Does.on (fun S h => (heap_new (c := cT t) (g := sb) (cap := 3) (gb := oa) (go := 0) (n := t) (capn := ocap) (cT_ok (by omega) (by omega)) (fun S w h => (sepAt.r h).imp fun _ h => h.1) (opsInT (by omega)) rfl h).mono fun e w' ⟨A, yb, hb, sv, fa, he, hg⟩ => ⟨(A, yb, hb, sv, fa), he, hg⟩ : Does Tryz.prog 5 #[cfV (cT t) sb 3, .slice (some ⟨oa, 0, none⟩) t ocap] _ _ (fun (v : CA × Nat × Nat × Value × (Nat → TA)) e => e = .returned (.tuple #[.pointer (some ⟨v.2.2.1, 0, none⟩), .int .i64 0])) (fun v => Sep _ (Hp v.1 (cT t) q0 v.2.1 y0 Emp v.2.2.1 v.2.2.2.1 t v.2.2.2.2 noT scT 0 fun _ => p0))) g1)
      generalize cfV (cT t) sb 3 = cv at *
      obtain ⟨OO, hOO⟩ : ∃ O, Sep (OT vs (.slice (some ⟨oa, 0, none⟩) t ocap) t) (Conf (cT t) sb 3) = O := ⟨_, rfl⟩
      rw [hOO] at HN
      clear HG hs g1 hOO
      go_wp2_with fail
      with_reducible refine HN.out.mono ?_
      rintro e w4 ⟨⟨A, yb, hb, sv, fa⟩, rfl, hgx⟩
      have HG := Lib.hid (show Goes (Sep OO (Hp A (cT t) q0 yb y0 Emp hb sv t fa noT scT 0 fun _ => p0)) (fun _ => False) w w4 from hgx)
      clear HN hgx
      generalize ht' : t = n' at *
      simp only
      go_wp2_with fail
      go_loopw [11, 12, 13, 14] (fun l i _ _ wx => ∃ (k : Nat) (q : Q) (y : Yc) (K : Thing) (steps : Int) (p : Nat → P) (wr : World), wr = wx ∧ k ≤ len1 ∧ i = .int .i64 k ∧ l = .complex .f64 (fl q.m.lk) (fl q.m.li) ∧ LawOk (cT n') n' q y K p ∧ Goes (Sep OO (Hp A (cT n') q yb y K hb sv n' fa noT scT steps p)) (fun _ => False) w wr) (fun _ i _ _ _ => len1 - (intOf i).toNat)
      case atStart => exact ⟨0, _, _, _, _, _, _, rfl, Nat.zero_le _, rfl, by show Value.complex .f64 0 0 = .complex .f64 (fl 0) (fl 0); rw [fl0], LawOk.start, HG.out⟩
      case round =>
        clear HG
        obtain ⟨k, q, y, K, steps, p, wr, rfl, hk, rfl, rfl, ok0, hg⟩ := hrel
        by_cases hlt : k < len1
        · obtain ⟨ab, off, x, rfl, hab, hx, hc0⟩ := HW.out.at_ hlt
          clear hx
          have hcl := ((hg.turned.below (Nat.le_refl _) fun _ h => h.elim).cell (p := ⟨ab, off + k, none⟩) hab).trans hc0
          clear hc0 hab
          have hlti : (k : Int) < (len1 : Int) := by omega
          have HST := Lib.hid (Does.on (Does.r (B := OO) (law_step (by omega) (by omega) ok0 x wr)) hg)
          have HLT := Lib.hid hlt
          have HKK := Lib.hid hk
          clear hg ok0 hlt hk
          go_wp2_with fail
          with_reducible refine HST.out.mono ?_
          rintro e w5 ⟨⟨rs, q', y', K', st', p'⟩, ⟨rfl, ok', said⟩, hgx⟩
          have hg : Goes (Sep OO (Hp A (cT n') q' yb y' K' hb sv n' fa noT scT st' p')) (fun _ => False) w w5 := hgx
          clear hgx HST hcl
          obtain ⟨nx', own', er, r, z1', z2', zd⟩ := rs
          have OK' := Lib.hid ok'
          have SD := Lib.hid said
          clear ok' said
          have g4 := hg.moreSt (St.fresh #[.int .i64 x, .bool zd, .int .i64 nx', .int .i64 own', .int .i64 er, .bool r, .complex .f64 z1' z2'] 43)
          unfold tkV
          simp only [tkCells]
          have x0 := g4.r.vc 0 (v := .int .i64 x) rfl
          have x1 := g4.r.vc 1 (v := .bool zd) rfl
          have x2 := g4.r.vc 2 (v := .int .i64 nx') rfl
          have x3 := g4.r.vc 3 (v := .int .i64 own') rfl
          have x4 := g4.r.vc 4 (v := .int .i64 er) rfl
          have x5 := g4.r.vc 5 (v := .bool r) rfl
          have x6 := g4.r.vc 6 (v := .complex .f64 z1' z2') rfl
          have H4 := Lib.hid g4
          have HG4 := Lib.hid g4.l
          clear hg g4
          go_upto_region 23 with fail
          generalize w5.heap.size = tb at *
          generalize w5.alloc _ = w6 at *
          have hlt := HLT.out
          have hk := HKK.out
          have hno : ∀ (h : zd = false ∨ x < 2 ∨ (n' : Int) < x), q'.m.lk = q.m.lk ∧ q'.m.li = q.m.li := fun h => by
            cases SD.out with
            | no _ h1 h2 => exact ⟨h1, h2⟩
            | bad t nx h0 hx ht hn h3 h4 h5 h1 h2 => exact ⟨h1, h2⟩
            | put t nx h0 hx ht hn h3 h4 h5 h6 h1 h2 => exact absurd h (by simp only at h0; rw [h0]; simp; omega)
            | get t nx h0 hx ht hn h3 h4 h5 h6 h7 h8 h1 h2 => exact ⟨h1, h2⟩
            | «else» t nx h0 hx ht hn h3 h4 h5 h6 h7 h1 h2 => exact ⟨h1, h2⟩
          have HNO := Lib.hid hno
          clear hno hlt hk
          cases zd with
          | false =>
            obtain ⟨h1, h2⟩ := HNO.out (.inl rfl)
            clear HNO SD x0 x2 x3 x4 x5 x6 H4
            have HE := Lib.hid (And.intro h1 h2)
            clear h1 h2
            go_wp2_with fail
            go_round
            case rel => exact ⟨k + 1, q', y', K', st', p', _, rfl, HLT.out, by go_num, by rw [HE.out.1, HE.out.2], OK'.out, HG4.out⟩
            case measure => have := HLT.out; simp [intOf]; omega
          | true =>
            by_cases hx2 : x < 2
            · have HE := Lib.hid (HNO.out (.inr (.inl hx2)))
              clear HNO SD x2 x3 x4 x5 x6 H4
              go_wp2_with fail
              go_round
              case rel => exact ⟨k + 1, q', y', K', st', p', _, rfl, HLT.out, by go_num, by rw [HE.out.1, HE.out.2], OK'.out, HG4.out⟩
              case measure => have := HLT.out; simp [intOf]; omega
            · by_cases hxn : (n' : Int) < x
              · have HE := Lib.hid (HNO.out (.inr (.inr hxn)))
                clear HNO SD x2 x3 x4 x5 x6 H4
                go_wp2_with fail
                go_round
                case rel => exact ⟨k + 1, q', y', K', st', p', _, rfl, HLT.out, by go_num, by rw [HE.out.1, HE.out.2], OK'.out, HG4.out⟩
                case measure => have := HLT.out; simp [intOf]; omega
              · have H6 := Lib.hid (H4.out.moreSt (St.fresh #[.int .i64 nx', .int .i64 own', .int .i64 er, .bool r, .complex .f64 z1' z2'] 41))
                clear H4 HG4 HNO
                go_upto_region 25 with fail
                generalize w6.heap.size = rb at *
                generalize w6.alloc _ = w7 at *
                clear x0 x1 x2 x3 x4 x5 x6
                have x0 := H6.out.l.r.vc 0 (v := .int .i64 x) rfl
                have y0 := H6.out.r.vc 0 (v := .int .i64 nx') rfl
                have y2 := H6.out.r.vc 2 (v := .int .i64 er) rfl
                have y4 := H6.out.r.vc 4 (v := .complex .f64 z1' z2') rfl
                have HG6 := Lib.hid H6.out.l.l
                clear H6
                have sd := SD.out
                clear SD
                rcases sd with ⟨h, _, _⟩ | ⟨t, nx, _, hx, ht, hn, h3, h4, h5, h1, h2⟩ | ⟨t, nx, _, hx, ht, hn, h3, h4, h5, h6, h1, h2⟩ | ⟨t, nx, _, hx, ht, hn, h3, h4, h5, h6, h7, h8, h1, h2⟩ | ⟨t, nx, _, hx, ht, hn, h3, h4, h5, h6, h7, h1, h2⟩
                · simp at h; omega
                all_goals (simp only at h3 h5; subst hx h3 h5)
                · have HE := Lib.hid (And.intro h1 h2)
                  have n1 : ¬ ((nx : Int) < 0) := by omega
                  have n2 : ¬ ((nx : Int) ≥ 40) := by omega
                  clear h1 h2 h4 ht hn
                  go_wp2_with fail
                  go_round
                  case rel => exact ⟨k + 1, q', y', K', st', p', _, rfl, HLT.out, by go_num, by rw [HE.out.1, HE.out.2], OK'.out, HG6.out⟩
                  case measure => have := HLT.out; simp [intOf]; omega
                · have HE := Lib.hid (And.intro h1 h2)
                  have n1 : ¬ ((nx : Int) < 0) := by omega
                  have n2 : ¬ ((nx : Int) ≥ 40) := by omega
                  have n3 : ((nx : Int) % 5 == 2) = true := by simp; omega
                  have n4 : ¬ (nx : Int) % 5 = 3 := by omega
                  clear h1 h2 h4 ht hn h6
                  go_wp2_with fail
                  go_round
                  case rel => exact ⟨k + 1, q', y', K', st', p', _, rfl, HLT.out, by go_num, by rw [HE.out.1, HE.out.2, of_fl ((nx : Int) / 5) (nx / 5) (by omega)]; rfl, OK'.out, HG6.out⟩
                  case measure => have := HLT.out; simp [intOf]; omega
                · simp only at h7 h8
                  subst h7 h8
                  have HE := Lib.hid (And.intro h1 h2)
                  have n1 : ¬ ((nx : Int) < 0) := by omega
                  have n2 : ¬ ((nx : Int) ≥ 40) := by omega
                  have n3 : ((nx : Int) % 5 == 2) = false := by simp; omega
                  have n4 : (nx : Int) % 5 = 3 := by omega
                  have HWD := Lib.hid (fun w => ref_word q.m.lk q.m.li w (by have := OK'.out.g.lk; omega) (by have := OK'.out.g.li; omega))
                  clear h1 h2 h4 ht hn h6
                  go_wp2_with fail
                  with_reducible refine (HWD.out _).mono ?_
                  rintro e w' ⟨rfl, rfl⟩
                  go_wp2_with fail
                  go_round
                  case rel => exact ⟨k + 1, q', y', K', st', p', _, rfl, HLT.out, by go_num, by rw [HE.out.1, HE.out.2], OK'.out, HG6.out⟩
                  case measure => have := HLT.out; simp [intOf]; omega
                · have HE := Lib.hid (And.intro h1 h2)
                  have n1 : ¬ ((nx : Int) < 0) := by omega
                  have n2 : ¬ ((nx : Int) ≥ 40) := by omega
                  have n3 : ((nx : Int) % 5 == 2) = false := by simp; omega
                  have n4 : ¬ (nx : Int) % 5 = 3 := by omega
                  clear h1 h2 h4 ht hn h6 h7
                  go_wp2_with fail
                  go_round
                  case rel => exact ⟨k + 1, q', y', K', st', p', _, rfl, HLT.out, by go_num, by rw [HE.out.1, HE.out.2], OK'.out, HG6.out⟩
                  case measure => have := HLT.out; simp [intOf]; omega
        · obtain rfl : k = len1 := by omega
          have HKN := Lib.hid (fun w => known_true w)
          have HG := Lib.hid hg
          clear hg ok0 HW
          go_wp2_with fail
          with_reducible refine (HKN.out _).mono ?_
          rintro e w5 ⟨rfl, hb⟩
          have g5 := HG.out.below_ hb
          have c1 := g5.r.l.l.vc 1 (v := .pointer (some ⟨yb, 0, none⟩)) rfl
          have HE := Lib.hid (g5.call (sepR fun S h => hp_errno h))
          clear HG hb g5 HKN
          go_wp2_with fail
          with_reducible refine HE.out.mono ?_
          rintro e w6 ⟨rfl, hg⟩
          have HF := Lib.hid (hg.turned.below (Nat.le_refl _) fun _ h => h.elim)
          clear HE hg
          go_wp2_with fail
          go_ret
          exact ⟨rfl, HF.out⟩
end Go.Proofs.YtnkgnhpapcnebaaGreat
/- The law: TopRace, at any arguments. -/
namespace Go.Proofs.YtnkgnhpapcnebaaGreat
open Go.RowKit
attribute [local go_sem] run_store_complex via_ret via_normal via_exit via_panic
set_option maxRecDepth 100000 in
theorem race_out (x : Int) (a1 : Option Addr) (len1 cap1 : Nat) (w : World) (h : x < 2 ∨ 16 < x ∨ 3000 < (len1 : Int)) :
    Calls Tryz.prog 3 #[.int .i64 x, .slice a1 len1 cap1] w fun e w' => e = .returned (.bool true) ∧ Below w.heap.size w w' := by
  have HK := Lib.hid (fun w => known_true w)
  have HH := Lib.hid h
  clear h
  go_enter Tryz.func3, Tryz.ntmps3
  go_wp2_with fail
  with_reducible refine (HK.out _).mono ?_
  rintro e wa ⟨rfl, hb⟩
  have HB := Lib.hid hb
  clear hb
  by_cases h1 : x < 2
  · skip
    go_wp2_with fail
    with_reducible refine (HK.out _).mono ?_
    rintro e wb ⟨rfl, hb⟩
    have HB2 := Lib.hid hb
    clear hb HK
    go_wp2_with fail
    go_ret
    exact ⟨rfl, HB.out.trans (HB2.out.mono HB.out.size)⟩
  by_cases h2 : 16 < x
  · have h3 : x > 16 := h2
    go_wp2_with fail
    with_reducible refine (HK.out _).mono ?_
    rintro e wb ⟨rfl, hb⟩
    have HB2 := Lib.hid hb
    clear hb HK
    go_wp2_with fail
    go_ret
    exact ⟨rfl, HB.out.trans (HB2.out.mono HB.out.size)⟩
  · have h4 : (len1 : Int) > 3000 := by have := HH.out; omega
    clear HH
    go_wp2_with fail
    with_reducible refine (HK.out _).mono ?_
    rintro e wb ⟨rfl, hb⟩
    have HB2 := Lib.hid hb
    clear hb HK
    go_wp2_with fail
    go_ret
    exact ⟨rfl, HB.out.trans (HB2.out.mono HB.out.size)⟩
set_option maxRecDepth 100000 in
theorem race_all (x : Int) (a1 : Option Addr) (len1 cap1 : Nat) (z1 : List Int) (w : World) (w1 : IsRow .i64 w a1 len1 cap1 z1) :
    Calls Tryz.prog 3 #[.int .i64 x, .slice a1 len1 cap1] w fun e w' => e = .returned (.bool true) ∧ Below w.heap.size w w' := by
  by_cases h : x < 2 ∨ 16 < x ∨ 3000 < (len1 : Int)
  · exact race_out x a1 len1 cap1 w h
  · obtain ⟨n, rfl⟩ : ∃ n : Nat, x = (n : Int) := ⟨x.toNat, by omega⟩
    exact race_main n a1 len1 cap1 z1 w (by omega) (by omega) (by omega) w1
end Go.Proofs.YtnkgnhpapcnebaaGreat
