/- A step of a thread that stores and loads. -/
import Derived.Test.YtnkgnhpapcnebaaGreatM16
import Derived.Test.YtnkgnhpapcnebaaGreatM17
import Derived.Test.YtnkgnhpapcnebaaGreatM15
import Derived.Test.YtnkgnhpapcnebaaGreatM27
import Derived.Test.YtnkgnhpapcnebaaGreatM33
import Derived.Test.YtnkgnhpapcnebaaGreatM34
import Derived.Test.YtnkgnhpapcnebaaGreatM39
import Derived.Test.YtnkgnhpapcnebaaGreatM23
import Derived.Test.YtnkgnhpapcnebaaGreatM32
import Derived.Test.YtnkgnhpapcnebaaGreatM22
import Derived.Test.YtnkgnhpapcnebaaGreatM28
import Derived.Test.YtnkgnhpapcnebaaGreatM29
set_option linter.unusedVariables false
set_option linter.unusedSimpArgs false
set_option maxHeartbeats 8000000
namespace Go.Proofs.YtnkgnhpapcnebaaGreat
open Go.RowKit
/-- What a step of such a thread has done. -/
structure Rel1 (c : Cf) (t : Nat) (q : Q) (p : P) (rs : Rs) (q' : Q) (p' : P) : Prop where
  j : J1 c q' t p'
  own : ∀ k, k ≠ t → q'.h.own k = q.h.own k
  rest : q'.bn = q.bn ∧ q'.ask = q.ask ∧ q'.h.st = q.h.st ∧ q'.m.wr = q.m.wr ∧ q'.m.pb = q.m.pb
  res : (rs.d = false ∧ q'.m = q.m) ∨ (rs.d = true ∧ rs.nx = (p.x.nx : Int) ∧ p.x.nx < 40 ∧
    ((rs.er = 3 ∧ q'.m = q.m) ∨ (rs.er = 0 ∧ p.x.nx % 5 = 2 ∧ q'.m.lk = t ∧ q'.m.li = p.x.nx / 5 ∧ q.m.pb = true) ∨ (rs.er = 0 ∧ p.x.nx % 5 = 3 ∧ q'.m = q.m ∧ rs.z1 = fl q.m.lk ∧ rs.z2 = fl q.m.li) ∨ (rs.er = 0 ∧ p.x.nx % 5 ≠ 2 ∧ p.x.nx % 5 ≠ 3 ∧ q'.m = q.m)))
def rs0 : Rs := ⟨0, 0, 0, false, 0, 0, false⟩
def StepDoes (A : CA) (c : Cf) (q : Q) (a : TA) (t n no : Nat) (o : Nat → Opn) (p : P) (R : Rs → Q → P → Prop) : Prop :=
  ∀ w, Does Tryz.prog 16 #[.pointer (some ⟨a.b, 0, none⟩), .pointer (some ⟨A.b, 0, none⟩)] w (Sep (Core A c q) (Th a t n no o p)) (fun (y : Rs × Q × P) e => e = .returned y.1.v ∧ R y.1 y.2.1 y.2.2) (fun y => Sep (Core A c y.2.1) (Th a t n no o y.2.2))
section
variable {S : Nat → Prop} {w w' : World} {A : CA} {c : Cf} {q q' : Q} {a : TA} {t n no : Nat} {o : Nat → Opn} {p p' : P} {R : Rs → Q → P → Prop} {rs : Rs} {e : Ending}
set_option maxRecDepth 100000 in
theorem st_pack (hg : Goes (Sep (Core A c q') (Th a t n no o p')) S w w') (he : e = .returned rs.v) (r : R rs q' p') :
    ∃ y : Rs × Q × P, (e = .returned y.1.v ∧ R y.1 y.2.1 y.2.2) ∧ Goes (Sep (Core A c y.2.1) (Th a t n no o y.2.2)) S w w' := ⟨(rs, q', p'), ⟨he, r⟩, hg⟩
set_option maxRecDepth 100000 in
theorem th_wcells {ox : Opn} (hnx : p.x.nx < no) (hox : o p.x.nx = ox) (h : (Sep (Core A c q) (Th a t n no o p)).at_ S w) : WCells a.b a.og a.oo no a.oc p.x.nx p.x.at_ ox w := by
  have g := Goes.begin h
  have gs := g.r.r.r.l
  have hp : ∀ j, j < 6 → ∀ v, (opc ox)[j]? = some v → w.cell? ⟨a.og, a.oo + p.x.nx * 6 + j, none⟩ = some v := fun j hj v hv => by
    rw [Nat.add_assoc]
    exact gs.seq (by rw [opL_get o no p.x.nx j hnx hj, hox]; exact hv)
  exact ⟨g.r.c 1 (v := a.ov no) rfl, g.r.c 6 (v := .int .i64 (p.x.nx : Int)) rfl, g.r.c 11 (v := .int .i64 p.x.at_) rfl, hp 0 (by omega) _ rfl, hp 1 (by omega) _ rfl, hp 2 (by omega) _ rfl, hp 3 (by omega) _ rfl, hp 4 (by omega) _ rfl, hp 5 (by omega) _ rfl⟩
set_option maxRecDepth 100000 in
theorem th_ph (h : (Sep (Core A c q) (Th a t n no o p)).at_ S w) : w.cell? ⟨a.b, 3, none⟩ = some (.int .i64 p.x.ph) := (Goes.begin h).r.c 3 rfl
set_option maxRecDepth 100000 in
theorem th_pc (h : (Sep (Core A c q) (Th a t n no o p)).at_ S w) : w.cell? ⟨a.b, 7, none⟩ = some (.int .i64 p.x.pc) := (Goes.begin h).r.c 7 rfl
set_option maxRecDepth 100000 in
/-- A step at the border. -/
theorem st_border (hph : p.x.ph = 1) (hB : ∀ w, Does Tryz.prog 53 #[.pointer (some ⟨a.b, 0, none⟩), .pointer (some ⟨A.b, 0, none⟩)] w (Sep (Core A c q) (Th a t n no o p)) (fun (y : Q × P) e => e = .returned (.tuple #[]) ∧ R rs0 y.1 y.2) (fun y => Sep (Core A c y.1) (Th a t n no o y.2))) :
    StepDoes A c q a t n no o p R := by
  intro w S h
  refine (act_step_border (O := Sep (Core A c q) (Th a t n no o p)) (fun S w h => by rw [th_ph h, hph]) hB w S h).mono ?_
  rintro e w' ⟨y, ⟨he, hr⟩, hg⟩
  exact st_pack (rs := rs0) hg he hr
set_option maxRecDepth 100000 in
/-- A step within an operation. -/
theorem st_within (hph : p.x.ph = 2) (hW : ∀ w, Does Tryz.prog 54 #[.pointer (some ⟨a.b, 0, none⟩), .pointer (some ⟨A.b, 0, none⟩)] w (Sep (Core A c q) (Th a t n no o { p with x := { p.x with own := wrap64 (p.x.own + 1) } })) (fun (y : Rs × Q × P) e => e = .returned y.1.v ∧ R y.1 y.2.1 y.2.2) (fun y => Sep (Core A c y.2.1) (Th a t n no o y.2.2))) :
    StepDoes A c q a t n no o p R :=
  act_step_within (rs := fun (y : Rs × Q × P) => y.1) (p := fun (y : Rs × Q × P) => R y.1 y.2.1 y.2.2) hph hW
set_option maxRecDepth 100000 in
theorem st_gone (hph : p.x.ph = 4) (r : R rs0 q p) : StepDoes A c q a t n no o p R := by
  intro w S h
  refine (act_step_gone (A := A) (O := Sep (Core A c q) (Th a t n no o p)) (fun S w h => by rw [th_ph h, hph]) h).mono ?_
  rintro e w' ⟨he, hg⟩
  exact st_pack (rs := rs0) hg he r
set_option maxRecDepth 100000 in
theorem st_out (hph : p.x.ph = 0) (ht : t < c.threads) (hc : c.ok) (ho : q.h.own t = -1) (r : R rs0 { q with h := { q.h with own := setI q.h.own t q.h.st } } { p with x := { p.x with ph := 1, pc := 0, st := q.h.st, sn := q.h.sn } }) : StepDoes A c q a t n no o p R := by
  intro w S h
  refine (act_step_out (x := p.x) hph ht hc ho h).mono ?_
  rintro e w' ⟨he, hg⟩
  exact st_pack (rs := rs0) (p' := { p with x := { p.x with ph := 1, pc := 0, st := q.h.st, sn := q.h.sn } }) hg he r
set_option maxRecDepth 100000 in
/-- At the border, by where it goes on. -/
theorem bd_pack (hg : Goes (Sep (Core A c q') (Th a t n no o p')) S w w') (he : e = .returned (.tuple #[])) (r : R rs0 q' p') :
    ∃ y : Q × P, (e = .returned (.tuple #[]) ∧ R rs0 y.1 y.2) ∧ Goes (Sep (Core A c y.1) (Th a t n no o y.2)) S w w' := ⟨(q', p'), ⟨he, r⟩, hg⟩
set_option maxRecDepth 100000 in
theorem bd_look (hph : p.x.ph = 1) (hpc : p.x.pc = 0) (hE : p.E = Emp) (hl : LocOk c.F n p.l) (hn : n ≤ 8) (hn1 : 1 ≤ n)
    (r1 : q.h.st = p.x.st → p.x.nx < no → R rs0 q { p with x := p.x.fresh })
    (r2 : q.h.st = p.x.st → no ≤ p.x.nx → R rs0 q { p with x := { p.x with pc := 3 } })
    (r3 : ∀ sn, ¬ q.h.st = p.x.st → R rs0 q { p with x := { p.x with seen := q.h.st, grey := .slice none 0 0, pc := 2, sn := sn } })
    (r4 : ∀ v, ¬ q.h.st = p.x.st → q.h.st = 3 → R rs0 q ⟨{ p.x with seen := q.h.st, grey := v, pc := 1 }, p.l, Got v c.F⟩) : StepDoes A c q a t n no o p R := by
  obtain ⟨x, l, E⟩ := p
  simp only at hph hpc hE hl r1 r2 r3 r4
  subst hE
  refine st_border hph fun w S h => ?_
  by_cases hst : q.h.st = x.st
  · by_cases hnx : x.nx < no
    · refine (act_border_go (x := x) (ov := a.ov no) rfl hpc hst hnx h).mono ?_
      rintro e w' ⟨he, hg⟩
      exact bd_pack (p' := ⟨x.fresh, l, Emp⟩) hg he (r1 hst hnx)
    · refine (act_border_end (x := x) (ov := a.ov no) rfl hpc hst (by omega) h).mono ?_
      rintro e w' ⟨he, hg⟩
      exact bd_pack (p' := ⟨{ x with pc := 3 }, l, Emp⟩) hg he (r2 hst (by omega))
  · have h7 := th_pc h
    simp only at h7
    rw [hpc] at h7
    by_cases h3 : q.h.st = 3
    · cases hh : holds l with
      | false =>
        refine (act_border_no h7 (act_looks_trace0 (x := x) h3 (by rw [← h3]; exact hst) hl hn hh h)).mono ?_
        rintro e w' ⟨he, hg⟩
        refine bd_pack (p' := ⟨{ x with seen := q.h.st, grey := .slice none 0 0, pc := 2, sn := x.sn }, l, Emp⟩) (by rw [h3]; exact hg) he (r3 x.sn hst)
      | true =>
        refine (act_border_no (p := fun w' => ∃ v, Goes _ S w w') h7 ((act_looks_trace1 (x := x) h3 (by rw [← h3]; exact hst) hl hn hn1 hh (th_emp' h)).mono fun e w' ⟨v, he, hg⟩ => ⟨he, v, hg⟩)).mono ?_
        rintro e w' ⟨he, v, hg⟩
        refine bd_pack (p' := ⟨{ x with seen := q.h.st, grey := v, pc := 1 }, l, Got v c.F⟩) (by rw [h3]; exact hg.conv fun S w h => th_in h) he (r4 v hst h3)
    · refine (act_border_no (p := fun w' => ∃ sn, Goes _ S w w') h7 ((act_looks_no (x := x) rfl hst h3 h).mono fun e w' ⟨sn, he, hg⟩ => ⟨he, sn, hg⟩)).mono ?_
      rintro e w' ⟨he, sn, hg⟩
      exact bd_pack (p' := ⟨{ x with seen := q.h.st, grey := .slice none 0 0, pc := 2, sn := sn }, l, Emp⟩) hg he (r3 sn hst)
set_option maxRecDepth 100000 in
theorem bd_grey (hph : p.x.ph = 1) (hpc : p.x.pc = 1) (hE : p.E = Got p.x.grey c.F) (r : ∀ v, R rs0 q ⟨{ p.x with grey := v, pc := 2 }, p.l, Emp⟩) : StepDoes A c q a t n no o p R := by
  obtain ⟨x, l, E⟩ := p
  simp only at hph hpc hE r
  subst hE
  refine st_border hph fun w S h => ?_
  have h7 := th_pc h
  simp only at h7
  rw [hpc] at h7
  refine (act_border_grey (p := fun w' => ∃ v, Goes _ S w w') h7 ((act_answers_grey (x := x) hpc rfl (th_out h)).mono fun e w' ⟨v, he, hg⟩ => ⟨he, v, hg⟩)).mono ?_
  rintro e w' ⟨he, v, hg⟩
  exact bd_pack (p' := ⟨{ x with grey := v, pc := 2 }, l, Emp⟩) (hg.conv fun S w h => th_emp h) he (r v)
set_option maxRecDepth 100000 in
theorem bd_give (hc : c.ok) (ht : t < c.threads) (ho : q.h.own t ≠ -1) (hph : p.x.ph = 1) (hpc : p.x.pc = 2) (hs0 : 0 ≤ p.x.seen) (hs4 : p.x.seen ≤ 4) (r : R rs0 { q with h := { q.h with own := setI q.h.own t p.x.seen } } { p with x := { p.x with st := p.x.seen, pc := 0 } }) : StepDoes A c q a t n no o p R := by
  refine st_border hph fun w S h => ?_
  refine (act_border_give (x := p.x) hpc ht hc ho hs0 hs4 h).mono ?_
  rintro e w' ⟨he, hg⟩
  exact bd_pack (p' := { p with x := { p.x with st := p.x.seen, pc := 0 } }) hg he r
set_option maxRecDepth 100000 in
theorem bd_drain (ht : t < c.threads) (hph : p.x.ph = 1) (hpc : p.x.pc = 3) (r : R rs0 q { p with x := { p.x with pc := 4 } }) : StepDoes A c q a t n no o p R := by
  refine st_border hph fun w S h => ?_
  refine (act_border_drain (x := p.x) hpc ht h).mono ?_
  rintro e w' ⟨he, hg⟩
  exact bd_pack (p' := { p with x := { p.x with pc := 4 } }) hg he r
set_option maxRecDepth 100000 in
theorem bd_leave (hc : c.ok) (ht : t < c.threads) (hn : 0 < n) (ho : q.h.own t ≠ -1) (hph : p.x.ph = 1) (hpc : p.x.pc = 4) (r : R rs0 { q with h := { q.h with own := setI q.h.own t (-1) } } ⟨{ p.x with ph := 4 }, fun _ => ⟨false, 0, 0⟩, p.E⟩) : StepDoes A c q a t n no o p R := by
  refine st_border hph fun w S h => ?_
  have h7 := th_pc h
  rw [hpc] at h7
  refine (act_border_leave h7 (act_goes (x := p.x) ht hn hc ho h)).mono ?_
  rintro e w' ⟨he, hg⟩
  exact bd_pack (p' := ⟨{ p.x with ph := 4 }, fun _ => ⟨false, 0, 0⟩, p.E⟩) hg he r
end
end Go.Proofs.YtnkgnhpapcnebaaGreat
/- A step of a thread that stores and loads: within an operation; as a whole. -/
namespace Go.Proofs.YtnkgnhpapcnebaaGreat
open Go.RowKit
/-- What the configuration has to be. -/
structure CfR (c : Cf) : Prop where
  ok : c.ok
  sh : c.shapes[0]? = some (false, l3)
  l0 : c.l0 = l3
  F : c.F ≤ 16
  lc : c.locals = 4
  gl : 0 < c.globals
section
variable {S : Nat → Prop} {w w' : World} {A : CA} {c : Cf} {q q' : Q} {a : TA} {t : Nat} {p p' : P} {rs : Rs} {e : Ending}
set_option maxRecDepth 100000 in
theorem locOk_upd {F n : Nat} {l : Nat → Lc} (h : LocOk F n l) {j : Nat} {v : Lc} (hj : 1 ≤ j) (hv : v.ref = false) (hk : v.k ≤ 17) (hi : v.i ≤ 17) : LocOk F n (updL l j v) where
  small := fun i hi' => by
    unfold updL
    split
    · exact ⟨hk, hi⟩
    · exact h.small i hi'
  num := fun i h1 hi' => by
    unfold updL
    split
    · exact hv
    · exact h.num i h1 hi'
  ref := fun hr => by
    have e : updL l j v 0 = l 0 := by unfold updL; rw [if_neg (by omega)]
    rw [e] at hr ⊢; exact h.ref hr
set_option maxRecDepth 100000 in
theorem locOk_upd0 {F n : Nat} {l : Nat → Lc} (h : LocOk F n l) (hF : F ≤ 16) {k : Nat} (hk : k = 0 ∨ k = F + 1) : LocOk F n (updL l 0 ⟨true, k, 1⟩) where
  small := fun i hi' => by
    unfold updL
    split
    · exact ⟨by show k ≤ 17; omega, by show 1 ≤ 17; omega⟩
    · exact h.small i hi'
  num := fun i h1 hi' => by unfold updL; rw [if_neg (by omega)]; exact h.num i h1 hi'
  ref := fun _ => ⟨rfl, hk⟩
set_option maxRecDepth 100000 in
theorem holds_upd {l : Nat → Lc} {j : Nat} {v : Lc} (hj : 1 ≤ j) : holds (updL l j v) = holds l := by
  have e : updL l j v 0 = l 0 := by unfold updL; rw [if_neg (by omega)]
  unfold holds; rw [e]
set_option maxRecDepth 100000 in
/-- Behind an operation. -/
theorem J1.next {x' : Tc} {l' : Nat → Lc} (j : J1 c q t p) (h2 : p.x.ph = 2) (hn : p.x.nx < 40) (hx : x'.ph = 1) (hpc : x'.pc = 0) (hnx : x'.nx = p.x.nx + 1) (hl : LocOk c.F 4 l') (hh : holds l' = true → q'.m.pb = true)
    (ho : q'.h = q.h) (hp : Pos t (p.x.nx + 1) l') : J1 c q' t ⟨x', l', Emp⟩ where
  nx := by show x'.nx ≤ 40; omega
  loc := hl
  pub := hh
  wr := fun h => by have h' : x'.ph = 2 := h; omega
  out := fun h => by have h' : x'.ph = 0 := h; omega
  here := fun _ => by rw [ho]; exact j.here (.inr h2)
  pos := fun _ => by show Pos t x'.nx l'; rw [hnx]; exact hp
  at1 := .look hx hpc rfl
set_option maxRecDepth 100000 in
/-- Within an operation still. -/
theorem J1.on {x' : Tc} (j : J1 c q t p) (h2 : p.x.ph = 2) (hx : x'.ph = 2) (hnx : x'.nx = p.x.nx) (hpb : q.m.pb = true) (ha : At1 c t ⟨x', p.l, Emp⟩) : J1 c q t ⟨x', p.l, Emp⟩ where
  nx := by show x'.nx ≤ 40; rw [hnx]; exact j.nx
  loc := j.loc
  pub := j.pub
  wr := fun _ _ => hpb
  out := fun h => by have h' : x'.ph = 0 := h; omega
  here := fun _ => j.here (.inr h2)
  pos := fun _ => by show Pos t x'.nx p.l; rw [hnx]; exact j.pos (.inr h2)
  at1 := ha
theorem st1_start (cf : CfR c) (ht : t < c.threads) (ht1 : 1 ≤ t) (ht16 : t ≤ 16) (g : Gi c q) (j : J1 c q t p) (hph : p.x.ph = 2) (hnx : p.x.nx < 40) (hE : p.E = Emp) (hat : p.x.at_ = 0) : StepDoes A c q a t 4 40 (o1 t) p (Rel1 c t q p) := by
  obtain ⟨x, l, E⟩ := p
  simp only at hph hnx hE hat
  subst hE
  have hloc := j.loc
  have hpos := j.pos (.inr hph)
  have hs0 := hloc.small 0 (by omega)
  have hs1 := hloc.small 1 (by omega)
  have hF := cf.F
  have hlc := cf.lc
  refine st_within hph ?_
  have hm : x.nx % 5 = 0 ∨ x.nx % 5 = 1 ∨ x.nx % 5 = 2 ∨ x.nx % 5 = 3 ∨ x.nx % 5 = 4 := by omega
  have hWC : ∀ ox, o1 t x.nx = ox → ∀ S w, (Sep (Core A c q) (Th a t 4 40 (o1 t) ⟨{ x with own := wrap64 (x.own + 1) }, l, Emp⟩)).at_ S w → WCells a.b a.og a.oo 40 a.oc x.nx 0 ox w := fun ox hox S w h => by
    have := th_wcells (p := ⟨{ x with own := wrap64 (x.own + 1) }, l, Emp⟩) hnx hox h
    simp only [hat] at this
    exact this
  have hnx1 : x.nx ≤ 1000 := by omega
  rcases hm with h5 | h5 | h5 | h5 | h5
  · -- Look
    obtain ⟨vk, hvk⟩ : ∃ k, (if q.m.pb = true then c.F + 1 else 0) = k := ⟨_, rfl⟩
    have hvk2 : vk = 0 ∨ vk = c.F + 1 := by rw [← hvk]; split <;> simp
    refine act_within0 (α := Rs × Q × P) (rs := fun y => y.1) (hWC _ (o1_0 h5)) hnx fun w S h => ?_
    refine (act_starts7 (x := { x with own := wrap64 (x.own + 1) }) (o := ⟨7, 0, 0, 0, 0, 0, 0⟩) (N := 0) (vk := vk) cf.ok rfl rfl cf.gl (by show 0 < c.locals; omega) (by omega) (fun f hf => by rw [hf.glob 0 cf.gl, ← hvk]; simp) (by omega) hph hnx1 h).mono ?_
    rintro e w' ⟨he, hg⟩
    refine st_pack (p' := ⟨Tc.next { x with own := wrap64 (x.own + 1), addr := ((c.glob 0 : Nat) : Int), ref := true }, updL l 0 ⟨true, vk, 1⟩, Emp⟩) hg he ?_
    refine ⟨j.next hph hnx rfl rfl rfl (locOk_upd0 hloc hF hvk2) (fun hh => ?_) rfl ⟨fun _ _ => rfl, fun h => absurd h (by show ¬ (x.nx + 1) % 5 = 2; omega)⟩, fun _ _ => rfl, ⟨rfl, rfl, rfl, rfl, rfl⟩, .inr ⟨rfl, rfl, hnx, .inr (.inr (.inr ⟨rfl, by show x.nx % 5 ≠ 2; omega, by show x.nx % 5 ≠ 3; omega, rfl⟩))⟩⟩
    by_cases hpb : q.m.pb = true
    · exact hpb
    · rw [if_neg hpb] at hvk
      subst hvk
      simp [holds, updL] at hh
  · -- Number
    have e5 : x.nx / 5 ≤ 7 := by omega
    refine act_within0 (α := Rs × Q × P) (rs := fun y => y.1) (hWC _ (o1_1 h5)) hnx fun w S h => ?_
    refine (act_starts12 (x := { x with own := wrap64 (x.own + 1) }) (o := ⟨12, 1, 0, 0, 0, fl t, fl (x.nx / 5)⟩) (k := t) (i := x.nx / 5) cf.ok rfl rfl rfl (by show 1 < c.locals; omega) (by omega) hph hnx1 h).mono ?_
    rintro e w' ⟨he, hg⟩
    refine st_pack (p' := ⟨Tc.next { x with own := wrap64 (x.own + 1) }, updL l 1 ⟨false, t, x.nx / 5⟩, Emp⟩) hg he ?_
    refine ⟨j.next hph hnx rfl rfl rfl (locOk_upd hloc (by omega) rfl (by show t ≤ 17; omega) (by show x.nx / 5 ≤ 17; omega)) (fun hh => j.pub (by rw [holds_upd (by omega)] at hh; exact hh)) rfl ⟨fun _ _ => ?_, fun _ => ?_⟩, fun _ _ => rfl, ⟨rfl, rfl, rfl, rfl, rfl⟩, .inr ⟨rfl, rfl, hnx, .inr (.inr (.inr ⟨rfl, by show x.nx % 5 ≠ 2; omega, by show x.nx % 5 ≠ 3; omega, rfl⟩))⟩⟩
    · exact hpos.ref (by show 1 ≤ x.nx % 5; omega) (by show x.nx % 5 ≤ 3; omega)
    · show (⟨false, t, x.nx / 5⟩ : Lc) = ⟨false, t, (x.nx + 1) / 5⟩
      rw [show (x.nx + 1) / 5 = x.nx / 5 by omega]
  · -- Store
    have hr := hpos.ref (show 1 ≤ x.nx % 5 by omega) (show x.nx % 5 ≤ 3 by omega)
    have hn := hpos.num h5
    obtain ⟨hi, hk⟩ := hloc.ref hr
    simp only at hr hn hi hk
    refine act_within0 (α := Rs × Q × P) (rs := fun y => y.1) (hWC _ (o1_2 h5)) hnx fun w S h => ?_
    rcases hk with hk | hk
    · refine (act_starts4f (x := { x with own := wrap64 (x.own + 1) }) (o := ⟨4, 0, 1, 0, 2, 0, 0⟩) (j := 0) cf.ok rfl rfl (by omega) hs0 (by unfold opE; rw [hr, hk, hi]; rfl) (by omega) (by show 1 < c.locals; omega) hph hnx1 h).mono ?_
      rintro e w' ⟨he, hg⟩
      refine st_pack (p' := ⟨Tc.next { x with own := wrap64 (x.own + 1) }, l, Emp⟩) hg he ?_
      exact ⟨j.next hph hnx rfl rfl rfl hloc j.pub rfl ⟨fun _ _ => hr, fun h => absurd h (by show ¬ (x.nx + 1) % 5 = 2; omega)⟩, fun _ _ => rfl, ⟨rfl, rfl, rfl, rfl, rfl⟩, .inr ⟨rfl, rfl, hnx, .inl ⟨rfl, rfl⟩⟩⟩
    · have hh : holds l = true := by unfold holds; rw [hr, hk]; simp
      have hpb := j.pub hh
      have hwr := g.pb hpb
      refine (act_starts4 (x := { x with own := wrap64 (x.own + 1) }) (o := ⟨4, 0, 1, 0, 2, 0, 0⟩) (j := 0) (ll := l3) cf.ok cf.sh cf.l0 rfl (by omega) rfl rfl (by omega) hs0 (by rw [hk, hi]; simp [ixI, ixB]) (by unfold opE; rw [hr, hk, hi]; simp) (by omega) (by show 1 < c.locals; omega) (by show 1 < 4; omega) (by show (l 1).ref = false; rw [hn]) h).mono ?_
      rintro e w' ⟨fv, he, hg⟩
      refine st_pack (p' := ⟨{ x with own := wrap64 (x.own + 1), f := fv, at_ := 6, addr := ((c.F * 8 + (2 + 2) : Nat) : Int), ref := false, w1 := fl (l 1).k, w2 := fl (l 1).i }, l, Emp⟩) hg he ?_
      exact ⟨j.on hph hph rfl hpb (.write hph hnx rfl rfl h5 rfl (by show fl (l 1).k = fl t; rw [hn]) (by show fl (l 1).i = fl (x.nx / 5); rw [hn])), fun _ _ => rfl, ⟨rfl, rfl, rfl, rfl, rfl⟩, .inl ⟨rfl, rfl⟩⟩
  · -- Load
    have hr := hpos.ref (show 1 ≤ x.nx % 5 by omega) (show x.nx % 5 ≤ 3 by omega)
    obtain ⟨hi, hk⟩ := hloc.ref hr
    simp only at hr hi hk
    refine act_within0 (α := Rs × Q × P) (rs := fun y => y.1) (hWC _ (o1_3 h5)) hnx fun w S h => ?_
    rcases hk with hk | hk
    · refine (act_starts3f (x := { x with own := wrap64 (x.own + 1) }) (o := ⟨3, 2, 0, 0, 2, 0, 0⟩) (j := 0) cf.ok rfl rfl (by omega) hs0 (by unfold opE; rw [hr, hk, hi]; rfl) (by show 2 < c.locals; omega) (by omega) hph hnx1 h).mono ?_
      rintro e w' ⟨he, hg⟩
      refine st_pack (p' := ⟨Tc.next { x with own := wrap64 (x.own + 1) }, l, Emp⟩) hg he ?_
      exact ⟨j.next hph hnx rfl rfl rfl hloc j.pub rfl ⟨fun _ h => absurd h (by show ¬ (x.nx + 1) % 5 ≤ 3; omega), fun h => absurd h (by show ¬ (x.nx + 1) % 5 = 2; omega)⟩, fun _ _ => rfl, ⟨rfl, rfl, rfl, rfl, rfl⟩, .inr ⟨rfl, rfl, hnx, .inl ⟨rfl, rfl⟩⟩⟩
    · have hh : holds l = true := by unfold holds; rw [hr, hk]; simp
      have hpb := j.pub hh
      have hwr := g.pb hpb
      refine (act_starts3 (x := { x with own := wrap64 (x.own + 1) }) (o := ⟨3, 2, 0, 0, 2, 0, 0⟩) (j := 0) (ll := l3) (r := false) cf.ok cf.sh cf.l0 rfl (by omega) rfl rfl (by omega) hs0 (by rw [hk, hi]; simp [ixI, ixB]) (by unfold opE; rw [hr, hk, hi]; simp) (by show 2 < c.locals; omega) (by omega) h).mono ?_
      rintro e w' ⟨fv, he, hg⟩
      refine st_pack (p' := ⟨{ x with own := wrap64 (x.own + 1), f := fv, at_ := 2, addr := ((c.F * 8 + (2 + 2) : Nat) : Int), ref := false }, l, Emp⟩) hg he ?_
      exact ⟨j.on hph hph rfl hpb (.read hph hnx rfl rfl h5 rfl rfl), fun _ _ => rfl, ⟨rfl, rfl, rfl, rfl, rfl⟩, .inl ⟨rfl, rfl⟩⟩
  · -- Clear
    refine act_within0 (α := Rs × Q × P) (rs := fun y => y.1) (hWC _ (o1_4 h5)) hnx fun w S h => ?_
    refine (act_starts13 (x := { x with own := wrap64 (x.own + 1) }) (o := ⟨13, 0, 0, 0, 0, 0, 0⟩) cf.ok rfl (by show 0 < c.locals; omega) (by omega) hph hnx1 h).mono ?_
    rintro e w' ⟨he, hg⟩
    refine st_pack (p' := ⟨Tc.next { x with own := wrap64 (x.own + 1) }, updL l 0 ⟨true, 0, 1⟩, Emp⟩) hg he ?_
    exact ⟨j.next hph hnx rfl rfl rfl (locOk_upd0 hloc hF (.inl rfl)) (fun hh => by simp [holds, updL] at hh) rfl ⟨fun _ _ => rfl, fun h => absurd h (by show ¬ (x.nx + 1) % 5 = 2; omega)⟩, fun _ _ => rfl, ⟨rfl, rfl, rfl, rfl, rfl⟩, .inr ⟨rfl, rfl, hnx, .inr (.inr (.inr ⟨rfl, by show x.nx % 5 ≠ 2; omega, by show x.nx % 5 ≠ 3; omega, rfl⟩))⟩⟩
end
end Go.Proofs.YtnkgnhpapcnebaaGreat
/- A step of a thread that stores and loads: as a whole. -/
namespace Go.Proofs.YtnkgnhpapcnebaaGreat
open Go.RowKit
section
variable {S : Nat → Prop} {w w' : World} {A : CA} {c : Cf} {q q' : Q} {a : TA} {t : Nat} {p p' : P} {rs : Rs} {e : Ending}
set_option maxRecDepth 100000 in
theorem field_in (hc : c.ok) : c.F * 8 + 4 < c.words := by have := hc.frags; unfold Cf.words Cf.F; omega
set_option maxRecDepth 100000 in
theorem st1_read (cf : CfR c) (g : Gi c q) (j : J1 c q t p) (hph : p.x.ph = 2) (hnx : p.x.nx < 40) (hE : p.E = Emp) (hat : p.x.at_ = 2) (h5 : p.x.nx % 5 = 3) (had : p.x.addr = ((c.F * 8 + 4 : Nat) : Int)) (href : p.x.ref = false) : StepDoes A c q a t 4 40 (o1 t) p (Rel1 c t q p) := by
  obtain ⟨x, l, E⟩ := p
  simp only at hph hnx hE hat h5 had href
  subst hE
  have hpos := j.pos (.inr hph)
  have hnx1 : x.nx ≤ 1000 := by omega
  refine st_within hph ?_
  have hWC : ∀ S w, (Sep (Core A c q) (Th a t 4 40 (o1 t) ⟨{ x with own := wrap64 (x.own + 1) }, l, Emp⟩)).at_ S w → WCells a.b a.og a.oo 40 a.oc x.nx 2 ⟨3, 2, 0, 0, 2, 0, 0⟩ w := fun S w h => by
    have := th_wcells (p := ⟨{ x with own := wrap64 (x.own + 1) }, l, Emp⟩) hnx (o1_3 h5) h
    simp only [hat] at this
    exact this
  refine act_within2 (α := Rs × Q × P) (rs := fun y => y.1) hWC hnx fun w S h => ?_
  refine (act_reads (x := { x with own := wrap64 (x.own + 1) }) (o := ⟨3, 2, 0, 0, 2, 0, 0⟩) cf.ok had (field_in cf.ok) (fun f hf => hf.last) g.lk g.li (fun hr => by rw [show x.ref = true from hr] at href; simp at href) (by show 2 < 4; omega) (by omega) hph hnx1 h).mono ?_
  rintro e w' ⟨he, hg⟩
  refine st_pack (p' := ⟨Tc.next { x with own := wrap64 (x.own + 1) }, updL l 2 ⟨x.ref, q.m.lk, q.m.li⟩, Emp⟩) hg he ?_
  exact ⟨j.next hph hnx rfl rfl rfl (locOk_upd j.loc (by omega) href g.lk g.li) (fun hh => j.pub (by rw [holds_upd (by omega)] at hh; exact hh)) rfl ⟨fun _ h => absurd h (by show ¬ (x.nx + 1) % 5 ≤ 3; omega), fun h => absurd h (by show ¬ (x.nx + 1) % 5 = 2; omega)⟩, fun _ _ => rfl, ⟨rfl, rfl, rfl, rfl, rfl⟩, .inr ⟨rfl, rfl, hnx, .inr (.inr (.inl ⟨rfl, h5, rfl, rfl, rfl⟩))⟩⟩
set_option maxRecDepth 100000 in
theorem st1_write (cf : CfR c) (g : Gi c q) (j : J1 c q t p) (hph : p.x.ph = 2) (hnx : p.x.nx < 40) (hE : p.E = Emp) (hat : p.x.at_ = 6) (h5 : p.x.nx % 5 = 2) (had : p.x.addr = ((c.F * 8 + 4 : Nat) : Int)) (hw1 : p.x.w1 = fl t) (hw2 : p.x.w2 = fl (p.x.nx / 5)) : StepDoes A c q a t 4 40 (o1 t) p (Rel1 c t q p) := by
  have hpb := j.wr hph (by omega)
  obtain ⟨x, l, E⟩ := p
  simp only at hph hnx hE hat h5 had hw1 hw2
  subst hE
  have hpos := j.pos (.inr hph)
  have hnx1 : x.nx ≤ 1000 := by omega
  refine st_within hph ?_
  have hWC : ∀ S w, (Sep (Core A c q) (Th a t 4 40 (o1 t) ⟨{ x with own := wrap64 (x.own + 1) }, l, Emp⟩)).at_ S w → WCells a.b a.og a.oo 40 a.oc x.nx 6 ⟨4, 0, 1, 0, 2, 0, 0⟩ w := fun S w h => by
    have := th_wcells (p := ⟨{ x with own := wrap64 (x.own + 1) }, l, Emp⟩) hnx (o1_2 h5) h
    simp only [hat] at this
    exact this
  refine act_within6 (α := Rs × Q × P) (rs := fun y => y.1) hWC hnx fun w S h => ?_
  refine (act_stores_write (x := { x with own := wrap64 (x.own + 1) }) (m' := { q.m with lk := t, li := x.nx / 5 }) cf.ok hat had (field_in cf.ok) (fun f hf => by
    show MemOk c _ (setV f _ (.complex .f64 x.w1 x.w2))
    rw [hw1, hw2]; exact memok_store cf.ok t (x.nx / 5) hf) hph hnx1 h).mono ?_
  rintro e w' ⟨he, hg⟩
  refine st_pack (q' := { q with m := { q.m with lk := t, li := x.nx / 5 } }) (p' := ⟨Tc.next { x with own := wrap64 (x.own + 1) }, l, Emp⟩) hg he ?_
  exact ⟨j.next hph hnx rfl rfl rfl j.loc j.pub rfl ⟨fun _ _ => hpos.ref (by show 1 ≤ x.nx % 5; omega) (by show x.nx % 5 ≤ 3; omega), fun h => absurd h (by show ¬ (x.nx + 1) % 5 = 2; omega)⟩, fun _ _ => rfl, ⟨rfl, rfl, rfl, rfl, rfl⟩, .inr ⟨rfl, rfl, hnx, .inr (.inl ⟨rfl, h5, rfl, rfl, hpb⟩)⟩⟩
set_option maxRecDepth 100000 in
/-- At the border still. -/
theorem J1.bord {x' : Tc} {E' : Thing} (j : J1 c q t p) (h1 : p.x.ph = 1) (hx : x'.ph = 1) (hnx : x'.nx = p.x.nx) (ho : q'.h.own t ≠ -1) (hm : q'.m = q.m) (ha : At1 c t ⟨x', p.l, E'⟩) : J1 c q' t ⟨x', p.l, E'⟩ where
  nx := by show x'.nx ≤ 40; rw [hnx]; exact j.nx
  loc := j.loc
  pub := fun h => by rw [hm]; exact j.pub h
  wr := fun h => by have h' : x'.ph = 2 := h; omega
  out := fun h => by have h' : x'.ph = 0 := h; omega
  here := fun _ => ho
  pos := fun _ => by show Pos t x'.nx p.l; rw [hnx]; exact j.pos (.inl h1)
  at1 := ha
set_option maxRecDepth 100000 in
theorem setI_ne {m : Nat → Int} {j k : Nat} {x : Int} (h : k ≠ j) : setI m j x k = m k := by unfold setI; rw [if_neg h]
set_option maxRecDepth 100000 in
theorem setI_eq {m : Nat → Int} {j : Nat} {x : Int} : setI m j x j = x := by unfold setI; rw [if_pos rfl]
set_option maxRecDepth 100000 in
theorem st1 (cf : CfR c) (ht : t < c.threads) (ht1 : 1 ≤ t) (ht16 : t ≤ 16) (g : Gi c q) (j : J1 c q t p) : StepDoes A c q a t 4 40 (o1 t) p (Rel1 c t q p) := by
  rcases j.at1 with ⟨h, h1, h2⟩ | ⟨h, h1, h2⟩ | ⟨h, h1, h2, h3, h4⟩ | ⟨h, h1, h2, h3, h4⟩ | ⟨h, h1, h2⟩ | ⟨h, h1, h2⟩ | ⟨h, h1, h2, h3⟩ | ⟨h, h1, h2, h3, h4, h5, h6⟩ | ⟨h, h1, h2, h3, h4, h5, h6, h7⟩ | ⟨h, h2⟩
  · have hst : q.h.st ≠ -1 := by have := g.st0; omega
    refine st_out h ht cf.ok (j.out h) ⟨⟨j.nx, j.loc, j.pub, fun h => absurd h (by show ¬ (1 : Int) = 2; decide), fun h => absurd h (by show ¬ (1 : Int) = 0; decide), fun _ => by show setI q.h.own t q.h.st t ≠ -1; rw [setI_eq]; exact hst, fun _ => ⟨fun h => ?_, fun h => ?_⟩, .look rfl rfl h2⟩, fun k hk => setI_ne hk, ⟨rfl, rfl, rfl, rfl, rfl⟩, .inl ⟨rfl, rfl⟩⟩
    · have h' : 1 ≤ p.x.nx % 5 := h; omega
    · have h' : p.x.nx % 5 = 2 := h; omega
  · have ho := j.here (.inl h)
    refine bd_look h h1 h2 j.loc (by omega) (by omega) (fun hst hnx => ?_) (fun hst hnx => ?_) (fun sn hst => ?_) (fun v hst h3 => ?_)
    · refine ⟨⟨j.nx, j.loc, j.pub, fun _ h => absurd rfl h, fun h => absurd h (by show ¬ (2 : Int) = 0; decide), fun _ => ho, fun _ => j.pos (.inl h), .start rfl hnx h2 rfl⟩, fun _ _ => rfl, ⟨rfl, rfl, rfl, rfl, rfl⟩, .inl ⟨rfl, rfl⟩⟩
    · exact ⟨j.bord h h rfl ho rfl (.drain h rfl h2), fun _ _ => rfl, ⟨rfl, rfl, rfl, rfl, rfl⟩, .inl ⟨rfl, rfl⟩⟩
    · exact ⟨j.bord h h rfl ho rfl (.give h rfl h2 g.st0 g.st4), fun _ _ => rfl, ⟨rfl, rfl, rfl, rfl, rfl⟩, .inl ⟨rfl, rfl⟩⟩
    · exact ⟨j.bord h h rfl ho rfl (.grey h rfl rfl g.st0 g.st4), fun _ _ => rfl, ⟨rfl, rfl, rfl, rfl, rfl⟩, .inl ⟨rfl, rfl⟩⟩
  · exact bd_grey h h1 h2 fun v => ⟨j.bord h h rfl (j.here (.inl h)) rfl (.give h rfl rfl h3 h4), fun _ _ => rfl, ⟨rfl, rfl, rfl, rfl, rfl⟩, .inl ⟨rfl, rfl⟩⟩
  · refine bd_give cf.ok ht (j.here (.inl h)) h h1 h3 h4 ⟨j.bord h h rfl ?_ rfl (.look h rfl h2), fun k hk => setI_ne hk, ⟨rfl, rfl, rfl, rfl, rfl⟩, .inl ⟨rfl, rfl⟩⟩
    show setI q.h.own t p.x.seen t ≠ -1
    rw [setI_eq]; omega
  · exact bd_drain ht h h1 ⟨j.bord h h rfl (j.here (.inl h)) rfl (.leave h rfl h2), fun _ _ => rfl, ⟨rfl, rfl, rfl, rfl, rfl⟩, .inl ⟨rfl, rfl⟩⟩
  · refine bd_leave cf.ok ht (by omega) (j.here (.inl h)) h h1 ⟨⟨j.nx, ⟨fun _ _ => ⟨by show 0 ≤ 17; omega, by show 0 ≤ 17; omega⟩, fun _ _ _ => rfl, fun h => by simp at h⟩, fun h => by simp [holds] at h, fun h => absurd h (by show ¬ (4 : Int) = 2; decide), fun h => absurd h (by show ¬ (4 : Int) = 0; decide), fun h => ?_, fun h => ?_, .gone rfl h2⟩, fun k hk => setI_ne hk, ⟨rfl, rfl, rfl, rfl, rfl⟩, .inl ⟨rfl, rfl⟩⟩
    · have h' : (4 : Int) = 1 ∨ (4 : Int) = 2 := h; omega
    · have h' : (4 : Int) = 1 ∨ (4 : Int) = 2 := h; omega
  · exact st1_start cf ht ht1 ht16 g j h h1 h2 h3
  · exact st1_read cf g j h h1 h2 h3 h4 h5 h6
  · exact st1_write cf g j h h1 h2 h3 h4 h5 h6 h7
  · exact st_gone h ⟨j, fun _ _ => rfl, ⟨rfl, rfl, rfl, rfl, rfl⟩, .inl ⟨rfl, rfl⟩⟩
end
end Go.Proofs.YtnkgnhpapcnebaaGreat
/- A thread: an operation's first step: New. -/
namespace Go.Proofs.YtnkgnhpapcnebaaGreat
open Go.RowKit
attribute [local go_sem] run_store_complex via_ret via_normal via_exit via_panic
section
variable {b t : Nat} {ov lv : Value} {x : Tc} {X : Thing} {S : Nat → Prop} {w w' : World} {A : CA} {c : Cf} {q : Q} {lg n : Nat} {l : Nat → Lc}
set_option maxRecDepth 100000 in
theorem act_starts1 {o : Opn} {ll : List Bool} (hc : c.ok) (hsh : c.shapes[0]? = some (false, ll)) (hk : o.kd = 1) (hb : o.b = 0) (hA : o.a < c.locals) (ht : t < c.threads) (hask : q.ask = false) (h : (Sep (Core A c q) (LThr b t ov lg n x l X)).at_ S w) :
    Calls Tryz.prog 110 #[.pointer (some ⟨b, 0, none⟩), .pointer (some ⟨A.b, 0, none⟩), .agg (opc o)] w fun e w' => ∃ v u, e = .returned (Rs.v ⟨0, 0, 0, false, 0, 0, false⟩) ∧ Goes (Sep (Sep (Sep (Core A c { q with ask := true }) (LThr b t ov lg n { x with wr := u, got := v, ph := 2, at_ := 7 } l X)) (Got v c.F)) (Seq 2 u 8 (wc c.F (yl ll) 8))) S w w' := by
  have hoc : opc o = #[.int .i64 1, .int .i64 (o.a : Int), .int .i64 0, .int .i64 (o.c : Int), .int .i64 (o.n : Int), .complex .f64 o.z1 o.z2] := by unfold opc; rw [hk, hb]; rfl
  have g0 := ((Goes.begin h).moreSt (St.fresh #[.int .i64 1, .int .i64 (o.a : Int), .int .i64 0, .int .i64 (o.c : Int), .int .i64 (o.n : Int), .complex .f64 o.z1 o.z2] 26)).moreSt (St.fresh zeroRes 41)
  rw [World.size_alloc] at g0
  obtain ⟨vb, hvb⟩ : ∃ k, w.heap.size = k := ⟨_, rfl⟩
  obtain ⟨rb, hrb⟩ : ∃ k, vb + 1 = k := ⟨_, rfl⟩
  rw [hvb, hrb] at g0
  simp only [zeroRes] at g0
  have g1 := g0.drew_
  obtain ⟨c0, c1, c2, c3, c4, c5, c6, c7, c8⟩ := core9 g1.l.l.l
  have p0 := g1.l.r.vc 0 (v := .int .i64 1) rfl
  have p1 := g1.l.r.vc 1 (v := .int .i64 (o.a : Int)) rfl
  have p2 := g1.l.r.vc 2 (v := .int .i64 0) rfl
  have p3 := g1.l.r.vc 3 (v := .int .i64 (o.c : Int)) rfl
  have p4 := g1.l.r.vc 4 (v := .int .i64 (o.n : Int)) rfl
  have p5 := g1.l.r.vc 5 (v := .complex .f64 o.z1 o.z2) rfl
  have HL := Lib.hid (g1.plain (op_check1 hc hA hsh (A := o.a) (C := o.c) (N := o.n) (z1 := o.z1) (z2 := o.z2) (core_confIs g1.l.l.l.is).choose_spec))
  have HO := Lib.hid fun w1 (gg : Goes (Sep (Sep (Sep (Core A c q) (LThr b t ov lg n x l X)) (Var vb #[.int .i64 1, .int .i64 (o.a : Int), .int .i64 0, .int .i64 (o.c : Int), .int .i64 (o.n : Int), .complex .f64 o.z1 o.z2] 26)) (Var rb #[.int .i64 0, .int .i64 0, .int .i64 0, .bool false, .complex .f64 0 0] 41)) S w w1) => gg.call (sepL (sepL (sepR fun S h => act_operands1 hk h)))
  have HP := Lib.hid fun w1 (gg : Goes (Sep (Sep (Sep (Core A c q) (LThr b t ov lg n x l X)) (Var vb #[.int .i64 1, .int .i64 (o.a : Int), .int .i64 0, .int .i64 (o.c : Int), .int .i64 (o.n : Int), .complex .f64 o.z1 o.z2] 26)) (Var rb #[.int .i64 0, .int .i64 0, .int .i64 0, .bool false, .complex .f64 0 0] 41)) S w w1) => gg.call (sepL (sepL (sepR fun S h => act_plain1 hk h)))
  have HR := Lib.hid fun w1 pb (gg : Goes (Sep (Sep (Sep (Sep (Core A c q) (LThr b t ov lg n x l X)) (Var vb #[.int .i64 1, .int .i64 (o.a : Int), .int .i64 0, .int .i64 (o.c : Int), .int .i64 (o.n : Int), .complex .f64 o.z1 o.z2] 26)) (Var rb #[.int .i64 0, .int .i64 0, .int .i64 0, .bool false, .complex .f64 0 0] 41)) (Var pb #[.bool false, .complex .f64 0 0] 39)) S w w1) => Does.on (Does.l (Does.l (Does.l (fun S h => (act_asks hc hsh hk hb hA ht hask h).mono fun e w' ⟨v, u, he, hg⟩ => ⟨(v, u), he, hg⟩ : Does Tryz.prog 171 #[.pointer (some ⟨b, 0, none⟩), .pointer (some ⟨A.b, 0, none⟩), .agg (opc o)] w1 (Sep (Core A c q) (LThr b t ov lg n x l X)) (fun (y : Value × Value) e => e = .returned (Rs.v ⟨0, 0, 0, false, 0, 0, false⟩)) (fun y => (Sep (Sep (Sep (Core A c { q with ask := true }) (LThr b t ov lg n { x with wr := y.2, got := y.1, ph := 2, at_ := 7 } l X)) (Got y.1 c.F)) (Seq 2 y.2 8 (wc c.F (yl ll) 8)))))))) gg
  rw [hoc] at HR
  unfold Rs.v at *
  rw [hoc] at HO HP
  rw [hoc]
  unfold cfV at HL
  clear h g0 g1 hoc hk hb hc hsh
  go_enter Tryz.func110, Tryz.ntmps110
  go_upto_region 1 with fail
  generalize (w.alloc _).alloc _ = w1 at *
  go_still_tail 5, (by kernel_rfl)
  change wpList _ _ _ _ _ w1.drew
  generalize w1.drew = w2 at *
  go_wp2_with fail
  with_reducible refine HL.out.mono ?_
  rintro e w3 ⟨rfl, hg⟩
  have HC := Lib.hid (HO.out _ hg)
  clear HL HO c0 c1 c2 c3 c4 c5 c6 c7 c8 p0 p1 p2 p3 p4 p5
  have p0 := hg.l.r.vc 0 (v := .int .i64 1) rfl
  have p1 := hg.l.r.vc 1 (v := .int .i64 (o.a : Int)) rfl
  have p2 := hg.l.r.vc 2 (v := .int .i64 0) rfl
  have p3 := hg.l.r.vc 3 (v := .int .i64 (o.c : Int)) rfl
  have p4 := hg.l.r.vc 4 (v := .int .i64 (o.n : Int)) rfl
  have p5 := hg.l.r.vc 5 (v := .complex .f64 o.z1 o.z2) rfl
  clear hg
  go_wp2_with fail
  with_reducible refine HC.out.mono ?_
  rintro e w4 ⟨rfl, hg⟩
  clear HC p0 p1 p2 p3 p4 p5
  have HPC := Lib.hid (HP.out _ hg)
  have p0 := hg.l.r.vc 0 (v := .int .i64 1) rfl
  have p1 := hg.l.r.vc 1 (v := .int .i64 (o.a : Int)) rfl
  have p2 := hg.l.r.vc 2 (v := .int .i64 0) rfl
  have p3 := hg.l.r.vc 3 (v := .int .i64 (o.c : Int)) rfl
  have p4 := hg.l.r.vc 4 (v := .int .i64 (o.n : Int)) rfl
  have p5 := hg.l.r.vc 5 (v := .complex .f64 o.z1 o.z2) rfl
  clear HP hg
  go_wp2_with fail
  with_reducible refine HPC.out.mono ?_
  rintro e w5 ⟨rfl, hg⟩
  have g6 := hg.moreSt (St.fresh #[.bool false, .complex .f64 0 0] 39)
  obtain ⟨pb, hpb⟩ : ∃ k, w5.heap.size = k := ⟨_, rfl⟩
  rw [hpb] at g6
  clear HPC p0 p1 p2 p3 p4 p5 hg
  have v0 := g6.r.vc 0 (v := .bool false) rfl
  have v1 := g6.r.vc 1 (v := .complex .f64 0 0) rfl
  have p0 := g6.l.l.r.vc 0 (v := .int .i64 1) rfl
  have p1 := g6.l.l.r.vc 1 (v := .int .i64 (o.a : Int)) rfl
  have p2 := g6.l.l.r.vc 2 (v := .int .i64 0) rfl
  have p3 := g6.l.l.r.vc 3 (v := .int .i64 (o.c : Int)) rfl
  have p4 := g6.l.l.r.vc 4 (v := .int .i64 (o.n : Int)) rfl
  have p5 := g6.l.l.r.vc 5 (v := .complex .f64 o.z1 o.z2) rfl
  have HRC := Lib.hid (HR.out _ _ g6)
  clear HR g6
  go_upto_region 9 with fail
  generalize w5.alloc _ = w6 at *
  go_wp2_with fail
  with_reducible refine HRC.out.mono ?_
  rintro e w7 ⟨⟨v, u⟩, rfl, hgx⟩
  have hg := hgx.l
  clear HRC hgx p0 p1 p2 p3 p4 p5 v0 v1
  have q0_ := hg.r.vc 0 (v := .int .i64 0) rfl
  have p0_ := hg.r.vf 0
  have q1_ := hg.r.vc 1 (v := .int .i64 0) rfl
  have p1_ := hg.r.vf 1
  have q2_ := hg.r.vc 2 (v := .int .i64 0) rfl
  have p2_ := hg.r.vf 2
  have q3_ := hg.r.vc 3 (v := .bool false) rfl
  have p3_ := hg.r.vf 3
  have q4_ := hg.r.vc 4 (v := .complex .f64 0 0) rfl
  have p4_ := hg.r.vf 4
  have g8_ := hg.then fun S h => goesR (fun S h => (((((Goes.begin h).vput 0 (.int .i64 (0)) rfl).vput 1 (.int .i64 (0)) rfl).vput 2 (.int .i64 (0)) rfl).vput 3 (.bool (false)) rfl).vput 4 (.complex .f64 0 0) rfl) S h
  have k0_ := g8_.r.vc 0 (v := .int .i64 (0)) rfl
  have k1_ := g8_.r.vc 1 (v := .int .i64 (0)) rfl
  have k2_ := g8_.r.vc 2 (v := .int .i64 (0)) rfl
  have k3_ := g8_.r.vc 3 (v := .bool (false)) rfl
  have k4_ := g8_.r.vc 4 (v := .complex .f64 0 0) rfl
  have HF := Lib.hid g8_.l
  clear hg g8_
  go_wp2_with fail
  (try rw [via_ret])
  exact bodyPost_ret (v := .tuple #[.agg #[.int .i64 (0), .int .i64 (0), .int .i64 (0), .bool (false), .complex .f64 0 0], .bool false]) (by simp [results, Tryz.results110, go_sem, k0_, k1_, k2_, k3_, k4_]) rfl ⟨_, _, rfl, HF.out.l⟩
end
end Go.Proofs.YtnkgnhpapcnebaaGreat
