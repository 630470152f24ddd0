/- A step of the thread that makes the object: what it does behind it; as a whole. -/
import Derived.Test.YtnkgnhpapcnebaaGreatM43
import Derived.Test.YtnkgnhpapcnebaaGreatM26
import Derived.Test.YtnkgnhpapcnebaaGreatM38
set_option linter.unusedVariables false
set_option linter.unusedSimpArgs false
set_option maxHeartbeats 8000000
namespace Go.Proofs.YtnkgnhpapcnebaaGreat
open Go.RowKit
section
variable {S : Nat → Prop} {w w' : World} {A : CA} {c : Cf} {q q' : Q} {a : TA} {p p' : P} {rs : Rs} {e : Ending} {k : Nat}
set_option maxRecDepth 100000 in
theorem holds_loc {F n : Nat} {l : Nat → Lc} (h : LocOk F n l) (hl : (l 0).ref = true → (l 0).k = F + 1) (hr : (l 0).ref = true) : (l 0).k = F + 1 ∧ (l 0).i = 1 ∧ holds l = true := by
  have hk := hl hr
  exact ⟨hk, (h.ref hr).1, by unfold holds; rw [hr, hk]; simp⟩
set_option maxRecDepth 100000 in
/-- Behind its second operation. -/
theorem J0.next {x' : Tc} {l' : Nat → Lc} (j : J0 c k q p) (h2 : p.x.ph = 2) (hn : p.x.nx = 1) (hx : x'.ph = 1) (hpc : x'.pc = 0) (hnx : x'.nx = p.x.nx + 1) (hl : LocOk c.F c.locals l') (hr : (l' 0).ref = true → (l' 0).k = c.F + 1) (hw : holds l' = true → q'.m.wr = 8)
    (ho : q'.h = q.h) : J0 c k q' ⟨x', l', Emp⟩ where
  nx := by show x'.nx ≤ 2; omega
  loc := hl
  lref := hr
  hw := hw
  pb := fun h => absurd (show x'.nx < 2 from h) (by omega)
  zero := fun h => absurd (show x'.nx = 0 from h) (by omega)
  bz := fun h => absurd (show x'.nx = 0 from h) (by omega)
  end4 := fun h => absurd (show x'.ph = 4 from h) (by omega)
  out := fun h => absurd (show x'.ph = 0 from h) (by omega)
  here := fun _ => by rw [ho]; exact j.here (.inr h2)
  at0 := .look hx hpc rfl
set_option maxRecDepth 100000 in
theorem J0.on {x' : Tc} (j : J0 c k q p) (h2 : p.x.ph = 2) (hn : p.x.nx = 1) (hx : x'.ph = 2) (hnx : x'.nx = p.x.nx) (ha : At0 c k q ⟨x', p.l, Emp⟩) : J0 c k q ⟨x', p.l, Emp⟩ where
  nx := by show x'.nx ≤ 2; omega
  loc := j.loc
  lref := j.lref
  hw := j.hw
  pb := fun _ => j.pb (by omega)
  zero := fun h => absurd (show x'.nx = 0 from h) (by omega)
  bz := fun h => absurd (show x'.nx = 0 from h) (by omega)
  end4 := fun h => absurd (show x'.ph = 4 from h) (by omega)
  out := fun h => absurd (show x'.ph = 0 from h) (by omega)
  here := fun _ => j.here (.inr h2)
  at0 := ha
set_option maxRecDepth 100000 in
theorem rank_done {x x' : Tc} {wr wr' : Nat} (h2 : x.ph = 2) (hn : x.nx = 1) (hx : x'.ph = 1) (hpc : x'.pc = 0) (hnx : x'.nx = x.nx + 1) : rank wr' x' = rank wr x - 1 := by
  simp [rank, h2, hn, hx, hpc, hnx]
set_option maxRecDepth 100000 in
theorem st0_set (cf : CfZ c 8) (hgl : 0 < c.globals) (g : Gi c q) (j : J0 c 8 q p) (hph : p.x.ph = 2) (hnx : p.x.nx = 1) (hE : p.E = Emp) (hat : p.x.at_ = 0) : StepDoes A c q a 0 c.locals 2 (o0 8) p (Rel0 c 8 q p) := by
  obtain ⟨x, l, E⟩ := p
  simp only at hph hnx hE hat
  subst hE
  have hlc := cf.ok.locals
  have hs0 := j.loc.small 0 (by omega)
  have hpb := j.pb (show x.nx < 2 by omega)
  have hx1 : x.nx ≤ 1000 := by omega
  refine st_within hph ?_
  refine act_within0 (α := Rs × Q × P) (rs := fun y => y.1) (st0_wc (x := x) (by omega) hat (o0_1 hnx)) (by omega) fun w S h => ?_
  cases hr : (l 0).ref with
  | false =>
    refine (act_starts8f (x := { x with own := wrap64 (x.own + 1) }) (o := ⟨8, 0, 0, 0, 0, 0, 0⟩) (j := 0) cf.ok rfl rfl (by omega) hs0 (by rw [hr]; rfl) (by omega) hgl hph hx1 h).mono ?_
    rintro e w' ⟨he, hg⟩
    refine st_pack (p' := ⟨Tc.next { x with own := wrap64 (x.own + 1) }, l, Emp⟩) hg he ?_
    exact ⟨j.next hph hnx rfl rfl rfl j.loc j.lref j.hw rfl, fun _ _ => rfl, rfl, ⟨rfl, rfl⟩, fun h => h, fun h => h, g, .inr ⟨rfl, rfl⟩, fun h => absurd h (by decide)⟩
  | true =>
    obtain ⟨hk, hi, hh⟩ := holds_loc j.loc j.lref hr
    have hwr := j.hw hh
    cases hsh : shd x.st with
    | false =>
      refine (act_starts8w (x := { x with own := wrap64 (x.own + 1) }) (o := ⟨8, 0, 0, 0, 0, 0, 0⟩) (N := 0) (j := 0) (m' := { q.m with pb := true }) cf.ok rfl rfl rfl (by omega) hs0 hgl (by omega) hr hsh (fun f hf => by rw [hk, hi]; exact memok_pub cf.ok hf) hph hx1 h).mono ?_
      rintro e w' ⟨he, hg⟩
      refine st_pack (q' := { q with m := { q.m with pb := true } }) (p' := ⟨Tc.next { x with own := wrap64 (x.own + 1), addr := ((c.glob 0 : Nat) : Int), ref := true, at_ := 6, w1 := fl (l 0).k, w2 := fl (l 0).i }, l, Emp⟩) hg he ?_
      exact ⟨j.next hph hnx rfl rfl rfl j.loc j.lref (fun _ => hwr) rfl, fun _ _ => rfl, rfl, ⟨rfl, rfl⟩, fun _ => rfl, fun h => h, ⟨g.st0, g.st4, g.lk, g.li, fun _ => hwr, g.bn, fun h => absurd h (by simp)⟩, .inr ⟨rfl, rfl⟩, fun h => absurd h (by decide)⟩
    | true =>
      have hb : ∀ av : Int, (if bth x.st then (5 : Int) else 6) = av → av = 5 ∨ av = 6 := fun av h => by rw [← h]; split <;> simp
      obtain ⟨av, hav⟩ : ∃ av, (if bth x.st then (5 : Int) else 6) = av := ⟨_, rfl⟩
      have hav2 := hb av hav
      refine (act_starts8o (x := { x with own := wrap64 (x.own + 1) }) (o := ⟨8, 0, 0, 0, 0, 0, 0⟩) (N := 0) (j := 0) (av := av) cf.ok rfl rfl rfl (by omega) hs0 hgl (by omega) hr hsh cf.F hk hi (fun f hf => by rw [hf.glob 0 hgl, hpb]; simp) hav h).mono ?_
      rintro e w' ⟨he, hg⟩
      refine st_pack (p' := ⟨{ x with own := wrap64 (x.own + 1), addr := ((c.glob 0 : Nat) : Int), ref := true, at_ := av, w1 := fl (l 0).k, w2 := fl (l 0).i, o1 := fl 0, o2 := fl 1 }, l, Emp⟩) hg he ?_
      refine ⟨j.on hph hnx hph rfl ?_, fun _ _ => rfl, rfl, ⟨rfl, rfl⟩, fun h => h, fun h => h, g, .inl ⟨rfl, rfl⟩, fun h => absurd h (by decide)⟩
      rcases hav2 with rfl | rfl
      · exact .shade hph hnx rfl rfl rfl (by show fl (l 0).k = _; rw [hk]) (by show fl (l 0).i = _; rw [hi]) rfl hh
      · exact .write hph hnx rfl rfl rfl (by show fl (l 0).k = _; rw [hk]) (by show fl (l 0).i = _; rw [hi]) rfl hh
set_option maxRecDepth 100000 in
theorem st0_shade (cf : CfZ c k) (g : Gi c q) (j : J0 c k q p) (hph : p.x.ph = 2) (hnx : p.x.nx = 1) (hE : p.E = Emp) (hat : p.x.at_ = 5) (had : p.x.addr = ((c.glob 0 : Nat) : Int)) (hw1 : p.x.w1 = fl (c.F + 1)) (hw2 : p.x.w2 = fl 1) (hk : k = 8) (hh : holds p.l = true) : StepDoes A c q a 0 c.locals 2 (o0 k) p (Rel0 c k q p) := by
  obtain ⟨x, l, E⟩ := p
  simp only at hph hnx hE hat had hw1 hw2
  subst hE
  refine st_within hph ?_
  refine act_within5 (α := Rs × Q × P) (rs := fun y => y.1) (st0_wc (x := x) (by omega) hat (o0_1 hnx)) (by omega) fun w S h => ?_
  refine (act_stores_grey (x := { x with own := wrap64 (x.own + 1) }) cf.F hat hw1 hw2 h).mono ?_
  rintro e w' ⟨he, hg⟩
  refine st_pack (p' := ⟨{ x with own := wrap64 (x.own + 1), at_ := 6 }, l, Emp⟩) hg he ?_
  exact ⟨j.on hph hnx hph rfl (.write hph hnx rfl rfl had hw1 hw2 hk hh), fun _ _ => rfl, rfl, ⟨rfl, rfl⟩, fun h => h, fun h => h, g, .inl ⟨rfl, rfl⟩, fun h => by omega⟩
set_option maxRecDepth 100000 in
theorem st0_write (cf : CfZ c k) (hgl : 0 < c.globals) (g : Gi c q) (j : J0 c k q p) (hph : p.x.ph = 2) (hnx : p.x.nx = 1) (hE : p.E = Emp) (hat : p.x.at_ = 6) (had : p.x.addr = ((c.glob 0 : Nat) : Int)) (hw1 : p.x.w1 = fl (c.F + 1)) (hw2 : p.x.w2 = fl 1) (hk : k = 8) (hh : holds p.l = true) : StepDoes A c q a 0 c.locals 2 (o0 k) p (Rel0 c k q p) := by
  obtain ⟨x, l, E⟩ := p
  simp only at hph hnx hE hat had hw1 hw2
  subst hE
  have hwr := j.hw hh
  refine st_within hph ?_
  refine act_within6 (α := Rs × Q × P) (rs := fun y => y.1) (st0_wc (x := x) (by omega) hat (o0_1 hnx)) (by omega) fun w S h => ?_
  refine (act_stores_write (x := { x with own := wrap64 (x.own + 1) }) (m' := { q.m with pb := true }) cf.ok hat had (show c.glob 0 < c.words by unfold Cf.glob Cf.words; omega) (fun f hf => by
    show MemOk c _ (setV f _ (.complex .f64 x.w1 x.w2))
    rw [hw1, hw2]; exact memok_pub cf.ok hf) hph (show x.nx ≤ 1000 by omega) h).mono ?_
  rintro e w' ⟨he, hg⟩
  refine st_pack (q' := { q with m := { q.m with pb := true } }) (p' := ⟨Tc.next { x with own := wrap64 (x.own + 1) }, l, Emp⟩) hg he ?_
  exact ⟨j.next hph hnx rfl rfl rfl j.loc j.lref (fun _ => hwr) rfl, fun _ _ => rfl, rfl, ⟨rfl, rfl⟩, fun _ => rfl, fun h => h, ⟨g.st0, g.st4, g.lk, g.li, fun _ => hwr, g.bn, fun h => absurd h (by simp)⟩, .inr ⟨rfl, rfl⟩, fun h => by omega⟩
set_option maxRecDepth 100000 in
theorem st0_kind (cf : CfZ c 11) (g : Gi c q) (j : J0 c 11 q p) (hph : p.x.ph = 2) (hnx : p.x.nx = 1) (hE : p.E = Emp) (hat : p.x.at_ = 0) : StepDoes A c q a 0 c.locals 2 (o0 11) p (Rel0 c 11 q p) := by
  obtain ⟨x, l, E⟩ := p
  simp only at hph hnx hE hat
  subst hE
  have hlc := cf.ok.locals
  have hs0 := j.loc.small 0 (by omega)
  have hx1 : x.nx ≤ 1000 := by omega
  refine st_within hph ?_
  refine act_within0 (α := Rs × Q × P) (rs := fun y => y.1) (st0_wc (x := x) (by omega) hat (o0_1 hnx)) (by omega) fun w S h => ?_
  cases hr : (l 0).ref with
  | false =>
    refine (act_starts11f (x := { x with own := wrap64 (x.own + 1) }) (o := ⟨11, 0, 0, 0, 0, 0, 0⟩) (j := 0) cf.ok rfl rfl (by omega) hs0 (by unfold opE; rw [hr]; rfl) (by show 0 < c.locals; omega) (by omega) hph hx1 h).mono ?_
    rintro e w' ⟨he, hg⟩
    refine st_pack (p' := ⟨Tc.next { x with own := wrap64 (x.own + 1) }, l, Emp⟩) hg he ?_
    exact ⟨j.next hph hnx rfl rfl rfl j.loc j.lref j.hw rfl, fun _ _ => rfl, rfl, ⟨rfl, rfl⟩, fun h => h, fun h => h, g, .inr ⟨rfl, rfl⟩, fun _ hq => ⟨rank_done hph hnx rfl rfl rfl, fun _ => hq.1 (.inr hph), fun _ => .inl rfl⟩⟩
  | true =>
    obtain ⟨hk, hi, hh⟩ := holds_loc j.loc j.lref hr
    have hwr := j.hw hh
    refine (act_starts11 (x := { x with own := wrap64 (x.own + 1) }) (o := ⟨11, 0, 0, 0, 0, 0, 0⟩) (j := 0) cf.ok cf.sh (by omega) rfl rfl (by omega) hs0 (by rw [hk, hi]; simp [ixI, ixB]) (by unfold opE; rw [hr, hk, hi]; simp) (by show 0 < c.locals; omega) (by omega) rfl hph hx1 h).mono ?_
    rintro e w' ⟨he, hg⟩
    refine st_pack (p' := ⟨Tc.next { x with own := wrap64 (x.own + 1) }, updL l 0 ⟨false, 0, 0⟩, Emp⟩) hg he ?_
    exact ⟨j.next hph hnx rfl rfl rfl ⟨fun i hi' => by
      unfold updL
      split
      · exact ⟨by show 0 ≤ 17; omega, by show 0 ≤ 17; omega⟩
      · exact j.loc.small i hi', fun i h1 hi' => by
      unfold updL
      rw [if_neg (by omega)]
      exact j.loc.num i h1 hi', fun h => by simp [updL] at h⟩ (fun h => by simp [updL] at h) (fun h => by simp [holds, updL] at h) rfl, fun _ _ => rfl, rfl, ⟨rfl, rfl⟩, fun h => h, fun h => h, g, .inr ⟨rfl, rfl⟩, fun _ hq => ⟨rank_done hph hnx rfl rfl rfl, fun _ => hq.1 (.inr hph), fun _ => .inl rfl⟩⟩
set_option maxRecDepth 100000 in
/-- At the border still. -/
theorem J0.bord {x' : Tc} {E' : Thing} (j : J0 c k q p) (h1 : p.x.ph = 1) (hx : x'.ph = 1) (hnx : x'.nx = p.x.nx) (ho : q'.h.own 0 ≠ -1) (hm : q'.m = q.m) (hb : q'.bn = q.bn) (hak : q'.ask = q.ask) (ha : At0 c k q' ⟨x', p.l, E'⟩) : J0 c k q' ⟨x', p.l, E'⟩ where
  nx := by show x'.nx ≤ 2; rw [hnx]; exact j.nx
  loc := j.loc
  lref := j.lref
  hw := fun h => by rw [hm]; exact j.hw h
  pb := fun h => by rw [hm]; exact j.pb (by rw [← hnx]; exact h)
  zero := fun h _ => by rw [hm, hak]; exact j.zero (by rw [← hnx]; exact h) (.inl (by omega))
  bz := fun h => by rw [hb]; exact j.bz (by rw [← hnx]; exact h)
  end4 := fun h => absurd (show x'.ph = 4 from h) (by omega)
  out := fun h => absurd (show x'.ph = 0 from h) (by omega)
  here := fun _ => ho
  at0 := ha
set_option maxRecDepth 100000 in
theorem gi_hand {h' : Hq} (g : Gi c q) (h0 : h'.st = q.h.st) : Gi c { q with h := h' } := ⟨by show 0 ≤ h'.st; rw [h0]; exact g.st0, by show h'.st ≤ 4; rw [h0]; exact g.st4, g.lk, g.li, g.pb, g.bn, g.no⟩
set_option maxRecDepth 100000 in
theorem st0 (cf : CfZ c k) (g : Gi c q) (j : J0 c k q p) : StepDoes A c q a 0 c.locals 2 (o0 k) p (Rel0 c k q p) := by
  have hth := cf.ok.threads
  have hlc := cf.ok.locals
  have ht : 0 < c.threads := by omega
  rcases j.at0 with ⟨h, h1, h2⟩ | ⟨h, h1, h2⟩ | ⟨h, h1, h2, h3, h4⟩ | ⟨h, h1, h2, h3, h4⟩ | ⟨h, h1, h2, h3⟩ | ⟨h, h1, h2, h3⟩ | ⟨h, h1, h2, h3⟩ | ⟨r, h, h1, h2, h3, h4, h5⟩ | ⟨h, h1, h2, h3, h4⟩ | ⟨h, h1, h2, h3, h4, h5, h6, h7, h8⟩ | ⟨h, h1, h2, h3, h4, h5, h6, h7, h8⟩ | ⟨h, h2⟩
  · have hst : q.h.st ≠ -1 := by have := g.st0; omega
    refine st_out h ht cf.ok (j.out h) ⟨⟨j.nx, j.loc, j.lref, j.hw, j.pb, fun h' _ => j.zero h' (.inl (by omega)), j.bz, fun h => absurd h (by show ¬ (1 : Int) = 4; decide), fun h => absurd h (by show ¬ (1 : Int) = 0; decide), fun _ => by show setI q.h.own 0 q.h.st 0 ≠ -1; rw [setI_eq]; exact hst, .look rfl rfl h2⟩, fun k hk => setI_ne hk, rfl, ⟨rfl, rfl⟩, fun h => h, fun h => h, gi_hand g rfl, .inl ⟨rfl, rfl⟩, fun _ hq => ⟨?_, fun _ => rfl, fun _ => .inl rfl⟩⟩
    simp [rank, h, h1]
  · have ho := j.here (.inl h)
    have hnx2 := j.nx
    refine bd_look h h1 h2 j.loc hlc.2 hlc.1 (fun hst hnx => ?_) (fun hst hnx => ?_) (fun sn hst => ?_) (fun v hst h3 => ?_)
    · refine ⟨⟨j.nx, j.loc, j.lref, j.hw, j.pb, fun h' _ => j.zero h' (.inl (by omega)), j.bz, fun h => absurd h (by show ¬ (2 : Int) = 4; decide), fun h => absurd h (by show ¬ (2 : Int) = 0; decide), fun _ => ho, .start rfl hnx h2 rfl⟩, fun _ _ => rfl, rfl, ⟨rfl, rfl⟩, fun h => h, fun h => h, g, .inl ⟨rfl, rfl⟩, fun _ hq => ⟨?_, fun _ => hq.1 (.inl h), fun h => absurd h (by show ¬ (2 : Int) = 1; decide)⟩⟩
      have hc2 : p.x.nx = 0 ∨ p.x.nx = 1 := by omega
      rcases hc2 with e | e <;> simp [rank, Tc.fresh, h, h1, e]
    · have e : p.x.nx = 2 := by omega
      refine ⟨j.bord h h rfl ho rfl rfl rfl (.drain h rfl h2 e), fun _ _ => rfl, rfl, ⟨rfl, rfl⟩, fun h => h, fun h => h, g, .inl ⟨rfl, rfl⟩, fun _ hq => ⟨?_, fun _ => hq.1 (.inl h), fun _ => .inr (.inl rfl)⟩⟩
      simp [rank, h, h1, e]
    · exact ⟨j.bord h h rfl ho rfl rfl rfl (.give h rfl h2 g.st0 g.st4), fun _ _ => rfl, rfl, ⟨rfl, rfl⟩, fun h => h, fun h => h, g, .inl ⟨rfl, rfl⟩, fun _ hq => absurd (hq.1 (.inl h)).symm hst⟩
    · exact ⟨j.bord h h rfl ho rfl rfl rfl (.grey h rfl rfl g.st0 g.st4), fun _ _ => rfl, rfl, ⟨rfl, rfl⟩, fun h => h, fun h => h, g, .inl ⟨rfl, rfl⟩, fun _ hq => absurd (hq.1 (.inl h)).symm hst⟩
  · exact bd_grey h h1 h2 fun v => ⟨j.bord h h rfl (j.here (.inl h)) rfl rfl rfl (.give h rfl rfl h3 h4), fun _ _ => rfl, rfl, ⟨rfl, rfl⟩, fun h => h, fun h => h, g, .inl ⟨rfl, rfl⟩, fun _ hq => by have := hq.2 h; omega⟩
  · refine bd_give cf.ok ht (j.here (.inl h)) h h1 h3 h4 ⟨j.bord h h rfl ?_ rfl rfl rfl (.look h rfl h2), fun k hk => setI_ne hk, rfl, ⟨rfl, rfl⟩, fun h => h, fun h => h, gi_hand g rfl, .inl ⟨rfl, rfl⟩, fun _ hq => by have := hq.2 h; omega⟩
    show setI q.h.own 0 p.x.seen 0 ≠ -1
    rw [setI_eq]; omega
  · refine bd_drain ht h h1 ⟨j.bord h h rfl (j.here (.inl h)) rfl rfl rfl (.leave h rfl h2 h3), fun _ _ => rfl, rfl, ⟨rfl, rfl⟩, fun h => h, fun h => h, g, .inl ⟨rfl, rfl⟩, fun _ hq => ⟨?_, fun _ => hq.1 (.inl h), fun _ => .inr (.inr rfl)⟩⟩
    simp [rank, h, h1]
  · refine bd_leave cf.ok ht (by omega) (j.here (.inl h)) h h1 ⟨⟨j.nx, ⟨fun _ _ => ⟨by show 0 ≤ 17; omega, by show 0 ≤ 17; omega⟩, fun _ _ _ => rfl, fun h => by simp at h⟩, fun h => by simp at h, fun h => by simp [holds] at h, j.pb, fun h' => absurd (show p.x.nx = 0 from h') (by omega), fun h' => absurd (show p.x.nx = 0 from h') (by omega), fun _ => h3, fun h => absurd h (by show ¬ (4 : Int) = 0; decide), fun h => ?_, .gone rfl h2⟩, fun k hk => setI_ne hk, rfl, ⟨rfl, rfl⟩, fun h => h, fun h => h, gi_hand g rfl, .inl ⟨rfl, rfl⟩, fun _ hq => ⟨?_, fun h => ?_, fun h => absurd h (by show ¬ (4 : Int) = 1; decide)⟩⟩
    · have h' : (4 : Int) = 1 ∨ (4 : Int) = 2 := h; omega
    · simp [rank, h, h1]
    · have h' : (4 : Int) = 1 ∨ (4 : Int) = 2 := h; omega
  · have hc2 : p.x.nx = 0 ∨ p.x.nx = 1 := by omega
    rcases hc2 with e | e
    · exact st0_new cf g j h e h2 h3
    · rcases cf.kk with ⟨rfl, hgl⟩ | rfl
      · exact st0_set cf hgl g j h e h2 h3
      · exact st0_kind cf g j h e h2 h3
  · exact st0_make cf g j h h1 h2 h3 h4 h5
  · exact st0_born cf g j h h1 h2 h3 h4
  · exact st0_shade cf g j h h1 h2 h3 h4 h5 h6 h7 h8
  · rcases cf.kk with ⟨_, hgl⟩ | e
    · exact st0_write cf hgl g j h h1 h2 h3 h4 h5 h6 h7 h8
    · omega
  · exact st_gone h ⟨j, fun _ _ => rfl, rfl, ⟨rfl, rfl⟩, fun h => h, fun h => h, g, .inl ⟨rfl, rfl⟩, fun _ hq => ⟨by simp [rank, h], hq⟩⟩
end
end Go.Proofs.YtnkgnhpapcnebaaGreat
/- A step of the machine. -/
namespace Go.Proofs.YtnkgnhpapcnebaaGreat
open Go.RowKit
attribute [local go_sem] run_store_complex via_ret via_normal via_exit via_panic
/-- A tick, as it is handed back. -/
def tkCells (who : Int) (rs : Rs) : Array Value := #[.int .i64 who, .bool rs.d, .int .i64 rs.nx, .int .i64 rs.own, .int .i64 rs.er, .bool rs.r, .complex .f64 rs.z1 rs.z2]
def tkV (who : Int) (rs : Rs) : Value := .agg (tkCells who rs)
def updP (p : Nat → P) (t : Nat) (x : P) : Nat → P := fun k => if k = t then x else p k
section
variable {S : Nat → Prop} {w w' : World} {c : Cf} {A : CA} {q : Q} {yb hb n : Nat} {y : Yc} {K : Thing} {sv : Value} {fa : Nat → TA} {no : Nat → Nat} {sc : Nat → Nat → Opn} {steps : Int} {p : Nat → P}
def HpOf (A : CA) (c : Cf) (q : Q) (yb : Nat) (y : Yc) (K : Thing) (hb : Nat) (sv : Value) (n : Nat) (fa : Nat → TA) (no : Nat → Nat) (sc : Nat → Nat → Opn) (p : Nat → P) : Thing := Ex fun steps : Int => Hp A c q yb y K hb sv n fa no sc steps p
set_option maxRecDepth 100000 in
theorem hp_updP {t : Nat} {x : P} (n : Nat) : All n (updT (fun k => Th (fa k) k c.locals (no k) (sc k) (p k)) t (Th (fa t) t c.locals (no t) (sc t) x)) = Ths c n fa no sc (updP p t x) := by
  unfold Ths
  congr 1
  funext k
  unfold updT updP
  by_cases e : k = t
  · subst e; simp
  · simp [e]
set_option maxRecDepth 100000 in
/-- A step of a thread. -/
theorem ths_step {t : Nat} {R : Rs → Q → P → Prop} (ht : t < n) (hs : StepDoes A c q (fa t) t c.locals (no t) (sc t) (p t) R) (w : World) :
    Does Tryz.prog 16 #[.pointer (some ⟨(fa t).b, 0, none⟩), .pointer (some ⟨A.b, 0, none⟩)] w (Sep (Sep (Core A c q) (Cyc yb y K)) (Ths c n fa no sc p)) (fun (z : Rs × Q × P) e => e = .returned z.1.v ∧ R z.1 z.2.1 z.2.2) (fun z => Sep (Sep (Core A c z.2.1) (Cyc yb y K)) (Ths c n fa no sc (updP p t z.2.2))) := by
  have h1 := Does.lY (B' := Cyc yb y K) (Does.all (T := fun k => Th (fa k) k c.locals (no k) (sc k) (p k)) ht (hs w))
  refine Does.conv h1 (fun _ _ h => h) fun z e he => ⟨z, he, fun S w h => ?_⟩
  rw [hp_updP] at h
  exact h
set_option maxRecDepth 100000 in
theorem Does.lX' {P : Program} {f : FuncId} {args : Array Value} {α : Type} {R : α → Ending → Prop} {A : Thing} {O' : α → Thing} (h : Does P f args w A R O') (B C : Thing) : Does P f args w (Sep (Sep A B) C) R (fun x => Sep (Sep (O' x) B) C) := h.l.l
end
end Go.Proofs.YtnkgnhpapcnebaaGreat
/- The auditor: small parts. -/
namespace Go.Proofs.YtnkgnhpapcnebaaGreat
open Go.RowKit
attribute [local go_sem] run_store_complex via_ret via_normal via_exit via_panic
section
variable {S : Nat → Prop} {w w' : World} {lg n : Nat} {m : Nat → Value} {b : Nat}
set_option maxRecDepth 100000 in
theorem clone_vals (hn : n ≤ 8) (hn1 : 1 ≤ n) (hm : ∀ j, (m j).oneCell' = true) (h : (Vals lg (n * 2) 39 m).at_ S w) :
    Calls Tryz.prog 57 #[.slice (some ⟨lg, 0, none⟩) n n] w fun e w' => ∃ v : Option Addr × Nat × Nat, e = .returned (.slice v.1 v.2.1 v.2.2) ∧ Below w.heap.size w w' := by
  obtain ⟨i0, hi, hz0, hz1, hz2⟩ := info_parts Tryz.info39
  have he := Lib.run_eql_slice_nil (P := Tryz.prog) w 58 39 (some ⟨lg, 0, none⟩) n n 0 0 Tryz.underlying58
  have HC := Lib.hid fun o j hj => (by have := vals_cell (Goes.begin h |>.alloc_ o).is (j := j) hj; exact this : (w.alloc o).cell? ⟨lg, j, none⟩ = some (m j))
  have HM := Lib.hid hm
  clear h hm
  go_enter Tryz.func57, Tryz.ntmps57
  go_wp2_with (at_builtin; refine wpList_app rfl _ _ 58 rfl 39 i0 (.agg #[.bool false, .complex .f64 0 0]) 2 24 Tryz.underlying58 hi hz0 hz1 hz2 rfl (by decide) _ _ _ rfl (World.ownsRow_made w #[] 0 (Nat.zero_le _) (Nat.zero_le _) rfl) ⟨lg, 0, none⟩ n n ((List.range (n * 2)).map m) rfl ?c0 ?c1 ?c2 ?c3 (by decide) ?_)
  case c0 => simp
  case c1 =>
    intro j u hj
    simp only [List.getElem?_map, Option.map_eq_some_iff] at hj
    obtain ⟨k, hk, rfl⟩ := hj
    have hkl : j < n * 2 := by
      rcases Nat.lt_or_ge j (n * 2) with h | h
      · exact h
      · rw [List.getElem?_eq_none (by simpa using h)] at hk; simp at hk
    rw [List.getElem?_range hkl] at hk
    cases hk
    rw [add_none, Nat.zero_add]
    exact HC.out _ j hkl
  case c2 =>
    intro u hu
    obtain ⟨j, _, rfl⟩ := List.mem_map.1 hu
    exact HM.out j
  case c3 => omega
  intro v' w1 hown hg hb
  have G := Lib.hid hg
  have HO := Lib.hid hown
  clear hg hb hown HC HM
  rcases HO.out.2 with ⟨hv, _⟩ | ⟨g', cap', cur, hv, _⟩
  · subst hv
    go_wp2_with fail
    go_ret
    exact ⟨(none, 0, 0), rfl, ((Below.refl _ _).alloc (Nat.le_refl _) _).grown G.out (by simp) (fun k hk => by simp [Value.ownBlock] at hk; omega)⟩
  · subst hv
    go_wp2_with fail
    go_ret
    exact ⟨(some ⟨g', 0, none⟩, _, cap'), rfl, ((Below.refl _ _).alloc (Nat.le_refl _) _).grown G.out (by simp) (fun k hk => by simp [Value.ownBlock] at hk; omega)⟩
set_option maxRecDepth 100000 in
theorem cyc_errno (h : w.cell? ⟨b, 13, none⟩ = some (.int .i64 0)) : Calls Tryz.prog 18 #[.pointer (some ⟨b, 0, none⟩)] w fun e w' => e = .returned (.int .i64 0) ∧ w = w' := by
  go_enter Tryz.func18, Tryz.ntmps18
  go_wp2_with fail
  go_ret
  exact ⟨rfl, rfl⟩
set_option maxRecDepth 100000 in
theorem col_errno (h : w.cell? ⟨b, 13, none⟩ = some (.int .i64 0)) : Calls Tryz.prog 9 #[.agg #[.pointer (some ⟨b, 0, none⟩)]] w fun e w' => e = .returned (.int .i64 0) ∧ Below w.heap.size w w' := by
  have hb := Lib.hid ((Below.refl w.heap.size w).alloc (Nat.le_refl _) (.cells #[.pointer (some ⟨b, 0, none⟩)] 50))
  have h1 : (w.alloc (.cells #[.pointer (some ⟨b, 0, none⟩)] 50)).cell? ⟨b, 13, none⟩ = some (.int .i64 0) := by
    have hlt := World.block_lt_of_cell? _ _ h
    unfold World.cell? at *
    rw [Below.heap_alloc _ _ _ hlt]; exact h
  have HE := Lib.hid (cyc_errno h1)
  clear h1 h
  go_enter Tryz.func9, Tryz.ntmps9
  go_wp2_with fail
  with_reducible refine HE.out.mono ?_
  rintro e w2 ⟨rfl, rfl⟩
  clear HE
  go_wp2_with fail
  go_ret
  exact ⟨rfl, hb.out⟩
set_option maxRecDepth 100000 in
theorem act_phase {x : Int} (h : w.cell? ⟨b, 3, none⟩ = some (.int .i64 x)) : Calls Tryz.prog 19 #[.pointer (some ⟨b, 0, none⟩)] w fun e w' => e = .returned (.int .i64 x) ∧ w = w' := by
  go_enter Tryz.func19, Tryz.ntmps19
  go_wp2_with fail
  go_ret
  exact ⟨rfl, rfl⟩
set_option maxRecDepth 100000 in
theorem act_status {x : Int} (h : w.cell? ⟨b, 4, none⟩ = some (.int .i64 x)) : Calls Tryz.prog 20 #[.pointer (some ⟨b, 0, none⟩)] w fun e w' => e = .returned (.int .i64 x) ∧ w = w' := by
  go_enter Tryz.func20, Tryz.ntmps20
  go_wp2_with fail
  go_ret
  exact ⟨rfl, rfl⟩
set_option maxRecDepth 100000 in
theorem ins_sort_nil (w : World) : Calls Tryz.prog 200 #[.slice none 0 0, .int .i64 0, .int .i64 0] w fun e w' => e = .returned (.tuple #[]) ∧ w = w' := by
  go_enter Tryz.func200, Tryz.ntmps200
  go_wp2_with fail
  go_loop [6, 7] (fun i _ => i = .int .i64 1) (fun _ _ => 0)
  case atStart => exact rfl
  case round =>
    obtain rfl := hrel
    go_wp2_with fail
    first | go_end0 | ((try simp only [Exit.inBlock, Exit.then]); refine bodyPost_ret (results_none rfl _ _ _) rfl ?_)
    exact ⟨rfl, rfl⟩
set_option maxRecDepth 100000 in
theorem pdq_nil (k : Int) (w : World) : Calls Tryz.prog 128 #[.slice none 0 0, .int .i64 0, .int .i64 0, .int .i64 k] w fun e w' => e = .returned (.tuple #[]) ∧ w = w' := by
  go_enter Tryz.func128, Tryz.ntmps128
  go_wp2_with fail
  go_loop [1, 2, 3, 8, 9, 10, 11, 12, 13, 14, 15, 16, 17, 18] (fun a b _ _ _ _ _ _ _ _ _ _ _ _ => a = .int .i64 0 ∧ b = .int .i64 0) (fun _ _ _ _ _ _ _ _ _ _ _ _ _ _ => 0)
  case atStart => exact ⟨rfl, rfl⟩
  case round =>
    obtain ⟨rfl, rfl⟩ := hrel
    go_wp2_with fail
    with_reducible refine (ins_sort_nil _).mono ?_
    rintro e w2 ⟨rfl, rfl⟩
    go_wp2_with fail
    first | go_end0 | ((try simp only [Exit.inBlock, Exit.then]); refine bodyPost_ret (results_none rfl _ _ _) rfl ?_)
    exact ⟨rfl, rfl⟩
set_option maxRecDepth 100000 in
theorem bits_len64_0 (w : World) : Calls Tryz.prog 210 #[.int .u64 0] w fun e w' => ∃ k : Int, e = .returned (.int .i64 k) ∧ w = w' := by
  go_enter Tryz.func210, Tryz.ntmps210
  go_wp2_with fail
  go_ret
  exact ⟨_, rfl, rfl⟩
set_option maxRecDepth 100000 in
theorem bits_len_0 (w : World) : Calls Tryz.prog 129 #[.int .u64 0] w fun e w' => ∃ k : Int, e = .returned (.int .i64 k) ∧ w = w' := by
  go_enter Tryz.func129, Tryz.ntmps129
  go_wp2_with fail
  with_reducible refine (bits_len64_0 _).mono ?_
  rintro e w2 ⟨k, rfl, rfl⟩
  go_wp2_with fail
  go_ret
  exact ⟨_, rfl, rfl⟩
set_option maxRecDepth 100000 in
theorem sort_nil (w : World) : Calls Tryz.prog 61 #[.slice none 0 0] w fun e w' => e = .returned (.tuple #[]) ∧ w = w' := by
  go_enter Tryz.func61, Tryz.ntmps61
  go_wp2_with fail
  with_reducible refine (bits_len_0 _).mono ?_
  rintro e w2 ⟨k, rfl, rfl⟩
  go_wp2_with fail
  with_reducible refine (pdq_nil k _).mono ?_
  rintro e w2 ⟨rfl, rfl⟩
  go_wp2_with fail
  first | go_end0 | ((try simp only [Exit.inBlock, Exit.then]); refine bodyPost_ret (results_none rfl _ _ _) rfl ?_)
  exact ⟨rfl, rfl⟩
set_option maxRecDepth 100000 in
theorem cnt_all {f : Nat → One} : ∀ n, (∀ k, k < n → (f k).st ≤ 2) → cnt f 0 n + cnt f 1 n + cnt f 2 n = n
  | 0, _ => rfl
  | n + 1, h => by
    have := cnt_all n (fun k hk => h k (by omega))
    have h2 := h n (by omega)
    simp only [cnt]
    match hst : (f n).st, h2 with
    | 0, _ => simp; omega
    | 1, _ => simp; omega
    | 2, _ => simp; omega
end
end Go.Proofs.YtnkgnhpapcnebaaGreat
/- The auditor: what the machine tells. -/
namespace Go.Proofs.YtnkgnhpapcnebaaGreat
open Go.RowKit
attribute [local go_sem] run_store_complex via_ret via_normal via_exit via_panic
section
variable {S : Nat → Prop} {w w' : World} {T : Nat → Thing}
set_option maxRecDepth 100000 in
theorem all_get : ∀ {n : Nat} {S : Nat → Prop}, (All n T).at_ S w → ∀ t, t < n → ∃ S', (T t).at_ S' w ∧ ∀ k, S' k → S k
  | 0, _, _, t, ht => absurd ht (Nat.not_lt_zero t)
  | n + 1, S, h, t, ht => by
    by_cases e : t = n
    · subst e; exact sepAt.r h
    · obtain ⟨S1, h1, h2⟩ := sepAt.l h
      obtain ⟨S2, h3, h4⟩ := all_get h1 t (by omega)
      exact ⟨S2, h3, fun k hk => h2 k (h4 k hk)⟩
set_option maxRecDepth 100000 in
theorem Goes.get {n t : Nat} (h : Goes (All n T) S w w') (ht : t < n) : Goes (T t) S w w' := by
  obtain ⟨⟨S', h1, h2⟩, h3⟩ := h
  obtain ⟨S2, h4, h5⟩ := all_get h1 t ht
  exact ⟨⟨S2, h4, fun k hk => h2 k (h5 k hk)⟩, h3⟩
set_option maxRecDepth 100000 in
theorem locM_one (l : Nat → Lc) (j : Nat) : (locM l j).oneCell' = true := by unfold locM cx; split <;> rfl
end
section
variable {S : Nat → Prop} {w w' : World} {c : Cf} {A : CA} {q : Q} {yb hb n : Nat} {y : Yc} {Kt : Thing} {sv : Value} {fa : Nat → TA} {no : Nat → Nat} {sc : Nat → Nat → Opn} {steps : Int} {p : Nat → P}
set_option maxRecDepth 100000 in
theorem hp_errno (h : (Hp A c q yb y Kt hb sv n fa no sc steps p).at_ S w) : Calls Tryz.prog 9 #[.agg #[.pointer (some ⟨yb, 0, none⟩)]] w fun e w' => e = .returned (.int .i64 0) ∧ Goes (Hp A c q yb y Kt hb sv n fa no sc steps p) S w w' :=
  (Goes.begin h).plain (col_errno ((Goes.begin h).r.l.r.c 13 (v := .int .i64 0) rfl))
set_option maxRecDepth 100000 in
theorem act_locals {b lg n : Nat} {m : Nat → Value} (hn : n ≤ 8) (hn1 : 1 ≤ n) (hm : ∀ j, (m j).oneCell' = true) (hc : w.cell? ⟨b, 2, none⟩ = some (.slice (some ⟨lg, 0, none⟩) n n)) (h : (Vals lg (n * 2) 39 m).at_ S w) :
    Calls Tryz.prog 21 #[.pointer (some ⟨b, 0, none⟩)] w fun e w' => ∃ v : Option Addr × Nat × Nat, e = .returned (.slice v.1 v.2.1 v.2.2) ∧ Below w.heap.size w w' := by
  have HL := Lib.hid (clone_vals hn hn1 hm h)
  clear h hm
  go_enter Tryz.func21, Tryz.ntmps21
  go_wp2_with fail
  with_reducible refine HL.out.mono ?_
  rintro e w2 ⟨v, rfl, hb⟩
  have HB := Lib.hid hb
  clear HL hb
  go_wp2_with fail
  go_ret
  exact ⟨v, rfl, HB.out⟩
set_option maxRecDepth 100000 in
theorem hp_thread {t : Nat} (hn : n ≤ 16) (ht : t < n) (hlc : 1 ≤ c.locals ∧ c.locals ≤ 8) (h : (Hp A c q yb y Kt hb sv n fa no sc steps p).at_ S w) :
    Calls Tryz.prog 10 #[.pointer (some ⟨hb, 0, none⟩), .int .i64 (t : Int)] w fun e w' => ∃ v : Option Addr × Nat × Nat, e = .returned (.tuple #[.int .i64 (p t).x.ph, .int .i64 (p t).x.st, .slice v.1 v.2.1 v.2.2]) ∧ Goes (Hp A c q yb y Kt hb sv n fa no sc steps p) S w w' := by
  have g0 := Goes.begin h
  obtain ⟨sg, so, scap, hsv, _, _⟩ := seq_form g0.l.r.is
  have c2 := g0.l.l.vc 2 (v := sv) rfl
  rw [hsv] at c2
  have hq : (tptrs fa n)[t]? = some (.pointer (some ⟨(fa t).b, 0, none⟩)) := by unfold tptrs ptrs; simp [ht]
  have ce : w.cell? ⟨sg, so + t, none⟩ = some (.pointer (some ⟨(fa t).b, 0, none⟩)) := by
    have := g0.l.r
    rw [hsv] at this
    exact this.seq hq
  have gt : Goes (Th (fa t) t c.locals (no t) (sc t) (p t)) S w w := g0.r.r.get ht
  have t3 : w.cell? ⟨(fa t).b, 3, none⟩ = some (.int .i64 (p t).x.ph) := gt.c 3 rfl
  have t4 : w.cell? ⟨(fa t).b, 4, none⟩ = some (.int .i64 (p t).x.st) := gt.c 4 rfl
  have t2 : w.cell? ⟨(fa t).b, 2, none⟩ = some (.slice (some ⟨(fa t).lg, 0, none⟩) c.locals c.locals) := gt.c 2 rfl
  have HL := Lib.hid (act_locals hlc.2 hlc.1 (locM_one (p t).l) t2 gt.r.l.is)
  have HP := Lib.hid (act_phase t3)
  have HS := Lib.hid (act_status t4)
  have HG := Lib.hid g0
  have hlt : (t : Int) < (n : Int) := by omega
  have h0 : decide ((t : Int) < 0) = false := by simp
  have h1 : decide ((t : Int) ≥ (n : Int)) = false := by simp; omega
  clear h g0 hsv gt hq t3 t4 t2
  go_enter Tryz.func10, Tryz.ntmps10
  go_wp2_with fail
  with_reducible refine HP.out.mono ?_
  rintro e w2 ⟨rfl, rfl⟩
  clear HP
  go_wp2_with fail
  with_reducible refine HS.out.mono ?_
  rintro e w2 ⟨rfl, rfl⟩
  clear HS
  go_wp2_with fail
  with_reducible refine HL.out.mono ?_
  rintro e w2 ⟨v, rfl, hb⟩
  have HF := Lib.hid (HG.out.below_ hb)
  clear HL hb HG c2 ce h0 h1
  go_wp2_with fail
  (try rw [via_ret])
  exact bodyPost_ret (v := .tuple #[.int .i64 (p t).x.ph, .int .i64 (p t).x.st, .slice v.1 v.2.1 v.2.2]) (by simp [results, Tryz.results10, go_sem]) rfl ⟨v, rfl, HF.out⟩
set_option maxRecDepth 100000 in
theorem shi_counts {b bt n m F : Nat} {bn : Bool} (h : (ShI b bt n m F bn).at_ S w) : w.cell? ⟨b, 0, none⟩ = some (.pointer (some ⟨bt, 0, none⟩)) ∧ ∃ x y z : Int, x + y + z = n ∧ 0 ≤ x ∧ 0 ≤ y ∧ 0 ≤ z ∧ Calls Tryz.prog 58 #[.pointer (some ⟨bt, 0, none⟩)] w fun e w' => e = .returned (.tuple #[.int .i64 x, .int .i64 y, .int .i64 z]) ∧ Below w.heap.size w w' := by
  obtain ⟨x, _, hs⟩ := h
  have g := Goes.begin hs
  refine ⟨g.c 0 rfl, ?_⟩
  obtain ⟨g', cs, a1, a2, a3, a4, a5, a6, a7, a8, a9⟩ := g.r.l.is
  exact ⟨_, _, _, cnt_all n a7, (cnt_bd _ _ _).1, (cnt_bd _ _ _).1, (cnt_bd _ _ _).1, tint_counts ⟨g', cs, a1, a2, a3, a4, a5, a6, a7, a8, a9⟩⟩
set_option maxRecDepth 100000 in
theorem hp_counts (hc : c.ok) (h : (Hp A c q yb y Kt hb sv n fa no sc steps p).at_ S w) :
    Calls Tryz.prog 22 #[.pointer (some ⟨hb, 0, none⟩)] w fun e w' => ∃ v : Int × Int × Int, (e = .returned (.tuple #[.int .i64 v.1, .int .i64 v.2.1, .int .i64 v.2.2]) ∧ v.1 + v.2.1 + v.2.2 = c.frags ∧ 0 ≤ v.1 ∧ 0 ≤ v.2.1 ∧ 0 ≤ v.2.2) ∧ Goes (Hp A c q yb y Kt hb sv n fa no sc steps p) S w w' := by
  have g0 := Goes.begin h
  have c0 := g0.l.l.vc 0 (v := .pointer (some ⟨A.b, 0, none⟩)) rfl
  have c10 := g0.r.l.l.c 10 (v := .pointer (some ⟨A.bs, 0, none⟩)) rfl
  have s0 := (shi_counts g0.r.l.l.r.r.r.l.is).1
  have HT := Lib.hid (g0.plain (shade_table A.bt w))
  clear h g0 hc
  go_enter Tryz.func22, Tryz.ntmps22
  go_wp2_with fail
  with_reducible refine HT.out.mono ?_
  rintro e w2 ⟨rfl, hg⟩
  obtain ⟨_, v1, v2, v3, hsum, h1, h2, h3, hcall⟩ := shi_counts hg.r.l.l.r.r.r.l.is
  have HC := Lib.hid (hg.plain hcall)
  have HS := Lib.hid (And.intro hsum (And.intro h1 (And.intro h2 h3)))
  clear HT hg hcall hsum h1 h2 h3 c0 c10 s0
  go_wp2_with fail
  with_reducible refine HC.out.mono ?_
  rintro e w3 ⟨rfl, hg⟩
  have HG := Lib.hid hg
  clear HC hg
  go_wp2_with fail
  (try rw [via_ret])
  exact bodyPost_ret (v := .tuple #[.int .i64 v1, .int .i64 v2, .int .i64 v3]) (by simp [results, Tryz.results22, go_sem]) rfl ⟨(v1, v2, v3), ⟨rfl, HS.out⟩, HG.out⟩
set_option maxRecDepth 100000 in
theorem hp_conf (hc : c.ok) (h : (Hp A c q yb y Kt hb sv n fa no sc steps p).at_ S w) :
    Calls Tryz.prog 23 #[.pointer (some ⟨hb, 0, none⟩)] w fun e w' => ∃ v : Nat × Nat, e = .returned (cfV c v.1 v.2) ∧ Goes (Sep (Hp A c q yb y Kt hb sv n fa no sc steps p) (Conf c v.1 v.2)) S w w' := by
  have g0 := (Goes.begin h).moreSt (St.fresh zeroConf 36)
  obtain ⟨rb, hrb⟩ : ∃ k, w.heap.size = k := ⟨_, rfl⟩
  rw [hrb] at g0
  have c0 := g0.l.l.l.vc 0 (v := .pointer (some ⟨A.b, 0, none⟩)) rfl
  obtain ⟨k0, k1, k2, k3, k4, k5, k6, k7, k8⟩ := core9 g0.l.r.l.l
  have HC := Lib.hid (conf_copy hc (core_confIs g0.l.r.l.l.is).choose_spec)
  simp only [zeroConf] at g0 HC
  unfold cfV at HC
  clear h hc
  go_enter Tryz.func23, Tryz.ntmps23
  simp only [zeroConf] at *
  go_upto_region 1 with fail
  generalize w.alloc _ = w1 at *
  go_wp2_with fail
  with_reducible refine HC.out.mono ?_
  rintro e w2 ⟨g', cap', rfl, hs⟩
  have g1 := g0.moreSt hs
  clear HC g0 hs c0 k0 k1 k2 k3 k4 k5 k6 k7 k8
  unfold cfV
  have r0 := g1.l.r.vc 0 (v := .int .i64 0) rfl
  have f0 := g1.l.r.vf 0
  have r1 := g1.l.r.vc 1 (v := .int .i64 0) rfl
  have f1 := g1.l.r.vf 1
  have r2 := g1.l.r.vc 2 (v := .int .i64 0) rfl
  have f2 := g1.l.r.vf 2
  have r3 := g1.l.r.vc 3 (v := .int .i64 0) rfl
  have f3 := g1.l.r.vf 3
  have r4 := g1.l.r.vc 4 (v := .int .i64 0) rfl
  have f4 := g1.l.r.vf 4
  have r5 := g1.l.r.vc 5 (v := .int .i64 0) rfl
  have f5 := g1.l.r.vf 5
  have r6 := g1.l.r.vc 6 (v := .int .i64 0) rfl
  have f6 := g1.l.r.vf 6
  have r7 := g1.l.r.vc 7 (v := .int .i64 0) rfl
  have f7 := g1.l.r.vf 7
  have r8 := g1.l.r.vc 8 (v := .slice none 0 0) rfl
  have f8 := g1.l.r.vf 8
  have g2 := g1.then fun S h => goesL (fun S h => goesR (fun S h => (((((((((Goes.begin h).vput 0 (.int .i64 c.frags) (cs' := #[.int .i64 c.frags, .int .i64 0, .int .i64 0, .int .i64 0, .int .i64 0, .int .i64 0, .int .i64 0, .int .i64 0, .slice none 0 0]) rfl).vput 1 (.int .i64 c.spine) (cs' := #[.int .i64 c.frags, .int .i64 c.spine, .int .i64 0, .int .i64 0, .int .i64 0, .int .i64 0, .int .i64 0, .int .i64 0, .slice none 0 0]) rfl).vput 2 (.int .i64 c.globals) (cs' := #[.int .i64 c.frags, .int .i64 c.spine, .int .i64 c.globals, .int .i64 0, .int .i64 0, .int .i64 0, .int .i64 0, .int .i64 0, .slice none 0 0]) rfl).vput 3 (.int .i64 c.threads) (cs' := #[.int .i64 c.frags, .int .i64 c.spine, .int .i64 c.globals, .int .i64 c.threads, .int .i64 0, .int .i64 0, .int .i64 0, .int .i64 0, .slice none 0 0]) rfl).vput 4 (.int .i64 c.locals) (cs' := #[.int .i64 c.frags, .int .i64 c.spine, .int .i64 c.globals, .int .i64 c.threads, .int .i64 c.locals, .int .i64 0, .int .i64 0, .int .i64 0, .slice none 0 0]) rfl).vput 5 (.int .i64 0) (cs' := #[.int .i64 c.frags, .int .i64 c.spine, .int .i64 c.globals, .int .i64 c.threads, .int .i64 c.locals, .int .i64 0, .int .i64 0, .int .i64 0, .slice none 0 0]) rfl).vput 6 (.int .i64 c.stack) (cs' := #[.int .i64 c.frags, .int .i64 c.spine, .int .i64 c.globals, .int .i64 c.threads, .int .i64 c.locals, .int .i64 0, .int .i64 c.stack, .int .i64 0, .slice none 0 0]) rfl).vput 7 (.int .i64 c.low) (cs' := #[.int .i64 c.frags, .int .i64 c.spine, .int .i64 c.globals, .int .i64 c.threads, .int .i64 c.locals, .int .i64 0, .int .i64 c.stack, .int .i64 c.low, .slice none 0 0]) rfl).vput 8 ((.slice (some ⟨g', 0, none⟩) c.shapes.length cap')) (cs' := #[.int .i64 c.frags, .int .i64 c.spine, .int .i64 c.globals, .int .i64 c.threads, .int .i64 c.locals, .int .i64 0, .int .i64 c.stack, .int .i64 c.low, (.slice (some ⟨g', 0, none⟩) c.shapes.length cap')]) rfl) S h) S h
  have k0 := g2.l.r.vc 0 (v := .int .i64 c.frags) rfl
  have k1 := g2.l.r.vc 1 (v := .int .i64 c.spine) rfl
  have k2 := g2.l.r.vc 2 (v := .int .i64 c.globals) rfl
  have k3 := g2.l.r.vc 3 (v := .int .i64 c.threads) rfl
  have k4 := g2.l.r.vc 4 (v := .int .i64 c.locals) rfl
  have k5 := g2.l.r.vc 5 (v := .int .i64 0) rfl
  have k6 := g2.l.r.vc 6 (v := .int .i64 c.stack) rfl
  have k7 := g2.l.r.vc 7 (v := .int .i64 c.low) rfl
  have k8 := g2.l.r.vc 8 (v := (.slice (some ⟨g', 0, none⟩) c.shapes.length cap')) rfl
  have HF := Lib.hid (g2.conv fun S w h => sepAt.rot h).l
  clear g1 g2
  go_wp2_with fail
  (try rw [via_ret])
  exact bodyPost_ret (v := .agg #[.int .i64 c.frags, .int .i64 c.spine, .int .i64 c.globals, .int .i64 c.threads, .int .i64 c.locals, .int .i64 0, .int .i64 c.stack, .int .i64 c.low, (.slice (some ⟨g', 0, none⟩) c.shapes.length cap')]) (by simp [results, Tryz.results23, go_sem, k0, k1, k2, k3, k4, k5, k6, k7, k8]) rfl ⟨(g', cap'), rfl, HF.out⟩
end
end Go.Proofs.YtnkgnhpapcnebaaGreat
