/- The contracts of the reference's stack (sporef13.Shade). -/
import Derived.Test.YtcdmlimhkmbiiaaPile
import Derived.Test.YtcdmlimhkmbiiaaSep
import Derived.Test.YtcdmlimhkmbiiaaTintFlipsW
import Derived.Outline
import Derived.StillTailTactics
import Derived.OwnWalk
import Derived.IntWalk
namespace Go.Proofs.Ytcdmlimhkmbiiaa
open Go.RowKit

theorem wpList_appends {P : Program} {w : World} {ops : Array Oper} {rest : List Oper} {o : Oper} {a : Act} {Q : Exit → Act → World → Prop} (hgd : o.guard = none) (s x : Operand) (t : TypeId)
    (ho : o.op = .call { callee := .builtin .append, args := #[s, x], argTypes := #[t, t] })
    (e : TypeId) (i : TypeInfo) (z : Value) (bytes : Nat) (ht : P.underlying t = some (.slice e)) (hi : P.info? e = some i) (hz : i.zero = some z)
    (hsize : i.size = 1) (hby : i.bytes = bytes) (hzs : z.cells.size = 1)
    (v : Value) (n : Nat) (xs : List Value) (hs : a.eval s = v) (hown : w.ownsRow 0 e 1 v n xs)
    (ad : Addr) (m c : Nat) (news : List Value) (hx : a.eval x = .slice (some ad) m c) (hl : news.length = m) (hnews : ∀ j u, news[j]? = some u → w.cell? (ad.add j) = some u) (h1 : ∀ u ∈ news, u.oneCell' = true)
    (hn : n + m ≤ 1000000) (hbb : bytes ≤ 64)
    (h : ∀ v' w', w'.ownsRow 0 e 1 v' (n + m) (xs ++ news) → w.grownBy w' v.ownBlock → (v'.ownBlock = v.ownBlock ∨ v'.ownBlock = some w.heap.size) → wpList P ops Q rest (a.put o.dst v') w') : wpList P ops Q (o :: rest) a w := by
  refine wpList_plain hgd fun K hK => ?_
  obtain ⟨v', w', hr, h2, h3, h4⟩ := run_append_mine (P := P) w 0 t o.type e i z 1 bytes ht hi hz hsize hby hzs (by omega) v n xs hown ad m c news (by omega) hnews h1 (by unfold maxLen; omega)
    (by have : (n + m) * bytes ≤ 1000000 * 64 := Nat.mul_le_mul hn hbb; omega) (Nat.zero_le _)
  unfold Oper.wp execOp
  simp only [ho, resolve, invoke, builtin, Sem.run_bind, Sem.run_pure, Result.andThen_ok, List.map_toArray, List.map_cons, List.map_nil, hs, hx, hr]
  exact hK _ _ (h v' w' h2 h3 h4)

set_option maxHeartbeats 400000 in
theorem copyInts (ad : Addr) (cap : Nat) (xs : List Int) (w : World) (hc : ∀ j u, (xs.map (Value.int .i64))[j]? = some u → w.cell? (ad.add j) = some u) (hsm : xs.length ≤ 1000000) :
    Calls Try.prog 60 #[.slice (some ad) xs.length cap] w fun e w' => ∃ v', e = .returned v' ∧ w'.ownsRow 0 3 1 v' xs.length (xs.map (Value.int .i64)) ∧ Below w.heap.size w w' ∧ ∀ k, v'.ownBlock = some k → w.heap.size ≤ k := by
  obtain ⟨i0, hi, hz0, hz1, hz2⟩ := info_parts Try.info3
  go_enter Try.func60, Try.ntmps60
  go_wp2_with (at_builtin; refine wpList_appends rfl _ _ 22 rfl 3 i0 (.int .i64 0) 8 Try.underlying22 hi hz0 hz1 hz2 rfl _ _ _ rfl (World.ownsRow_made w #[] 0 (Nat.zero_le _) (Nat.zero_le _) rfl) ad xs.length cap (xs.map (Value.int .i64)) rfl ?c0 ?c1 ?c2 ?c3 (by decide) ?_)
  case c0 => simp
  case c1 =>
    intro j u hj
    have := hc j u hj
    rw [World.cell?_alloc_lt _ _ _ (World.block_lt_of_cell? _ _ this)]; exact this
  case c2 => intro u hu; simp at hu; obtain ⟨x, _, rfl⟩ := hu; rfl
  case c3 => omega
  intro v' w1 hown hg hb
  have G := Lib.hid hg
  have B := Lib.hid hb
  have HO := Lib.hid hown
  clear hc hg hb hown
  go_wp2
  go_ret
  refine ⟨v', rfl, by have := HO.out; simpa using this, ((Below.refl _ _).alloc (Nat.le_refl _) _).grown G.out (by simp) (fun k hk => by simp [Value.ownBlock] at hk; omega), fun k hk => ?_⟩
  rcases B.out with e | e
  · rw [e] at hk; simp [Value.ownBlock] at hk; omega
  · rw [e] at hk; simp at hk; omega

def rpileAt (b : Nat) (tv : Value) (xs : List Int) (m : Int) (lost : Bool) (ct : Int) (S : Nat → Prop) (w : World) : Prop :=
  ∃ v, Blk w b #[tv, .int .i64 m, v, .bool lost, .int .i64 ct] 41 ∧ w.ownsRow 0 3 1 v xs.length (xs.map (Value.int .i64)) ∧ S b ∧ (∀ k, v.ownBlock = some k → S k ∧ k ≠ b) ∧ ∀ k, S k → k < w.heap.size
/-- The reference's shades, but for the table: the stack, what was lost, the count. -/
def RPile (b : Nat) (tv : Value) (xs : List Int) (m : Int) (lost : Bool) (ct : Int) : Thing where
  at_ := rpileAt b tv xs m lost ct
  lt := fun ⟨_, _, _, _, _, h⟩ => h
  kept := fun ⟨v, h1, h2, h3, h4, h5⟩ hk hs =>
    ⟨v, by unfold Blk at *; rw [hk b h3]; exact h1, ownsRow_same h2 (fun k hv => hk k (h4 k hv).1), h3, h4, fun k hS => Nat.lt_of_lt_of_le (h5 k hS) hs⟩

section
variable {b : Nat} {tv : Value} {xs : List Int} {m : Int} {lost : Bool} {ct : Int} {S : Nat → Prop} {w : World}
/-- One cell that is no row is written. -/
theorem rpile_cell {m' : Int} {lost' : Bool} {ct' : Int} {v : Value} (h1 : Blk w b #[tv, .int .i64 m, v, .bool lost, .int .i64 ct] 41) (h2 : w.ownsRow 0 3 1 v xs.length (xs.map (Value.int .i64))) (h3 : S b) (h4 : ∀ k, v.ownBlock = some k → S k ∧ k ≠ b) (h5 : ∀ k, S k → k < w.heap.size)
    (n i : Nat) (u : Value) (hu : (#[tv, .int .i64 m, v, .bool lost, .int .i64 ct] : Array Value).setIfInBounds i u = #[tv, .int .i64 m', v, .bool lost', .int .i64 ct']) : Goes (RPile b tv xs m' lost' ct') S w ((w.drewN n).setCell ⟨b, i, none⟩ u) := by
  refine ⟨⟨S, ⟨v, ?_, ownsRow_setCell_other (ownsRow_same h2 (fun k hk => rfl)) (fun e => (h4 b (by simpa using e)).2 rfl) _, h3, h4, fun k hk => by simpa using h5 k hk⟩, fun k hk => .inl hk⟩, ((Turned.refl S w).drewN n).setCell (.inl h3) _⟩
  rw [← hu]; exact Blk.set (w := w.drewN n) h1 i u

set_option maxHeartbeats 400000 in
theorem rpile_lost (h : (RPile b tv xs m lost ct).at_ S w) : Calls Try.prog 27 #[.pointer (some ⟨b, 0, none⟩)] w fun e w' => e = .returned (.bool lost) ∧ w = w' := by
  obtain ⟨v, h, _⟩ := h
  have h2 : w.cell? ⟨b, 3, none⟩ = some (.bool lost) := by rw [h.cell]; rfl
  clear h
  go_enter Try.func27, Try.ntmps27
  go_wp2
  go_ret
  exact ⟨rfl, rfl⟩
set_option maxHeartbeats 400000 in
theorem rpile_found_walk {v : Value} (h : Blk w b #[tv, .int .i64 m, v, .bool lost, .int .i64 ct] 41) : Calls Try.prog 26 #[.pointer (some ⟨b, 0, none⟩)] w fun e w' => e = .returned (.tuple #[]) ∧ w' = w.setCell ⟨b, 3, none⟩ (.bool false) := by
  have h2 : w.cell? ⟨b, 3, none⟩ = some (.bool lost) := by rw [h.cell]; rfl
  have h3 : w.frozen? ⟨b, 3, none⟩ = false := h.free 3
  clear h
  go_enter Try.func26, Try.ntmps26
  go_wp2
  go_end0
  exact ⟨rfl, rfl⟩
theorem rpile_found (h : (RPile b tv xs m lost ct).at_ S w) : Calls Try.prog 26 #[.pointer (some ⟨b, 0, none⟩)] w fun e w' => e = .returned (.tuple #[]) ∧ Goes (RPile b tv xs m false ct) S w w' := by
  obtain ⟨v, h1, h2, h3, h4, h5⟩ := h
  refine (rpile_found_walk h1).mono fun e w' ⟨he, hw⟩ => ⟨he, ?_⟩
  subst hw
  exact rpile_cell h1 h2 h3 h4 h5 0 3 (.bool false) rfl

set_option maxHeartbeats 400000 in
theorem rpile_push_full_walk {i : Int} {v : Value} (h : Blk w b #[tv, .int .i64 m, v, .bool lost, .int .i64 ct] 41) (hv : ∃ a cap, v = .slice a xs.length cap) (hm : (xs.length : Int) = m) :
    Calls Try.prog 23 #[.pointer (some ⟨b, 0, none⟩), .int .i64 i] w fun e w' => e = .returned (.bool false) ∧ ∃ n, w' = (w.drewN n).setCell ⟨b, 3, none⟩ (.bool true) := by
  obtain ⟨a, cap, rfl⟩ := hv
  have h0 : w.cell? ⟨b, 2, none⟩ = some (.slice a xs.length cap) := by rw [h.cell]; rfl
  have h1 : w.cell? ⟨b, 1, none⟩ = some (.int .i64 m) := by rw [h.cell]; rfl
  have h2 : w.cell? ⟨b, 3, none⟩ = some (.bool lost) := by rw [h.cell]; rfl
  have h3 : w.frozen? ⟨b, 3, none⟩ = false := h.free 3
  subst hm
  clear h
  go_enter Try.func23, Try.ntmps23
  go_wp2
  go_quiet (fail)
  go_wp2
  go_ret
  exact ⟨rfl, _, rfl⟩
theorem rpile_push_eq (i : Int) (h : (RPile b tv xs m lost ct).at_ S w) (hm : (xs.length : Int) = m) :
    Calls Try.prog 23 #[.pointer (some ⟨b, 0, none⟩), .int .i64 i] w fun e w' => e = .returned (.bool false) ∧ Goes (RPile b tv xs m true ct) S w w' := by
  obtain ⟨v, h1, h2, h3, h4, h5⟩ := h
  obtain ⟨a, cap, hv, _⟩ := slice_of_owns h2
  refine (rpile_push_full_walk h1 ⟨a, cap, hv⟩ hm).mono fun e w' ⟨he, n, hw⟩ => ⟨he, ?_⟩
  subst hw
  exact rpile_cell h1 h2 h3 h4 h5 n 3 (.bool true) rfl

set_option maxHeartbeats 400000 in
theorem rpile_push_room_walk {i : Int} {v : Value} (h : Blk w b #[tv, .int .i64 m, v, .bool lost, .int .i64 ct] 41) (hown : w.ownsRow 0 3 1 v xs.length (xs.map (Value.int .i64)))
    (hne : ∀ k, v.ownBlock = some k → k ≠ b) (hlen : (xs.length : Int) < m) (hsm : xs.length ≤ 1000000) :
    Calls Try.prog 23 #[.pointer (some ⟨b, 0, none⟩), .int .i64 i] w fun e w' => e = .returned (.bool true) ∧
      ∃ v' w1 n, w1.ownsRow 0 3 1 v' (xs.length + 1) (xs.map (Value.int .i64) ++ [.int .i64 i]) ∧ ((w.drewN n).alloc (.cells #[.int .i64 i] 3)).grownBy w1 v.ownBlock ∧
        (v'.ownBlock = v.ownBlock ∨ v'.ownBlock = some (w.heap.size + 1)) ∧ w' = w1.setCell ⟨b, 2, none⟩ v' := by
  obtain ⟨a, cap, hv, _, _⟩ := slice_of_owns hown
  have h0 : w.cell? ⟨b, 2, none⟩ = some v := by rw [h.cell]; rfl
  have h1 : w.cell? ⟨b, 1, none⟩ = some (.int .i64 m) := by rw [h.cell]; rfl
  obtain ⟨i0, hi, hz0, hz1, hz2⟩ := info_parts Try.info3
  have hlt := h.lt
  subst hv
  go_enter Try.func23, Try.ntmps23
  go_wp2
  go_quiet (fail)
  go_wp2_with (at_builtin; refine wpList_push rfl _ _ 22 rfl 3 i0 (.int .i64 0) 8 Try.underlying22 hi hz0 hz1 hz2 rfl _ _ _ rfl ((ownsRow_same hown (fun k hk => rfl)).alloc _) ⟨w.heap.size, 0, none⟩ (.int .i64 i) rfl ?c1 rfl hsm (by decide) ?_)
  case c1 => exact World.cell?_alloc_new _ _ _ 0
  intro v' w1 hown' hgrow hblk
  obtain ⟨a', cap', rfl, _⟩ := slice_of_owns hown'
  have hb : Blk w1 b #[tv, .int .i64 m, .slice a xs.length cap, .bool lost, .int .i64 ct] 41 := by
    have h9 := (Blk.alloc (w := w.drewN nq) h (.cells #[.int .i64 i] 3))
    unfold Blk at *
    rw [hgrow.block b (by simp; omega) (fun e => hne b e.symm rfl)]; exact h9
  have g0 : w1.cell? ⟨b, 2, none⟩ = some (.slice a xs.length cap) := by rw [hb.cell]; rfl
  have g3 : w1.frozen? ⟨b, 2, none⟩ = false := hb.free 2
  clear h hown h0 hb
  have G : Hid _ := hgrow
  have G2 : Hid (_ ∨ _) := hblk
  clear hgrow hblk
  go_wp2
  go_ret
  exact ⟨rfl, _, w1, nq, hown', G.out, by simpa using G2.out, rfl⟩

theorem rpile_push_lt (i : Int) (h : (RPile b tv xs m lost ct).at_ S w) (hm : (xs.length : Int) < m) (hm2 : m ≤ 256) :
    Calls Try.prog 23 #[.pointer (some ⟨b, 0, none⟩), .int .i64 i] w fun e w' => e = .returned (.bool true) ∧ Goes (RPile b tv (xs ++ [i]) m lost ct) S w w' := by
  obtain ⟨v, h1, h2, h3, h4, h5⟩ := h
  refine (rpile_push_room_walk h1 h2 (fun k hk => (h4 k hk).2) hm (by omega)).mono fun e w' ⟨he, v', w1, n, ho, hg, hbk, hw⟩ => ?_
  subst hw
  have hb1 : Blk w1 b #[tv, .int .i64 m, v, .bool lost, .int .i64 ct] 41 := by
    have h9 := (Blk.alloc (w := w.drewN n) h1 (.cells #[.int .i64 i] 3))
    have := h1.lt
    unfold Blk at *
    rw [hg.block b (by simp; omega) (fun e => (h4 b e.symm).2 rfl)]; exact h9
  have hv' : ∀ k, v'.ownBlock = some k → k ≠ b ∧ (v.ownBlock = some k ∨ w.heap.size ≤ k) ∧ k < w1.heap.size := by
    intro k hk
    have hl := ownBlock_lt ho hk
    have hb := h1.lt
    rcases hbk with e | e
    · exact ⟨(h4 k (e ▸ hk)).2, .inl (e ▸ hk), hl⟩
    · rw [e] at hk; simp at hk; subst hk; exact ⟨by omega, .inr (by omega), hl⟩
  refine ⟨he, ⟨fun k => S k ∨ v'.ownBlock = some k, ⟨v', hb1.set 2 v', ?_, .inl h3, fun k hk => ⟨.inr hk, (hv' k hk).1⟩, ?_⟩, ?_⟩, ?_⟩
  · simp only [List.length_append, List.length_cons, List.length_nil, List.map_append, List.map_cons, List.map_nil]
    exact ownsRow_setCell_other ho (fun e => (hv' b (by simpa using e)).1 rfl) _
  · rintro k (hk | hk)
    · have := h5 k hk; have := hg.size; simp at *; omega
    · simpa using (hv' k hk).2.2
  · rintro k (hk | hk)
    · exact .inl hk
    · exact (hv' k hk).2.1.elim (fun e => .inl (h4 k e).1) .inr
  · exact ((((Turned.refl S w).drewN n).alloc _).grown hg (fun k hk => .inl (h4 k hk).1)).setCell (.inl h3) _

set_option maxHeartbeats 400000 in
theorem rpile_pop_none (h : (RPile b tv [] m lost ct).at_ S w) : Calls Try.prog 24 #[.pointer (some ⟨b, 0, none⟩)] w fun e w' => e = .returned (.tuple #[.int .i64 0, .bool false]) ∧ w = w' := by
  obtain ⟨v, h, h2, _⟩ := h
  obtain ⟨a, cap, rfl, _⟩ := slice_of_owns h2
  have h0 : w.cell? ⟨b, 2, none⟩ = some (.slice a 0 cap) := by rw [h.cell]; rfl
  clear h h2
  go_enter Try.func24, Try.ntmps24
  go_wp2
  go_ret2
  exact ⟨rfl, rfl⟩
end

set_option maxHeartbeats 800000 in
theorem rpile_pop_walk (b g n cap : Nat) (tv : Value) (xs : List Int) (i m ct : Int) (lost : Bool) (w : World) (h : Blk w b #[tv, .int .i64 m, .slice (some ⟨g, 0, none⟩) (n + 1) cap, .bool lost, .int .i64 ct] 41) (hn : n = xs.length) (hsm : n ≤ 1000000)
    (hc0 : ∀ j u, (xs.map (Value.int .i64))[j]? = some u → w.cell? ((⟨g, 0, none⟩ : Addr).add j) = some u)
    (hc : w.cell? ⟨g, n, none⟩ = some (.int .i64 i)) (hcap : n + 1 ≤ cap) (_hcap2 : cap ≤ maxLen) :
    Calls Try.prog 24 #[.pointer (some ⟨b, 0, none⟩)] w fun e w' => e = .returned (.tuple #[.int .i64 i, .bool true]) ∧
      ∃ v' w1, w1.ownsRow 0 3 1 v' xs.length (xs.map (Value.int .i64)) ∧ Below w.heap.size w w1 ∧ (∀ k, v'.ownBlock = some k → w.heap.size ≤ k) ∧ w' = w1.setCell ⟨b, 2, none⟩ v' := by
  have h0 : w.cell? ⟨b, 2, none⟩ = some (.slice (some ⟨g, 0, none⟩) (n + 1) cap) := by rw [h.cell]; rfl
  have hcp : ∀ k, Calls Try.prog 60 #[.slice (some ⟨g, 0, none⟩) n cap] (w.drewN k) fun e w' => ∃ v', e = .returned v' ∧ w'.ownsRow 0 3 1 v' xs.length (xs.map (Value.int .i64)) ∧ Below w.heap.size w w' ∧ ∀ k, v'.ownBlock = some k → w.heap.size ≤ k := fun k => by
    subst hn
    exact (copyInts ⟨g, 0, none⟩ cap xs (w.drewN k) hc0 hsm).mono fun e w' ⟨v', he, ho, hb, hk⟩ => ⟨v', he, ho, (below_drewN (Below.refl _ w) k).trans hb, hk⟩
  have HC := Lib.hid hcp
  have HB := Lib.hid h

  clear hc0 hcp h hn
  go_enter Try.func24, Try.ntmps24
  go_wp2
  go_quiet (fail)
  go_wp2
  have q0 : (w.drewN nq).cell? ⟨b, 2, none⟩ = some (.slice (some ⟨g, 0, none⟩) (n + 1) cap) := h0
  have HCq : Hid (Calls Try.prog 60 #[.slice (some ⟨g, 0, none⟩) n cap] (w.drewN nq).drew fun e w' => ∃ a' c', e = .returned (.slice a' xs.length c') ∧
      Hid (w'.ownsRow 0 3 1 (.slice a' xs.length c') xs.length (xs.map (Value.int .i64)) ∧ Below w.heap.size w w' ∧ ∀ k, (Value.slice a' xs.length c').ownBlock = some k → w.heap.size ≤ k) ∧
      w'.cell? ⟨b, 2, none⟩ = some (.slice (some ⟨g, 0, none⟩) (n + 1) cap) ∧ w'.frozen? ⟨b, 2, none⟩ = false) := (HC.out (nq + 1)).mono fun e w1 ⟨v', he, ho, hb, hk⟩ => by
    obtain ⟨a', cap', rfl, _⟩ := slice_of_owns ho
    have hB1 : Blk w1 b #[tv, .int .i64 m, .slice (some ⟨g, 0, none⟩) (n + 1) cap, .bool lost, .int .i64 ct] 41 := by
      have := HB.out
      unfold Blk at *
      rw [hb.block b (lt_of_block this)]; exact this
    exact ⟨a', cap', he, ⟨ho, hb, hk⟩, by rw [hB1.cell]; rfl, hB1.free 2⟩
  generalize w.drewN nq = W1 at q0 HCq ⊢
  have e1 : IntKind.i64.wrap ((n : Int) + 1 - 1) = n := by rw [show (n : Int) + 1 - 1 = n by omega]; exact IntWalk.i64_in _ (by omega)
  have e2 : IntKind.i64.wrap (n : Int) = n := IntWalk.i64_in _ (by omega)
  have p0 : (0 : Int) ≤ (n : Int) := by omega
  have p1 : (n : Int) ≤ (cap : Int) := by omega
  have p2 : n ≤ cap := by omega
  clear HC HB h0 hc
  go_region_with (go_at_call 60; refine HCq.out.mono ?_; rintro e w1 ⟨a', c', rfl, ho, g0, g1⟩)
  all_goals
    go_wp2
    go_ret2
    exact ⟨rfl, _, w1, ho.out.1, ho.out.2.1, ho.out.2.2, rfl⟩

section
variable {b : Nat} {tv : Value} {xs : List Int} {m : Int} {lost : Bool} {ct : Int} {S : Nat → Prop} {w : World}
theorem rpile_pop {i : Int} (h : (RPile b tv (xs ++ [i]) m lost ct).at_ S w) (hsm : xs.length ≤ 1000000) :
    Calls Try.prog 24 #[.pointer (some ⟨b, 0, none⟩)] w fun e w' => e = .returned (.tuple #[.int .i64 i, .bool true]) ∧ Goes (RPile b tv xs m lost ct) S w w' := by
  obtain ⟨v, h1, h2, h3, h4, h5⟩ := h
  have h2' := h2
  rcases h2 with ⟨hl, ⟨_, h0⟩ | ⟨g, cap, cur, rfl, hg, hh, hn, hcap, hsz, htake⟩⟩
  · simp at h0
  have hlen : (xs ++ [i]).length = xs.length + 1 := by simp
  rw [hlen] at h1 hn htake h2'
  have hcells := h2'.cells (g := g) rfl
  have hc : w.cell? ⟨g, xs.length, none⟩ = some (.int .i64 i) := by
    have := hcells xs.length (.int .i64 i) (by simp)
    unfold Addr.add at this; split at this
    · rename_i h; rw [h]; exact this
    · simpa using this
  refine (rpile_pop_walk b g xs.length cap tv xs i m ct lost w h1 rfl hsm (fun j u hj => hcells j u ?_) hc hn hcap).mono fun e w' ⟨he, v', w1, ho, hb, hk, hw⟩ => ?_
  · rw [List.map_append, List.getElem?_append_left (List.getElem?_eq_some_iff.1 hj).1]; exact hj
  subst hw
  have hb1 : Blk w1 b #[tv, .int .i64 m, .slice (some ⟨g, 0, none⟩) (xs.length + 1) cap, .bool lost, .int .i64 ct] 41 := by
    unfold Blk at *; rw [hb.block b (lt_of_block h1)]; exact h1
  have hbl := h1.lt
  have hvb : ∀ k, v'.ownBlock = some k → k ≠ b := fun k hk' e => by have := hk k hk'; omega
  refine ⟨he, ⟨fun k => k = b ∨ v'.ownBlock = some k, ⟨v', hb1.set 2 v', ownsRow_setCell_other ho (fun e => hvb b (by simpa using e) rfl) _, .inl rfl, fun k hk' => ⟨.inr hk', hvb k hk'⟩, ?_⟩, ?_⟩, ?_⟩
  · rintro k (e | e)
    · subst e; simpa using hb1.lt
    · simpa using ownBlock_lt ho e
  · rintro k (e | e)
    · subst e; exact .inl h3
    · exact .inr (hk k e)
  · exact (show Turned S w w1 from ⟨hb.os, hb.tape, hb.output, hb.size, fun k hk _ => hb.block k hk⟩).setCell (.inl h3) _
end

end Go.Proofs.Ytcdmlimhkmbiiaa
