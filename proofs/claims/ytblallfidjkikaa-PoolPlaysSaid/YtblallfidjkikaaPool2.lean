/- What is taken from a pool. -/
import Derived.Test.YtblallfidjkikaaPool
namespace Go.Proofs.Ytblallfidjkikaa
open Go.RowKit
set_option linter.unusedVariables false
set_option linter.unusedSimpArgs false

theorem slice_of_owns {w : World} {base : Nat} {e : TypeId} {v : Value} {n : Nat} {xs : List Value} (h : w.ownsRow base e 1 v n xs) : ∃ a cap, v = .slice a n cap ∧ n ≤ cap ∧ cap ≤ maxLen := by
  rcases h.2 with ⟨rfl, rfl⟩ | ⟨g, cap, cur, rfl, _, _, h1, h2, _⟩
  · exact ⟨none, 0, rfl, Nat.le_refl _, Nat.zero_le _⟩
  · exact ⟨some ⟨g, 0, none⟩, cap, rfl, h1, h2⟩
theorem Try.info3 : (Try.prog.info? 3).map (fun i => (i.zero, i.size, i.bytes)) = some (some (.int .i64 0), 1, 8) := by kernel_rfl
/-- A row of ints that the call has made, or nil. -/
def rowAt (v : Value) (xs : List Int) (S : Nat → Prop) (w : World) : Prop := w.ownsRow 0 3 1 v xs.length (xs.map (Value.int .i64)) ∧ ∀ k, S k ↔ v.ownBlock = some k
def RowT (v : Value) (xs : List Int) : Thing where
  at_ := rowAt v xs
  lt := fun ⟨h1, h2⟩ k hk => ownBlock_lt h1 ((h2 k).1 hk)
  kept := fun ⟨h1, h2⟩ hk _ => ⟨ownsRow_same h1 fun k hv => hk k ((h2 k).2 hv), h2⟩
theorem row_nil (w : World) : (RowT (.slice none 0 0) []).at_ (fun _ => False) w := ⟨⟨rfl, .inl ⟨rfl, rfl⟩⟩, fun k => ⟨False.elim, fun h => by simp [Value.ownBlock] at h⟩⟩
theorem St.nilRow {W w : World} {A : Thing} (h : St W A w) : St W (Sep A (RowT (.slice none 0 0) [])) w :=
  h.more ⟨_, row_nil w, fun k hk => hk.elim⟩ (Below.refl _ _)
theorem St.row {W w : World} {v : Value} {xs : List Int} (h : St W (RowT v xs) w) : w.ownsRow 0 3 1 v xs.length (xs.map (Value.int .i64)) := h.1.choose_spec.1.1
theorem row_push {v v' : Value} {xs : List Int} {x : Int} {S : Nat → Prop} {w w1 : World} (h : (RowT v xs).at_ S w)
    (ho : w1.ownsRow 0 3 1 v' (xs.length + 1) (xs.map (Value.int .i64) ++ [.int .i64 x])) (hg : (w.alloc (.cells #[.int .i64 x] 3)).grownBy w1 v.ownBlock)
    (hbk : v'.ownBlock = v.ownBlock ∨ v'.ownBlock = some (w.heap.size + 1)) : Goes (RowT v' (xs ++ [x])) S w w1 := by
  obtain ⟨h1, h2⟩ := h
  refine ⟨⟨fun k => v'.ownBlock = some k, ⟨?_, fun k => Iff.rfl⟩, fun k hk => ?_⟩, ((Turned.refl S w).alloc _).grown hg fun k hk => .inl ((h2 k).2 hk)⟩
  · simpa using ho
  · rcases hbk with e | e
    · exact .inl ((h2 k).2 (e ▸ hk))
    · rw [e] at hk; simp at hk; subst hk; exact .inr (by omega)
theorem row_cell {v : Value} {xs : List Int} {a : Option Addr} {len cap : Nat} {w : World} (h : w.ownsRow 0 3 1 v xs.length (xs.map (Value.int .i64))) (hv : v = .slice a len cap) {j : Nat} (hj : j < xs.length) :
    ∃ b, a = some ⟨b, 0, none⟩ ∧ w.cell? ⟨b, j, none⟩ = some (.int .i64 (xs[j]?.getD 0)) := by
  have h' := h
  rcases h.2 with ⟨_, e⟩ | ⟨g, cap', cur, rfl, _, _, h1, h2, _⟩
  · have : xs = [] := by simpa using e
    subst this; simp at hj
  · cases hv
    refine ⟨g, rfl, ?_⟩
    have h9 := h'.cells (g := g) rfl j (.int .i64 (xs[j]?.getD 0)) (by simp [hj])
    unfold Addr.add at h9; split at h9
    · rename_i e; subst e; exact h9
    · simpa using h9

/-- What Low takes: the lowest ones below q, not more than K. -/
def lowL (f : Nat → Bool) (K : Nat) : Nat → List Int
  | 0 => []
  | q + 1 => if (f q && decide ((lowL f K q).length < K)) = true then lowL f K q ++ [(q : Int)] else lowL f K q
def lowF (f : Nat → Bool) (K : Nat) : Nat → Nat → Bool
  | 0 => f
  | q + 1 => if (f q && decide ((lowL f K q).length < K)) = true then setB (lowF f K q) q false else lowF f K q
theorem lowF_above {f : Nat → Bool} {K q j : Nat} (h : q ≤ j) : lowF f K q j = f j := by
  induction q with
  | zero => rfl
  | succ q ih =>
    simp only [lowF]; split
    · rw [show setB (lowF f K q) q false j = lowF f K q j by simp [setB]; omega]; exact ih (by omega)
    · exact ih (by omega)
theorem lowL_full {f : Nat → Bool} {K q : Nat} (h : ¬ (lowL f K q).length < K) (d : Nat) : lowL f K (q + d) = lowL f K q ∧ lowF f K (q + d) = lowF f K q := by
  induction d with
  | zero => exact ⟨rfl, rfl⟩
  | succ d ih =>
    rw [show q + (d + 1) = (q + d) + 1 by omega]
    simp only [lowL, lowF, ih.1, ih.2]
    rw [if_neg (by simp [h]), if_neg (by simp [h])]; exact ⟨rfl, rfl⟩
theorem lowL_len (f : Nat → Bool) (K q : Nat) : (lowL f K q).length = min K (cnt q f) := by
  induction q with
  | zero => simp [lowL, cnt]
  | succ q ih =>
    by_cases h : (f q && decide ((lowL f K q).length < K)) = true
    · have e : lowL f K (q + 1) = lowL f K q ++ [(q : Int)] := by simp only [lowL, if_pos h]
      simp at h
      rw [e, List.length_append]
      simp only [cnt, h.1, if_true, List.length_cons, List.length_nil]; omega
    · have e : lowL f K (q + 1) = lowL f K q := by simp only [lowL, if_neg h]
      rw [e]
      cases hf : f q
      · simp only [cnt, hf]; simp; exact ih
      · simp [hf] at h
        simp only [cnt, hf, if_true]; omega
theorem lowL_mem {f : Nat → Bool} {K q : Nat} {x : Int} (h : x ∈ lowL f K q) : ∃ j : Nat, x = j ∧ j < q ∧ f j = true := by
  induction q with
  | zero => simp [lowL] at h
  | succ q ih =>
    simp only [lowL] at h
    split at h
    · rename_i e
      rcases List.mem_append.1 h with h | h
      · obtain ⟨j, h1, h2, h3⟩ := ih h; exact ⟨j, h1, by omega, h3⟩
      · simp at h; simp at e; exact ⟨q, h, by omega, e.1⟩
    · obtain ⟨j, h1, h2, h3⟩ := ih h; exact ⟨j, h1, by omega, h3⟩
/-- Rising. -/
def Rises (l : List Int) : Prop := ∀ i j : Nat, i < j → j < l.length → l[i]?.getD 0 < l[j]?.getD 0
theorem rises_push {l : List Int} {x : Int} (h : Rises l) (hx : ∀ y ∈ l, y < x) : Rises (l ++ [x]) := by
  intro i j hij hj
  simp at hj
  by_cases e : j = l.length
  · subst e
    rw [List.getElem?_append_right (Nat.le_refl _), List.getElem?_append_left (by omega)]
    simp
    have : l[i]?.getD 0 ∈ l := by rw [List.getElem?_eq_getElem hij]; simp
    exact hx _ this
  · rw [List.getElem?_append_left (by omega), List.getElem?_append_left (by omega)]
    exact h i j hij (by omega)
theorem lowL_rises (f : Nat → Bool) (K q : Nat) : Rises (lowL f K q) := by
  induction q with
  | zero => intro i j h1 h2; simp [lowL] at h2
  | succ q ih =>
    simp only [lowL]; split
    · refine rises_push ih fun y hy => ?_
      obtain ⟨j, h1, h2, _⟩ := lowL_mem hy
      omega
    · exact ih
theorem lowF_is (f : Nat → Bool) (K q j : Nat) : lowF f K q j = (f j && decide ((j : Int) ∉ lowL f K q)) := by
  induction q with
  | zero => simp [lowF, lowL]
  | succ q ih =>
    simp only [lowF, lowL]
    split
    · rename_i e
      by_cases ej : j = q
      · subst ej; simp [setB]
      · have : ¬ ((j : Int) = q) := by omega
        simp only [setB, ej, if_false, ih, List.mem_append, List.mem_singleton, this, or_false]
    · exact ih
theorem lowF_cnt {f : Nat → Bool} {K q n : Nat} (h : q ≤ n) : cnt n (lowF f K q) + (lowL f K q).length = cnt n f := by
  induction q with
  | zero => rfl
  | succ q ih =>
    have ih := ih (by omega)
    simp only [lowF, lowL]; split
    · rename_i e
      simp at e
      have h1 := cnt_set (n := n) (i := q) (f := lowF f K q) (x := false) (by omega)
      have h2 : lowF f K q q = true := by rw [lowF_above (Nat.le_refl _)]; exact e.1
      simp [h2] at h1
      simp; omega
    · exact ih

set_option maxRecDepth 100000 in
set_option maxHeartbeats 1600000 in
theorem pool_low {W w : World} {b g n : Nat} {f : Nat → Bool} {X : Thing} (k : Int) (hn : n ≤ 1024) (h : St W (Sep (Pool b g n f) X) w) :
    Calls Try.prog 10 #[.pointer (some ⟨b, 0, none⟩), .int .i64 k] w fun e w' => ∃ v, e = .returned v ∧ St W (Sep (Sep (Pool b g n (lowF f k.toNat n)) X) (RowT v (lowL f k.toNat n))) w' := by
  obtain ⟨i0, hi, hz0, hz1, hz2⟩ := info_parts Try.info3
  have h1 := h.nilRow
  go_enter Try.func10, Try.ntmps10
  go_wp2_with fail
  clear h
  go_loopw [5, 6] (fun u i w' => ∃ (q : Nat) (v : Value), q ≤ n ∧ u = v ∧ i = .int .i64 q ∧ St W (Sep (Sep (Pool b g n (lowF f k.toNat q)) X) (RowT v (lowL f k.toNat q))) w') (fun _ i _ => n - (intOf i).toNat)
  case atStart => exact ⟨0, _, Nat.zero_le _, rfl, rfl, h1⟩
  case round =>
    clear h1
    obtain ⟨q, v, hq, rfl, rfl, hs⟩ := hrel
    obtain ⟨a, c, rfl, hc1, hc2⟩ := slice_of_owns hs.right.row
    obtain ⟨S0, hS0⟩ : ∃ S, (Pool b g n (lowF f k.toNat q)).at_ S wr := by
      obtain ⟨⟨U, ⟨_, _, ⟨S, _, hS, _⟩, _⟩, _⟩, _⟩ := hs; exact ⟨S, hS⟩
    obtain ⟨c0, -, -⟩ := pool_cells hS0
    have hlen := lowL_len f k.toNat q
    have hcn := cnt_le q f
    by_cases hlt : q < n
    · obtain ⟨c2, -⟩ := pool_bit hS0 hlt
      rw [lowF_above (Nat.le_refl _)] at c2
      by_cases hfull : (lowL f k.toNat q).length < k.toNat
      · have hfi : ((lowL f k.toNat q).length : Int) < k := by omega
        cases hf : f q
        · have e1 : lowF f k.toNat (q + 1) = lowF f k.toNat q := by simp [lowF, hf]
          have e2 : lowL f k.toNat (q + 1) = lowL f k.toNat q := by simp [lowL, hf]
          rw [hf] at c2
          have H9 := Lib.hid (show St W (Sep (Sep (Pool b g n (lowF f k.toNat (q + 1))) X) (RowT _ (lowL f k.toNat (q + 1)))) wr by rw [e1, e2]; exact hs)
          clear hs hS0 hf hlen e1 e2
          go_wp2_with fail
          go_round
          case rel => exact ⟨q + 1, _, by omega, rfl, by go_num, H9.out⟩
          case measure => simp [intOf]; omega
        · rw [hf] at c2
          have hft : lowF f k.toNat q q = true := by rw [lowF_above (Nat.le_refl _)]; exact hf
          have e1 : lowF f k.toNat (q + 1) = setB (lowF f k.toNat q) q false := by simp [lowF, hf, hfull]
          have e2 : lowL f k.toNat (q + 1) = lowL f k.toNat q ++ [(q : Int)] := by simp [lowL, hf, hfull]
          have hlq : (lowL f k.toNat q).length ≤ 1000000 := by rw [hlen]; omega
          have E1 := Lib.hid e1
          have E2 := Lib.hid e2
          have C1 := Lib.hid (hs.call (sepL (sepL fun S h => pool_takes q hn hlt hft h)))
          clear hs hS0 hf hlen e1 e2 hft
          generalize lowL f k.toNat q = l at *
          generalize hf' : lowF f k.toNat q = f' at *
          go_wp2_with fail
          with_reducible refine C1.out.mono ?_
          rintro e w1 ⟨rfl, h7⟩
          clear C1 c0 c2
          have HO := Lib.hid h7.right.row
          go_wp2_with (at_builtin; refine wpList_push rfl _ _ 31 rfl 3 i0 (.int .i64 0) 8 Try.underlying31 hi hz0 hz1 hz2 rfl _ _ _ rfl (HO.out.alloc _) ⟨w1.heap.size, 0, none⟩ (.int .i64 (q : Int)) rfl ?c1 rfl hlq (by decide) ?_)
          case c1 => exact World.cell?_alloc_new _ _ _ 0
          intro v' w2 ho hg hbk
          have h8 := h7.goes (w' := w2) (goesR fun S h => row_push h ho hg (by simpa using hbk))
          have H9 := Lib.hid (show St W (Sep (Sep (Pool b g n (lowF f k.toNat (q + 1))) X) (RowT v' (lowL f k.toNat (q + 1)))) w2 by rw [E1.out, E2.out]; exact h8)
          clear h8 h7 HO ho hg hbk E1 E2 hf'
          go_wp2_with fail
          go_round
          case rel => exact ⟨q + 1, v', by omega, rfl, by go_num, H9.out⟩
          case measure => simp [intOf]; omega
      · have hfi : decide (((lowL f k.toNat q).length : Int) < k) = false := by simp; omega
        obtain ⟨d, hd⟩ : ∃ d, n = q + d := ⟨n - q, by omega⟩
        obtain ⟨e1, e2⟩ := lowL_full hfull d
        have H9 := Lib.hid (show St W (Sep (Sep (Pool b g n (lowF f k.toNat n)) X) (RowT _ (lowL f k.toNat n))) wr by rw [show lowF f k.toNat n = lowF f k.toNat q by rw [hd]; exact e2, show lowL f k.toNat n = lowL f k.toNat q by rw [hd]; exact e1]; exact hs)
        clear hs hS0 hlen e1 e2 hd
        go_wp2_with fail
        go_ret
        exact ⟨_, rfl, H9.out⟩
    · obtain rfl : q = n := by omega
      go_wp2_with fail
      go_ret
      exact ⟨_, rfl, hs⟩

/-- A run of m from a on, and what is free when it is taken. -/
def rnL (a : Nat) : Nat → List Int
  | 0 => []
  | m + 1 => rnL a m ++ [((a + m : Nat) : Int)]
def rnF (f : Nat → Bool) (a : Nat) : Nat → Nat → Bool
  | 0 => f
  | m + 1 => setB (rnF f a m) (a + m) false
theorem rnL_len (a m : Nat) : (rnL a m).length = m := by
  induction m with
  | zero => rfl
  | succ m ih => simp [rnL, ih]
theorem rnL_get (a m : Nat) {j : Nat} (h : j < m) : (rnL a m)[j]?.getD 0 = ((a + j : Nat) : Int) := by
  induction m with
  | zero => omega
  | succ m ih =>
    simp only [rnL]
    by_cases e : j = m
    · subst e
      rw [List.getElem?_append_right (by rw [rnL_len]; exact Nat.le_refl _), rnL_len]; simp
    · rw [List.getElem?_append_left (by rw [rnL_len]; omega)]; exact ih (by omega)
theorem rnF_is (f : Nat → Bool) (a m j : Nat) : rnF f a m j = (f j && !decide (a ≤ j ∧ j < a + m)) := by
  induction m with
  | zero =>
    have : ¬ (a ≤ j ∧ j < a + 0) := by omega
    simp only [rnF, this]; simp
  | succ m ih =>
    simp only [rnF, setB]
    by_cases e : j = a + m
    · have : a ≤ j ∧ j < a + (m + 1) := by omega
      simp [e]
    · have : (a ≤ j ∧ j < a + (m + 1)) ↔ (a ≤ j ∧ j < a + m) := by omega
      rw [if_neg e, ih]; simp only [this]
theorem rnF_cnt {n a m : Nat} {f : Nat → Bool} (hn : a + m ≤ n) (hr : ∀ j, j < m → f (a + j) = true) : cnt n (rnF f a m) + m = cnt n f := by
  induction m with
  | zero => rfl
  | succ m ih =>
    have ih := ih (by omega) fun j hj => hr j (by omega)
    have h1 := cnt_set (n := n) (i := a + m) (f := rnF f a m) (x := false) (by omega)
    have h2 : rnF f a m (a + m) = true := by rw [rnF_is, hr m (by omega)]; simp
    simp [h2] at h1
    simp only [rnF]; omega
/-- What Take takes. -/
def tkB (n : Nat) (f : Nat → Bool) (k : Int) : Bool := decide (1 ≤ k ∧ k ≤ cnt n f)
noncomputable def tkL (n : Nat) (f : Nat → Bool) (k : Int) : List Int :=
  if 1 ≤ k ∧ k ≤ cnt n f then (match runOf n f k with | some a => rnL a k.toNat | none => lowL f k.toNat n) else []
noncomputable def tkF (n : Nat) (f : Nat → Bool) (k : Int) : Nat → Bool :=
  if 1 ≤ k ∧ k ≤ cnt n f then (match runOf n f k with | some a => rnF f a k.toNat | none => lowF f k.toNat n) else f
theorem best_some {n a : Nat} {f : Nat → Bool} {k : Int} (h : runOf n f k = some a) : Best n f k (some a) := by
  unfold runOf at h
  split at h
  · rename_i he; rw [← h]; exact he.choose_spec
  · cases h
theorem St.callE {P : Program} {fn : FuncId} {args : Array Value} {W w : World} {O : Thing} {O' : Value → Thing} {R : Ending → Prop} (h : St W O w) (hc : ∀ S, O.at_ S w → Calls P fn args w fun e w' => R e ∧ w = w') : Calls P fn args w fun e w' => R e ∧ w = w' := hc h.1.choose h.1.choose_spec.1

set_option maxRecDepth 100000 in
set_option maxHeartbeats 3200000 in
theorem pool_take {W w : World} {b g n : Nat} {f : Nat → Bool} {X : Thing} (k : Int) (hn : n ≤ 1024) (h : St W (Sep (Pool b g n f) X) w) :
    Calls Try.prog 9 #[.pointer (some ⟨b, 0, none⟩), .int .i64 k] w fun e w' => ∃ v, e = .returned (.tuple #[v, .bool (tkB n f k)]) ∧ St W (Sep (Sep (Pool b g n (tkF n f k)) X) (RowT v (tkL n f k))) w' := by
  obtain ⟨i0, hi, hz0, hz1, hz2⟩ := info_parts Try.info3
  have hcn := cnt_le n f
  obtain ⟨S0, hS0⟩ : ∃ S, (Pool b g n f).at_ S w := by
    obtain ⟨⟨U, ⟨S, _, hS, _⟩, _⟩, _⟩ := h; exact ⟨S, hS⟩
  obtain ⟨c0, c1, -⟩ := pool_cells hS0
  clear hS0
  by_cases hk : 1 ≤ k ∧ k ≤ cnt n f
  · have hB : tkB n f k = true := decide_eq_true hk
    have hk1 := hk.1
    have hk2 := hk.2
    rw [hB]
    cases hr : runOf n f k with
    | none =>
      have hL : tkL n f k = lowL f k.toNat n := by unfold tkL; rw [if_pos hk, hr]
      have hF : tkF n f k = lowF f k.toNat n := by unfold tkF; rw [if_pos hk, hr]
      have hv : rV n f k = 0 := by unfold rV; rw [hr]
      have hb : rB n f k = false := by unfold rB; rw [hr]; rfl
      rw [hL, hF]
      have C1 := Lib.hid (h.look (lookL fun S h => pool_run k hn h))
      rw [hv, hb] at C1
      have C2 := Lib.hid (pool_low k hn h)
      clear h hB hr hL hF hv hb hk
      generalize cnt n f = ct at *
      go_enter Try.func9, Try.ntmps9
      go_wp2_with fail
      with_reducible refine C1.out.mono ?_
      rintro e w1 ⟨rfl, rfl⟩
      clear C1
      go_wp2_with fail
      with_reducible refine C2.out.mono ?_
      rintro e w1 ⟨v, rfl, h7⟩
      clear C2 c0 c1
      go_wp2_with fail
      go_ret2
      exact ⟨v, rfl, h7⟩
    | some a =>
      have hL : tkL n f k = rnL a k.toNat := by unfold tkL; rw [if_pos hk, hr]
      have hF : tkF n f k = rnF f a k.toNat := by unfold tkF; rw [if_pos hk, hr]
      have hv : rV n f k = a := by unfold rV; rw [hr]
      have hb : rB n f k = true := by unfold rB; rw [hr]; rfl
      obtain ⟨-, ha, hrun, -⟩ := best_some hr
      rw [hL, hF]
      have C1 := Lib.hid (h.look (lookL fun S h => pool_run k hn h))
      rw [hv, hb] at C1
      have h1 := h.nilRow
      obtain ⟨K, rfl⟩ : ∃ K : Nat, k = (K : Int) := ⟨k.toNat, by omega⟩
      rw [show (K : Int).toNat = K from rfl] at *
      have HR := Lib.hid hrun
      clear h hB hr hL hF hv hb hk hrun
      generalize cnt n f = ct at *
      go_enter Try.func9, Try.ntmps9
      go_wp2_with fail
      with_reducible refine C1.out.mono ?_
      rintro e w1 ⟨rfl, rfl⟩
      clear C1 c0 c1
      go_wp2_with fail
      go_loopw [8, 9] (fun u i w' => ∃ (m : Nat) (v : Value), m ≤ K ∧ u = v ∧ i = .int .i64 ((a : Int) + m) ∧ St W (Sep (Sep (Pool b g n (rnF f a m)) X) (RowT v (rnL a m))) w') (fun _ i _ => a + K - (intOf i).toNat)
      case atStart => exact ⟨0, _, Nat.zero_le _, rfl, by simp, h1⟩
      case round =>
        clear h1
        obtain ⟨m, v, hm, rfl, rfl, hs⟩ := hrel
        obtain ⟨av, c, rfl, hc1, hc2⟩ := slice_of_owns hs.right.row
        by_cases hlt : m < K
        · have hft : rnF f a m (a + m) = true := by rw [rnF_is, HR.out m hlt]; simp
          have hlq : (rnL a m).length ≤ 1000000 := by rw [rnL_len]; omega
          have hlen := rnL_len a m
          have C1 := Lib.hid (hs.call (sepL (sepL fun S h => pool_takes (a + m) hn (by omega) hft h)))
          rw [show ((a + m : Nat) : Int) = (a : Int) + m by omega] at C1
          have E2 := Lib.hid (show rnL a (m + 1) = rnL a m ++ [((a + m : Nat) : Int)] from rfl)
          have E1 := Lib.hid (show rnF f a (m + 1) = setB (rnF f a m) (a + m) false from rfl)
          rw [show ((a + m : Nat) : Int) = (a : Int) + m by omega] at E2
          clear hs hft hlen
          generalize rnL a m = l at *
          generalize hf' : rnF f a m = f' at *
          go_wp2_with fail
          with_reducible refine C1.out.mono ?_
          rintro e w1 ⟨rfl, h7⟩
          clear C1
          have HO := Lib.hid h7.right.row
          go_wp2_with (at_builtin; refine wpList_push rfl _ _ 31 rfl 3 i0 (.int .i64 0) 8 Try.underlying31 hi hz0 hz1 hz2 rfl _ _ _ rfl (HO.out.alloc _) ⟨w1.heap.size, 0, none⟩ (.int .i64 ((a : Int) + m)) rfl ?c1 rfl hlq (by decide) ?_)
          case c1 => exact World.cell?_alloc_new _ _ _ 0
          intro v' w2 ho hg hbk
          have h8 := h7.goes (w' := w2) (goesR fun S h => row_push h ho hg (by simpa using hbk))
          have H9 := Lib.hid (show St W (Sep (Sep (Pool b g n (rnF f a (m + 1))) X) (RowT v' (rnL a (m + 1)))) w2 by rw [E1.out, E2.out]; exact h8)
          clear h8 h7 HO ho hg hbk E1 E2 hf'
          go_wp2_with fail
          go_round
          case rel => exact ⟨m + 1, v', by omega, rfl, by go_num, H9.out⟩
          case measure => simp [intOf]; omega
        · obtain rfl : m = K := by omega
          go_wp2_with fail
          go_ret2
          exact ⟨_, rfl, hs⟩
  · have hB : tkB n f k = false := decide_eq_false hk
    have hL : tkL n f k = [] := by unfold tkL; rw [if_neg hk]
    have hF : tkF n f k = f := by unfold tkF; rw [if_neg hk]
    rw [hB, hL, hF]
    have HS := Lib.hid h.nilRow
    clear h hB hL hF
    generalize cnt n f = ct at *
    by_cases hk1 : 1 ≤ k
    · have hgt : (ct : Int) < k := by omega
      clear hk
      go_enter Try.func9, Try.ntmps9
      go_wp2_with fail
      go_ret2
      exact ⟨_, rfl, HS.out⟩
    · have hlt : k < 1 := by omega
      clear hk hk1
      go_enter Try.func9, Try.ntmps9
      go_wp2_with fail
      go_ret2
      exact ⟨_, rfl, HS.out⟩
end Go.Proofs.Ytblallfidjkikaa
