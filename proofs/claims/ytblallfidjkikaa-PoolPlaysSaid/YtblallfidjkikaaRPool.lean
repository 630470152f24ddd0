/- The contracts of the document's pool. -/
import Derived.Test.YtblallfidjkikaaPool3
namespace Go.Proofs.Ytblallfidjkikaa
open Go.RowKit
set_option linter.unusedVariables false
set_option linter.unusedSimpArgs false

/-- The document's pool. -/
def RPool (b g n : Nat) (f : Nat → Bool) : Thing := Sep (Var b #[.slice (some ⟨g, 0, none⟩) n n] 49) (Bools g n 4 f)
section
variable {b g n : Nat} {f : Nat → Bool} {S : Nat → Prop} {w w' : World}
theorem rpool_congr {f' : Nat → Bool} (h : ∀ j, j < n → f j = f' j) (hp : (RPool b g n f).at_ S w) : (RPool b g n f').at_ S w := by
  obtain ⟨A, B, h1, h2, h3⟩ := hp
  exact ⟨A, B, h1, bools_congr h h2, h3⟩
theorem rpool_cell (h : (RPool b g n f).at_ S w) : w.cell? ⟨b, 0, none⟩ = some (.slice (some ⟨g, 0, none⟩) n n) := by
  obtain ⟨_, _, h, _⟩ := h
  rw [h.1.cell]; rfl
theorem rpool_bit (h : (RPool b g n f).at_ S w) {j : Nat} (hj : j < n) : w.cell? ⟨g, j, none⟩ = some (.bool (f j)) ∧ w.frozen? ⟨g, j, none⟩ = false := by
  obtain ⟨_, _, _, ⟨cs, h1, h2, h3, _⟩, _⟩ := h
  exact ⟨by rw [h1.cell]; exact h3 j hj, h1.free j⟩
theorem rpool_set {j : Nat} (x : Bool) (h : (RPool b g n f).at_ S w) : Goes (RPool b g n (setB f j x)) S w (w.setCell ⟨g, j, none⟩ (.bool x)) := goesR (fun _ h => bools_set h j x) S h
theorem rpool_has (i : Int) (hn : n ≤ 1024) (h : (RPool b g n f).at_ S w) : Calls Try.prog 22 #[.pointer (some ⟨b, 0, none⟩), .int .i64 i] w fun e w' => e = .returned (.bool (pH n f i)) ∧ w = w' := by
  have c0 := rpool_cell h
  by_cases hi : inN n i
  · obtain ⟨k, rfl⟩ : ∃ k : Nat, i = (k : Int) := ⟨i.toNat, by have := hi.1; omega⟩
    have hk : k < n := by have := hi.2; omega
    rw [pH_in hk]
    obtain ⟨c2, -⟩ := rpool_bit h hk
    clear h hi
    generalize f k = v at *
    go_enter Try.func22, Try.ntmps22
    go_wp2_with fail
    go_ret
    exact ⟨rfl, rfl⟩
  · rw [pH_out hi]
    unfold inN at hi
    clear h
    by_cases h0 : 0 ≤ i
    · have hd : decide (i < (n : Int)) = false := by simp; omega
      clear hi
      go_enter Try.func22, Try.ntmps22
      go_wp2_with fail
      go_ret
      exact ⟨by first | rfl | (show Ending.returned (.bool _) = _; rw [hd]), rfl⟩
    · have hd : decide (0 ≤ i) = false := by simpa using h0
      clear hi
      go_enter Try.func22, Try.ntmps22
      go_wp2_with fail
      go_ret
      exact ⟨rfl, rfl⟩
set_option maxHeartbeats 800000 in
theorem rpool_give (i : Int) (hn : n ≤ 1024) (h : (RPool b g n f).at_ S w) :
    Calls Try.prog 17 #[.pointer (some ⟨b, 0, none⟩), .int .i64 i] w fun e w' => e = .returned (.bool (gB n f i)) ∧ Goes (RPool b g n (gF n f i)) S w w' := by
  have c0 := rpool_cell h
  have HS := Lib.hid (Goes.same h)
  by_cases hi : inN n i
  · obtain ⟨k, rfl⟩ : ∃ k : Nat, i = (k : Int) := ⟨i.toNat, by have := hi.1; omega⟩
    have hk : k < n := by have := hi.2; omega
    rw [gB_in hk]
    obtain ⟨c2, f2⟩ := rpool_bit h hk
    clear hi
    unfold gF
    rw [gB_in hk]
    cases hf : f k
    · rw [hf] at c2
      simp only [Bool.not_false, if_true]
      have HG := Lib.hid (rpool_set (j := k) true h)
      clear h hf HS
      rw [show (k : Int).toNat = k from rfl]
      go_enter Try.func17, Try.ntmps17
      go_wp2_with fail
      go_ret
      exact ⟨rfl, HG.out⟩
    · rw [hf] at c2
      simp only [Bool.not_true, Bool.false_eq_true, if_false]
      clear h hf
      go_enter Try.func17, Try.ntmps17
      go_wp2_with fail
      go_ret
      exact ⟨rfl, HS.out⟩
  · unfold gF
    rw [gB_out hi]
    simp only [Bool.false_eq_true, if_false]
    unfold inN at hi
    clear h
    by_cases h0 : 0 ≤ i
    · have hge : (n : Int) ≤ i := by omega
      clear hi
      go_enter Try.func17, Try.ntmps17
      go_wp2_with fail
      go_ret
      exact ⟨rfl, HS.out⟩
    · have hlt : i < 0 := by omega
      clear hi h0
      go_enter Try.func17, Try.ntmps17
      go_wp2_with fail
      go_ret
      exact ⟨rfl, HS.out⟩
set_option maxHeartbeats 800000 in
theorem rpool_free (hn : n ≤ 1024) (h : (RPool b g n f).at_ S w) : Calls Try.prog 20 #[.pointer (some ⟨b, 0, none⟩)] w fun e w' => e = .returned (.int .i64 (cnt n f)) ∧ w = w' := by
  have c0 := rpool_cell h
  have HB := Lib.hid fun j (hj : j < n) => (rpool_bit h hj).1
  clear h
  go_enter Try.func20, Try.ntmps20
  go_wp2_with fail
  go_loopw [3, 4] (fun u i w' => ∃ q : Nat, q ≤ n ∧ u = .int .i64 (cnt q f) ∧ i = .int .i64 q ∧ w' = w) (fun _ i _ => n - (intOf i).toNat)
  case atStart => exact ⟨0, Nat.zero_le _, rfl, rfl, rfl⟩
  case round =>
    obtain ⟨q, hq, rfl, rfl, hw⟩ := hrel
    subst hw
    have hcq := cnt_le q f
    by_cases hlt : q < n
    · have c2 := HB.out q hlt
      cases hf : f q
      · have e1 := Lib.hid (show cnt (q + 1) f = cnt q f by simp [cnt, hf])
        rw [hf] at c2
        clear hf
        generalize hct : cnt q f = ct at *
        clear hct
        go_wp2_with fail
        go_round
        case rel => exact ⟨q + 1, by omega, by rw [e1.out], by go_num, by first | rfl | trivial⟩
        case measure => first | (simp [intOf]; done) | (simp [intOf]; omega)
      · have e1 := Lib.hid (show (cnt (q + 1) f : Int) = cnt q f + 1 by simp [cnt, hf])
        rw [hf] at c2
        clear hf
        generalize hct : cnt q f = ct at *
        clear hct
        go_wp2_with fail
        go_round
        case rel => exact ⟨q + 1, by omega, by rw [e1.out], by go_num, by first | rfl | trivial⟩
        case measure => first | (simp [intOf]; done) | (simp [intOf]; omega)
    · obtain rfl : q = n := by omega
      go_wp2_with fail
      go_ret
      exact ⟨rfl, rfl⟩
set_option maxHeartbeats 1600000 in
theorem rpool_run (k : Int) (hn : n ≤ 1024) (h : (RPool b g n f).at_ S w) :
    Calls Try.prog 19 #[.pointer (some ⟨b, 0, none⟩), .int .i64 k] w fun e w' => e = .returned (.tuple #[.int .i64 (rV n f k), .bool (rB n f k)]) ∧ w = w' := by
  have c0 := rpool_cell h
  have HB := Lib.hid fun j (hj : j < n) => (rpool_bit h hj).1
  clear h
  by_cases hk : k < 1 ∨ (n : Int) < k
  · have hb : Best n f k none := hk.elim .inl fun h => .inr fun b hn => by omega
    rw [hb.none.1, hb.none.2]
    clear hb
    by_cases hk1 : k < 1
    · clear hk
      go_enter Try.func19, Try.ntmps19
      go_wp2_with fail
      go_ret2
      exact ⟨rfl, rfl⟩
    · have hk2 : (n : Int) < k := by omega
      clear hk
      go_enter Try.func19, Try.ntmps19
      go_wp2_with fail
      go_ret2
      exact ⟨rfl, rfl⟩
  · obtain ⟨K, rfl⟩ : ∃ K : Nat, k = (K : Int) := ⟨k.toNat, by omega⟩
    have hk1 : 1 ≤ (K : Int) := by omega
    have hk2 : (K : Int) ≤ n := by omega
    have hKn : K ≤ n := by omega
    have hd2 : decide (n < K) = false := by simp; omega
    clear hk
    go_enter Try.func19, Try.ntmps19
    go_wp2_with fail
    clear hd2
    go_loopw [6] (fun i w' => ∃ q : Nat, q + K ≤ n + 1 ∧ i = .int .i64 ((q : Int) - 1) ∧ Hid (∀ b, q ≤ b → b + K ≤ n → ¬ isRun f b K) ∧ w' = w) (fun i _ => (intOf i + 1).toNat)
    case atStart => exact ⟨n - K + 1, by omega, by rw [show (((n - K + 1 : Nat) : Int)) - 1 = (n : Int) - K by omega], Lib.hid fun b h1 h2 => by omega, rfl⟩
    case round =>
      obtain ⟨q, hq, rfl, hN, hw⟩ := hrel
      subst hw
      cases q with
      | zero =>
        rw [show ((0 : Nat) : Int) - 1 = -1 from rfl]
        have hb := Lib.hid (show Best n f K none from .inr fun b hn => hN.out b (Nat.zero_le _) hn)
        clear hN
        go_wp2_with fail
        go_ret2
        exact ⟨by rw [hb.out.none.1, hb.out.none.2]; rfl, rfl⟩
      | succ q =>
        have e0 : ((q + 1 : Nat) : Int) - 1 = (q : Int) := by omega
        rw [e0]
        clear e0
        have hqn : q + K ≤ n := by omega
        go_wp2_with fail
        go_loopw [7] (fun i w' => ∃ m : Nat, m ≤ K ∧ i = .int .i64 m ∧ Hid (∀ j, j < m → f (q + j) = true) ∧ w' = wr) (fun i _ => K - (intOf i).toNat)
        case atStart => exact ⟨0, Nat.zero_le _, rfl, Lib.hid fun j hj => by omega, rfl⟩
        case round =>
          obtain ⟨m, hm, rfl, hA, hw⟩ := hrel
          subst hw
          by_cases hlm : m < K
          · have c2 := HB.out (q + m) (by omega)
            have hqm : (q : Int) + m < n := by omega
            cases hf : f (q + m)
            · rw [hf] at c2
              have hne : ((m : Int) == (K : Int)) = false := by simp; omega
              have HN2 := Lib.hid (show ∀ b, q ≤ b → b + K ≤ n → ¬ isRun f b K from fun b h1 h2 hr => by
                by_cases e : b = q
                · subst e; have := hr m hlm; rw [hf] at this; cases this
                · exact hN.out b (by omega) h2 hr)
              clear hA hf hN
              go_wp2_with fail
              go_round
              case rel => exact ⟨q, by omega, by go_num, HN2, by first | rfl | trivial⟩
              case measure => first | (simp [intOf]; done) | (simp [intOf]; omega)
            · rw [hf] at c2
              have HA2 := Lib.hid (show ∀ j, j < m + 1 → f (q + j) = true from fun j hj => by
                by_cases e : j = m
                · rw [e]; exact hf
                · exact hA.out j (by omega))
              clear hA hf
              go_wp2_with fail
              go_round
              case rel => exact ⟨m + 1, by omega, by go_num, HA2, by first | rfl | trivial⟩
              case measure => first | (simp [intOf]; done) | (simp [intOf]; omega)
          · obtain rfl : m = K := by omega
            have hb := Lib.hid (show Best n f m (some q) from ⟨hk1, hqn, hA.out, fun b h1 h2 => hN.out b (by omega) h2⟩)
            clear hN hA
            go_wp2_with fail
            go_ret2
            exact ⟨by rw [hb.out.some.1, hb.out.some.2]; rfl, rfl⟩
end
set_option maxHeartbeats 1600000 in
theorem rpool_new (n : Nat) (w : World) (h2 : n ≤ 1024) :
    Calls Try.prog 13 #[.int .i64 n] w fun e w' => ∃ b g, e = .returned (.tuple #[.pointer (some ⟨b, 0, none⟩), .int .i64 0]) ∧ St w (RPool b g n full) w' := by
  have hmk := make_bools n (by omega)
  go_enter Try.func13, Try.ntmps13
  go_wp2_with fail
  clear hmk
  have h3 : St w (Sep (Bools w.heap.size n 4 fun _ => false) (Var (w.heap.size + 1) #[.slice (some ⟨w.heap.size, 0, none⟩) n n] 49)) ((w.alloc (.cells (madeCells #[.bool false] n) 4)).alloc (.cells #[.slice (some ⟨w.heap.size, 0, none⟩) n n] 49)) := by
    have h4 : St w (Bools w.heap.size n 4 fun _ => false) (w.alloc (.cells (madeCells #[.bool false] n) 4)) :=
      ⟨⟨fun k => k = w.heap.size, ⟨_, Blk.new w _ 4, by simp [madeCells], fun j hj => by simp [madeCells, hj, Nat.mod_one], rfl, fun _ h => h⟩, fun k hk => by omega⟩, (Below.refl _ _).alloc (Nat.le_refl _) _⟩
    have := h4.var #[.slice (some ⟨w.heap.size, 0, none⟩) n n] 49
    simpa using this
  have h3 := h3.swap
  generalize hbh : w.heap.size + 1 = b at h3 ⊢
  generalize hg : w.heap.size = g at h3 ⊢
  generalize hW : (w.alloc (.cells (madeCells #[.bool false] n) 4)).alloc (.cells #[.slice (some ⟨g, 0, none⟩) n n] 49) = W1 at h3 ⊢
  clear hbh hg hW
  go_loopw [5] (fun k w' => ∃ q : Nat, q ≤ n ∧ k = .int .i64 q ∧ St w (RPool b g n (fN q)) w') (fun k _ => n - (intOf k).toNat)
  case atStart => exact ⟨0, Nat.zero_le _, rfl, by rw [show fN 0 = fun _ => false by funext k; simp [fN]]; exact h3⟩
  case round =>
    clear h3
    obtain ⟨q, hq, rfl, hs⟩ := hrel
    have c0 : wr.cell? ⟨b, 0, none⟩ = some (.slice (some ⟨g, 0, none⟩) n n) := rpool_cell hs.1.choose_spec.1
    by_cases hlt : q < n
    · have c2 := hs.right.boolCell hlt
      have f2 := hs.right.boolFree q
      have h6 := hs.goes fun S h => rpool_set (j := q) true h
      rw [fN_step] at h6
      clear hs
      go_wp2_with fail
      go_round
      case rel => exact ⟨q + 1, by omega, by go_num, h6⟩
      case measure => simp [intOf]; omega
    · obtain rfl : q = n := by omega
      go_wp2_with fail
      go_ret2
      exact ⟨b, g, rfl, hs.conv fun S w h => rpool_congr (f := fN q) (fun j hj => by simp [fN, full, hj]) h⟩
theorem rpool_newI (n : Int) (w : World) (h1 : 0 ≤ n) (h2 : n ≤ 1024) :
    Calls Try.prog 13 #[.int .i64 n] w fun e w' => ∃ b g, e = .returned (.tuple #[.pointer (some ⟨b, 0, none⟩), .int .i64 0]) ∧ St w (RPool b g n.toNat full) w' := by
  have := rpool_new n.toNat w (by omega)
  rw [Int.toNat_of_nonneg h1] at this
  exact this
theorem rpool_new_no (n : Int) (w : World) (h : n < 0 ∨ 1024 < n) :
    Calls Try.prog 13 #[.int .i64 n] w fun e w' => e = .returned (.tuple #[.pointer none, .int .i64 1]) ∧ w = w' := by
  go_enter Try.func13, Try.ntmps13
  go_wp2_with fail
  all_goals
    go_ret2
    exact ⟨rfl, rfl⟩

set_option maxRecDepth 100000 in
set_option maxHeartbeats 1600000 in
theorem rpool_low {W w : World} {b g n : Nat} {f : Nat → Bool} {X : Thing} (k : Int) (hn : n ≤ 1024) (h : St W (Sep (RPool b g n f) X) w) :
    Calls Try.prog 16 #[.pointer (some ⟨b, 0, none⟩), .int .i64 k] w fun e w' => ∃ v, e = .returned v ∧ St W (Sep (Sep (RPool b g n (lowF f k.toNat n)) X) (RowT v (lowL f k.toNat n))) w' := by
  obtain ⟨i0, hi, hz0, hz1, hz2⟩ := info_parts Try.info3
  have h1 := h.nilRow
  go_enter Try.func16, Try.ntmps16
  go_wp2_with fail
  clear h
  go_loopw [5, 6] (fun u i w' => ∃ (q : Nat) (v : Value), q ≤ n ∧ u = v ∧ i = .int .i64 q ∧ St W (Sep (Sep (RPool b g n (lowF f k.toNat q)) X) (RowT v (lowL f k.toNat q))) w') (fun _ i _ => n - (intOf i).toNat)
  case atStart => exact ⟨0, _, Nat.zero_le _, rfl, rfl, h1⟩
  case round =>
    clear h1
    obtain ⟨q, v, hq, rfl, rfl, hs⟩ := hrel
    obtain ⟨a, c, rfl, hc1, hc2⟩ := slice_of_owns hs.right.row
    obtain ⟨S0, hS0⟩ : ∃ S, (RPool b g n (lowF f k.toNat q)).at_ S wr := by
      obtain ⟨⟨U, ⟨_, _, ⟨S, _, hS, _⟩, _⟩, _⟩, _⟩ := hs; exact ⟨S, hS⟩
    have c0 := rpool_cell hS0
    have hlen := lowL_len f k.toNat q
    have hcn := cnt_le q f
    by_cases hlt : q < n
    · obtain ⟨c2, f2⟩ := rpool_bit hS0 hlt
      rw [lowF_above (Nat.le_refl _)] at c2
      by_cases hfull : (lowL f k.toNat q).length < k.toNat
      · have hfi : ((lowL f k.toNat q).length : Int) < k := by omega
        cases hf : f q
        · have e1 : lowF f k.toNat (q + 1) = lowF f k.toNat q := by simp [lowF, hf]
          have e2 : lowL f k.toNat (q + 1) = lowL f k.toNat q := by simp [lowL, hf]
          rw [hf] at c2
          have H9 := Lib.hid (show St W (Sep (Sep (RPool b g n (lowF f k.toNat (q + 1))) X) (RowT _ (lowL f k.toNat (q + 1)))) wr by rw [e1, e2]; exact hs)
          clear hs hS0 hf hlen e1 e2
          go_wp2_with fail
          go_round
          case rel => exact ⟨q + 1, _, by omega, rfl, by go_num, H9.out⟩
          case measure => simp [intOf]; omega
        · rw [hf] at c2
          have hft : lowF f k.toNat q q = true := by rw [lowF_above (Nat.le_refl _)]; exact hf
          have e1 : lowF f k.toNat (q + 1) = setB (lowF f k.toNat q) q false := by simp [lowF, hf, hfull]
          have e2 : lowL f k.toNat (q + 1) = lowL f k.toNat q ++ [(q : Int)] := by simp [lowL, hf, hfull]
          have hlq : (lowL f k.toNat q).length ≤ 1000000 := by rw [hlen]; omega
          have E1 := Lib.hid e1
          have E2 := Lib.hid e2
          have h7 := hs.goes (w' := wr.setCell ⟨g, q, none⟩ (.bool false)) (goesL (goesL fun S h => rpool_set (j := q) false h))
          clear hs hS0 hf hlen e1 e2 hft
          generalize lowL f k.toNat q = l at *
          generalize hf' : lowF f k.toNat q = f' at *
          have HO := Lib.hid h7.right.row
          obtain ⟨w1, hw1⟩ : ∃ w1, w1 = wr.setCell ⟨g, q, none⟩ (.bool false) := ⟨_, rfl⟩
          have HW1 := Lib.hid hw1
          rw [← hw1] at h7 HO
          clear hw1
          go_upto_region 7 with fail
          rw [← HW1.out]
          clear HW1 c0 c2 f2
          go_wp2_with (at_builtin; refine wpList_push rfl _ _ 31 rfl 3 i0 (.int .i64 0) 8 Try.underlying31 hi hz0 hz1 hz2 rfl _ _ _ rfl (HO.out.alloc _) ⟨w1.heap.size, 0, none⟩ (.int .i64 (q : Int)) rfl ?c1 rfl hlq (by decide) ?_)
          case c1 => exact World.cell?_alloc_new _ _ _ 0
          intro v' w2 ho hg hbk
          have h8 := h7.goes (w' := w2) (goesR fun S h => row_push h ho hg (by simpa using hbk))
          have H9 := Lib.hid (show St W (Sep (Sep (RPool b g n (lowF f k.toNat (q + 1))) X) (RowT v' (lowL f k.toNat (q + 1)))) w2 by rw [E1.out, E2.out]; exact h8)
          clear h8 h7 HO ho hg hbk E1 E2 hf'
          go_wp2_with fail
          go_round
          case rel => exact ⟨q + 1, v', by omega, rfl, by go_num, H9.out⟩
          case measure => simp [intOf]; omega
      · have hfi : decide (((lowL f k.toNat q).length : Int) < k) = false := by simp; omega
        obtain ⟨d, hd⟩ : ∃ d, n = q + d := ⟨n - q, by omega⟩
        obtain ⟨e1, e2⟩ := lowL_full hfull d
        have H9 := Lib.hid (show St W (Sep (Sep (RPool b g n (lowF f k.toNat n)) X) (RowT _ (lowL f k.toNat n))) wr by rw [show lowF f k.toNat n = lowF f k.toNat q by rw [hd]; exact e2, show lowL f k.toNat n = lowL f k.toNat q by rw [hd]; exact e1]; exact hs)
        clear hs hS0 hlen e1 e2 hd
        go_wp2_with fail
        go_ret
        exact ⟨_, rfl, H9.out⟩
    · obtain rfl : q = n := by omega
      go_wp2_with fail
      go_ret
      exact ⟨_, rfl, hs⟩
set_option maxRecDepth 100000 in
set_option maxHeartbeats 3200000 in
theorem rpool_take {W w : World} {b g n : Nat} {f : Nat → Bool} {X : Thing} (k : Int) (hn : n ≤ 1024) (h : St W (Sep (RPool b g n f) X) w) :
    Calls Try.prog 14 #[.pointer (some ⟨b, 0, none⟩), .int .i64 k] w fun e w' => ∃ v, e = .returned (.tuple #[v, .bool (tkB n f k)]) ∧ St W (Sep (Sep (RPool b g n (tkF n f k)) X) (RowT v (tkL n f k))) w' := by
  obtain ⟨i0, hi, hz0, hz1, hz2⟩ := info_parts Try.info3
  have hcn := cnt_le n f
  have CF := Lib.hid (h.look (lookL fun S h => rpool_free hn h))
  by_cases hk : 1 ≤ k ∧ k ≤ cnt n f
  · have hB : tkB n f k = true := decide_eq_true hk
    have hk1 := hk.1
    have hk2 := hk.2
    rw [hB]
    cases hr : runOf n f k with
    | none =>
      have hL : tkL n f k = lowL f k.toNat n := by unfold tkL; rw [if_pos hk, hr]
      have hF : tkF n f k = lowF f k.toNat n := by unfold tkF; rw [if_pos hk, hr]
      have hv : rV n f k = 0 := by unfold rV; rw [hr]
      have hb : rB n f k = false := by unfold rB; rw [hr]; rfl
      rw [hL, hF]
      have C1 := Lib.hid (h.look (lookL fun S h => rpool_run k hn h))
      rw [hv, hb] at C1
      have C2 := Lib.hid (rpool_low k hn h)
      clear h hB hr hL hF hv hb hk
      generalize cnt n f = ct at *
      go_enter Try.func14, Try.ntmps14
      go_wp2_with fail
      with_reducible refine CF.out.mono ?_
      rintro e w0 ⟨rfl, rfl⟩
      clear CF
      go_wp2_with fail
      with_reducible refine C1.out.mono ?_
      rintro e w1 ⟨rfl, rfl⟩
      clear C1
      go_wp2_with fail
      with_reducible refine C2.out.mono ?_
      rintro e w1 ⟨v, rfl, h7⟩
      clear C2
      go_wp2_with fail
      go_ret2
      exact ⟨v, rfl, h7⟩
    | some a =>
      have hL : tkL n f k = rnL a k.toNat := by unfold tkL; rw [if_pos hk, hr]
      have hF : tkF n f k = rnF f a k.toNat := by unfold tkF; rw [if_pos hk, hr]
      have hv : rV n f k = a := by unfold rV; rw [hr]
      have hb : rB n f k = true := by unfold rB; rw [hr]; rfl
      obtain ⟨-, ha, hrun, -⟩ := best_some hr
      rw [hL, hF]
      have C1 := Lib.hid (h.look (lookL fun S h => rpool_run k hn h))
      rw [hv, hb] at C1
      have h1 := h.nilRow
      obtain ⟨K, rfl⟩ : ∃ K : Nat, k = (K : Int) := ⟨k.toNat, by omega⟩
      rw [show (K : Int).toNat = K from rfl] at *
      have HR := Lib.hid hrun
      clear h hB hr hL hF hv hb hk hrun
      generalize cnt n f = ct at *
      go_enter Try.func14, Try.ntmps14
      go_wp2_with fail
      with_reducible refine CF.out.mono ?_
      rintro e w0 ⟨rfl, rfl⟩
      clear CF
      go_wp2_with fail
      with_reducible refine C1.out.mono ?_
      rintro e w1 ⟨rfl, rfl⟩
      clear C1
      go_wp2_with fail
      go_loopw [8, 9] (fun u i w' => ∃ (m : Nat) (v : Value), m ≤ K ∧ u = v ∧ i = .int .i64 ((a : Int) + m) ∧ St W (Sep (Sep (RPool b g n (rnF f a m)) X) (RowT v (rnL a m))) w') (fun _ i _ => a + K - (intOf i).toNat)
      case atStart => exact ⟨0, _, Nat.zero_le _, rfl, by simp, h1⟩
      case round =>
        clear h1
        obtain ⟨m, v, hm, rfl, rfl, hs⟩ := hrel
        obtain ⟨av, c, rfl, hc1, hc2⟩ := slice_of_owns hs.right.row
        by_cases hlt : m < K
        · have hft : rnF f a m (a + m) = true := by rw [rnF_is, HR.out m hlt]; simp
          have hlq : (rnL a m).length ≤ 1000000 := by rw [rnL_len]; omega
          have hlen := rnL_len a m
          obtain ⟨S0, hS0⟩ : ∃ S, (RPool b g n (rnF f a m)).at_ S wr := by
            obtain ⟨⟨U, ⟨_, _, ⟨S, _, hS, _⟩, _⟩, _⟩, _⟩ := hs; exact ⟨S, hS⟩
          have c0 := rpool_cell hS0
          obtain ⟨c2, f2⟩ := rpool_bit hS0 (show a + m < n by omega)
          have h7 := hs.goes (w' := wr.setCell ⟨g, a + m, none⟩ (.bool false)) (goesL (goesL fun S h => rpool_set (j := a + m) false h))
          clear hS0
          have hamn : (a : Int) + m < n := by omega
          have E2 := Lib.hid (show rnL a (m + 1) = rnL a m ++ [((a + m : Nat) : Int)] from rfl)
          have E1 := Lib.hid (show rnF f a (m + 1) = setB (rnF f a m) (a + m) false from rfl)
          rw [show ((a + m : Nat) : Int) = (a : Int) + m by omega] at E2
          clear hs hft hlen
          generalize rnL a m = l at *
          generalize hf' : rnF f a m = f' at *
          have HO := Lib.hid h7.right.row
          obtain ⟨w1, hw1⟩ : ∃ w1, w1 = wr.setCell ⟨g, a + m, none⟩ (.bool false) := ⟨_, rfl⟩
          have HW1 := Lib.hid hw1
          rw [← hw1] at h7 HO
          clear hw1
          go_upto_region 11 with fail
          rw [← HW1.out]
          clear HW1 c0 c2 f2
          go_wp2_with (at_builtin; refine wpList_push rfl _ _ 31 rfl 3 i0 (.int .i64 0) 8 Try.underlying31 hi hz0 hz1 hz2 rfl _ _ _ rfl (HO.out.alloc _) ⟨w1.heap.size, 0, none⟩ (.int .i64 ((a : Int) + m)) rfl ?c1 rfl hlq (by decide) ?_)
          case c1 => exact World.cell?_alloc_new _ _ _ 0
          intro v' w2 ho hg hbk
          have h8 := h7.goes (w' := w2) (goesR fun S h => row_push h ho hg (by simpa using hbk))
          have H9 := Lib.hid (show St W (Sep (Sep (RPool b g n (rnF f a (m + 1))) X) (RowT v' (rnL a (m + 1)))) w2 by rw [E1.out, E2.out]; exact h8)
          clear h8 h7 HO ho hg hbk E1 E2 hf'
          go_wp2_with fail
          go_round
          case rel => exact ⟨m + 1, v', by omega, rfl, by go_num, H9.out⟩
          case measure => simp [intOf]; omega
        · obtain rfl : m = K := by omega
          go_wp2_with fail
          go_ret2
          exact ⟨_, rfl, hs⟩
  · have hB : tkB n f k = false := decide_eq_false hk
    have hL : tkL n f k = [] := by unfold tkL; rw [if_neg hk]
    have hF : tkF n f k = f := by unfold tkF; rw [if_neg hk]
    rw [hB, hL, hF]
    have HS := Lib.hid h.nilRow
    clear h hB hL hF
    generalize cnt n f = ct at *
    by_cases hk1 : 1 ≤ k
    · have hgt : (ct : Int) < k := by omega
      clear hk
      go_enter Try.func14, Try.ntmps14
      go_wp2_with fail
      with_reducible refine CF.out.mono ?_
      rintro e w0 ⟨rfl, rfl⟩
      clear CF
      go_wp2_with fail
      go_ret2
      exact ⟨_, rfl, HS.out⟩
    · have hlt : k < 1 := by omega
      clear hk hk1
      go_enter Try.func14, Try.ntmps14
      go_wp2_with fail
      go_ret2
      exact ⟨_, rfl, HS.out⟩
end Go.Proofs.Ytblallfidjkikaa
