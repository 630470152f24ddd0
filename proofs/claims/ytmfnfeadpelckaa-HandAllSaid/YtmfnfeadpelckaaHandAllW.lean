/- The walk of HandAll. -/
import Derived.Test.YtmfnfeadpelckaaHandRoundsW
import Derived.Deep.CutBlock
namespace Go.Proofs.Ytmfnfeadpelckaa
open Go.RowKit
set_option linter.unusedVariables false

set_option maxRecDepth 100000 in
set_option maxHeartbeats 800000 in
theorem handAll_no (n s : Int) (a1 a3 : Option Addr) (len1 cap1 len3 cap3 : Nat) (W : World) (hm : n < 1 ∨ 16 < n) :
    Calls Try.prog 5 #[.int .i64 n, .slice a1 len1 cap1, .int .i64 s, .slice a3 len3 cap3] W fun e w' => e = .returned (.bool true) ∧ Below W.heap.size W w' := by
  go_enter Try.func5, Try.ntmps5
  go_wp2_with fail
  with_reducible refine (hand_first _).mono ?_
  rintro e wa ⟨rfl, hb0⟩
  go_wp2_with fail
  with_reducible refine (hand_new_no n _ hm).mono ?_
  rintro e wb ⟨rfl, rfl⟩
  clear hm
  go_wp2_with fail
  with_reducible refine (hand_first _).mono ?_
  rintro e wa ⟨rfl, hb1⟩
  go_wp2_with fail
  go_ret
  exact ⟨rfl, hb0.trans (hb1.mono hb0.size)⟩

set_option maxRecDepth 100000 in
set_option maxHeartbeats 3200000 in
theorem handAll_out (n s : Int) (a1 a3 : Option Addr) (len1 cap1 len3 cap3 : Nat) (W : World) (h0 : 1 ≤ n) (h1 : n ≤ 16) (hl1 : len1 ≤ maxLen) (hm : (len1 : Int) < n ∨ s < 1 ∨ 4 < s ∨ 300 < (len3 : Int)) :
    Calls Try.prog 5 #[.int .i64 n, .slice a1 len1 cap1, .int .i64 s, .slice a3 len3 cap3] W fun e w' => e = .returned (.bool true) ∧ Below W.heap.size W w' := by
  unfold maxLen at hl1
  go_enter Try.func5, Try.ntmps5
  go_wp2_with fail
  with_reducible refine (hand_first _).mono ?_
  rintro e wa ⟨rfl, hb0⟩
  go_wp2_with fail
  with_reducible refine (hand_newI n _ h0 h1).mono ?_
  rintro e wb ⟨bh, g, rfl, hs⟩
  have hs := hs.onward hb0
  go_wp2_with fail
  all_goals
    with_reducible refine (hand_first _).mono ?_
    rintro e wa ⟨rfl, hb1⟩
    go_wp2_with fail
    go_ret
    exact ⟨rfl, (hs.later hb1).below⟩

/-- The first q joined, those who are there. -/
def jt (q : Nat) (z : List Bool) : Nat → Int := fun j => if j < q && z.getD j false then 0 else -1
def jo (q : Nat) (z : List Bool) : Nat → Bool := fun j => j < q && z.getD j false
theorem jt_step {q : Nat} {z : List Bool} (h : z.getD q false = true) : setI (jt q z) q 0 = jt (q + 1) z := by
  funext k
  by_cases e : k = q
  · subst e; simp [setI, jt] at *; simp [h]
  · have : (k < q + 1) ↔ (k < q) := by omega
    simp [setI, jt, e, this]
theorem jo_step {q : Nat} {z : List Bool} (h : z.getD q false = true) : setB (jo q z) q true = jo (q + 1) z := by
  funext k
  by_cases e : k = q
  · subst e; simp [setB, jo] at *; simp [h]
  · have : (k < q + 1) ↔ (k < q) := by omega
    simp [setB, jo, e, this]
theorem jt_skip {q : Nat} {z : List Bool} (h : z.getD q false = false) : jt q z = jt (q + 1) z := by
  funext k
  by_cases e : k = q
  · subst e; simp [jt] at *; simp [h]
  · have : (k < q + 1) ↔ (k < q) := by omega
    simp [jt, this]
theorem jo_skip {q : Nat} {z : List Bool} (h : z.getD q false = false) : jo q z = jo (q + 1) z := by
  funext k
  by_cases e : k = q
  · subst e; simp [jo] at *; simp [h]
  · have : (k < q + 1) ↔ (k < q) := by omega
    simp [jo, this]
/-- Who owes an answer, who does not. -/
def Owes (n : Nat) (s : Int) (own : Nat → Int) (m : Nat → Bool) : Prop := ∀ j, j < n → (m j = true ∧ own j = 0) ∨ (m j = false ∧ (own j = -1 ∨ own j = s))
theorem owes_first (n : Nat) (s : Int) (z : List Bool) : Owes n s (jt n z) (jo n z) := by
  intro j hj
  by_cases h : z.getD j false = true
  · left; simp [jt, jo, hj] at *; simp [h]
  · right; simp [jt, jo, hj] at *; simp [h]
theorem owes_set {n j : Nat} {s x : Int} {own : Nat → Int} {m : Nat → Bool} (h : Owes n s own m) (hx : x = -1 ∨ x = s) : Owes n s (setI own j x) (setB m j false) := by
  intro k hk
  by_cases e : k = j
  · subst e; right; simp [setI, setB, hx]
  · simpa [setI, setB, e] using h k hk
theorem owes_join {n j : Nat} {s : Int} {own : Nat → Int} {m : Nat → Bool} (h : Owes n s own m) (hj : j < n) (ho : own j = -1) : m j = false ∧ Owes n s (setI own j s) m := by
  have hm : m j = false := by rcases h j hj with ⟨_, h0⟩ | ⟨h0, _⟩; · omega
                              · exact h0
  refine ⟨hm, ?_⟩
  intro k hk
  by_cases e : k = j
  · subst e; right; simp [setI, hm]
  · simpa [setI, e] using h k hk
theorem owes_poll {n j : Nat} {s : Int} {own : Nat → Int} {m : Nat → Bool} (h : Owes n s own m) (hs : 1 ≤ s) (hj : j < n) : (hSt n own j == -1 || hSt n own j == s) = !m j := by
  rw [hSt_in hj]
  rcases h j hj with ⟨h1, h2⟩ | ⟨h1, h2 | h2⟩
  · rw [h1, h2]
    have : ((0 : Int) == s) = false := by simp; omega
    simp [this]
  · rw [h1, h2]; simp
  · rw [h1, h2]; simp

set_option maxRecDepth 100000 in
set_option maxHeartbeats 6400000 in
theorem handAll_walk (n : Nat) (s : Int) (a1 a3 : Option Addr) (len1 cap1 len3 cap3 : Nat) (z1 : List Bool) (z3 : List Int) (W : World) (w1 : IsBools W a1 len1 z1) (w3 : IsRow .i64 W a3 len3 cap3 z3)
    (h1 : 1 ≤ (n : Int)) (h2 : (n : Int) ≤ 16) (hl1 : (n : Int) ≤ len1) (hs1 : 1 ≤ s) (hs4 : s ≤ 4) (h4 : (len3 : Int) ≤ 300) :
    Calls Try.prog 5 #[.int .i64 n, .slice a1 len1 cap1, .int .i64 s, .slice a3 len3 cap3] W fun e w' => e = .returned (.bool true) ∧ Below W.heap.size W w' := by
  have hmx := w1.1
  have hdl : decide (len1 < n) = false := by simp; omega
  unfold maxLen at hmx
  go_enter Try.func5, Try.ntmps5
  go_wp2_with fail
  with_reducible refine (hand_first _).mono ?_
  rintro e wa ⟨rfl, hb0⟩
  go_wp2_with fail
  with_reducible refine (hand_new n _ (by omega) (by omega)).mono ?_
  rintro e wb ⟨bh, g, rfl, hs⟩
  have hs := hs.onward hb0
  clear hb0
  go_wp2_with fail
  clear hdl
  have h6 := false16 hs
  generalize hQ : wb.heap.size = Q at h6 ⊢
  generalize hW2 : wb.alloc _ = W2 at h6 ⊢
  clear hs hQ hW2
  go_loopw [12] (fun k w => ∃ (q : Nat) (ct : Int), q ≤ n ∧ k = .int .i64 q ∧ 0 ≤ ct ∧ ct ≤ q ∧ St W (Sep (Hnd bh g n 0 false (jt q z1) ct) (Bools Q 16 32 (jo q z1))) w) (fun k _ => n - (intOf k).toNat)
  case atStart => 
    refine ⟨0, _, Nat.zero_le _, rfl, Int.le_refl _, Int.le_refl _, ?_⟩
    rw [show jo 0 z1 = fun _ => false by funext k; simp [jo], show jt 0 z1 = gone by funext k; simp [jt, gone]]
    exact h6
  case round =>
    clear h6
    obtain ⟨q, ct, hq, rfl, hct0, hct1, hs⟩ := hrel
    by_cases hlt : q < n
    · obtain ⟨ab1, off1, rfl, hab1, hc1⟩ := w1.2.2 q (by omega)
      have hcl := (hs.below.cell (p := ⟨ab1, off1 + q, none⟩) hab1).trans hc1
      have hq1 : q < len1 := by omega
      have hq16 : q < 16 := by omega
      cases hz : z1.getD q false
      · rw [hz] at hcl
        rw [jt_skip hz, jo_skip hz] at hs
        clear hc1
        go_wp2_with fail
        go_round
        case rel => exact ⟨q + 1, _, by omega, by go_num, hct0, by omega, hs⟩
        case measure => simp [intOf]; omega
      · rw [hz] at hcl
        clear hc1
        go_wp2_with fail
        with_reducible refine (hs.call (sepL fun S h => hand_join q hlt (by omega) (by simp [jt]) hct0 (by omega) h)).mono ?_
        rintro e w3 ⟨rfl, h5⟩
        have hfj := h5.right.boolFree q
        have hmj := h5.right.boolCell hq16
        have h6 := h5.goes (w' := w3.setCell ⟨Q, q, none⟩ (.bool true)) (goesR fun S h => bools_set h q true)
        rw [jt_step hz, jo_step hz] at h6
        clear hs hcl h5
        go_wp2_with fail
        go_round
        case rel => exact ⟨q + 1, _, by omega, by go_num, by omega, by omega, h6⟩
        case measure => simp [intOf]; omega
    · obtain rfl : q = n := by omega
      clear hmx
      go_wp2_with fail
      with_reducible refine (hs.call (sepL fun S h => hand_post s true (by omega) hs4 hct0 (by omega) h)).mono ?_
      rintro e w4 ⟨rfl, h6⟩
      rw [show (false != true) = true from rfl] at h6
      clear hs
      go_wp2_with fail
      go_loopw [16] (fun k w => ∃ (c : Nat) (own : Nat → Int) (m : Nat → Bool) (ct : Int), c ≤ len3 ∧ k = .int .i64 c ∧ Owes q s own m ∧ 0 ≤ ct ∧ ct ≤ 20 + 20 * c ∧ St W (Sep (Hnd bh g q s true own ct) (Bools Q 16 32 m)) w) (fun k _ => len3 - (intOf k).toNat)
      case atStart => exact ⟨0, _, _, _, Nat.zero_le _, rfl, owes_first q s z1, by omega, by omega, h6⟩
      case round =>
        clear h6 hct0 hct1
        obtain ⟨c, own, m, ct, hc, rfl, ho, hct0, hct1, hs⟩ := hrel
        by_cases hlt : c < len3
        · obtain ⟨ab, off, x, rfl, hab, hx, hc0⟩ := w3.at_ hlt
          clear hx
          have hcl := (hs.below.cell (p := ⟨ab, off + c, none⟩) hab).trans hc0
          by_cases hin : tIn q (x / 4)
          · have hin1 := hin.1
            have hin2 := hin.2
            go_upto_block 4 with fail
            generalize bits BinOp.and IntKind.i64 x 3 = a
            generalize x / 4 = t at *
            obtain ⟨j, rfl⟩ : ∃ j : Nat, t = (j : Int) := ⟨t.toNat, by omega⟩
            have hj : j < q := by omega
            have hj16 : j < 16 := by omega
            clear hcl hin hin1 hin2
            go_cut [16] (fun k w => k = .int .i64 c ∧ ∃ own m ct', Owes q s own m ∧ 0 ≤ ct' ∧ ct' ≤ ct + 1 ∧ St W (Sep (Hnd bh g q s true own ct') (Bools Q 16 32 m)) w)
            case first =>
              by_cases a0 : a = 0
              · subst a0
                by_cases hoj : own j = -1
                · go_wp2_with fail
                  with_reducible refine (hs.call (sepL fun S h => hand_answer_no j s (by omega) (.inl (by rw [hSt_in hj]; exact hoj)) hct0 (by omega) h)).mono ?_
                  rintro e w5 ⟨rfl, h5⟩
                  clear hs hoj
                  have HO := Lib.hid ho
                  clear ho
                  go_wp2_with fail
                  go_meet
                  exact ⟨rfl, own, m, _, HO.out, by omega, by omega, h5⟩
                · go_wp2_with fail
                  with_reducible refine (hs.call (sepL fun S h => hand_answer j s hj (by omega) hoj (by omega) hs4 hct0 (by omega) h)).mono ?_
                  rintro e w5 ⟨rfl, h5⟩
                  have hfj := h5.right.boolFree j
                  have hmj := h5.right.boolCell hj16
                  have h6 := h5.goes (w' := w5.setCell ⟨Q, j, none⟩ (.bool false)) (goesR fun S h => bools_set h j false)
                  have HO := Lib.hid (owes_set (j := j) ho (.inr rfl))
                  clear hs h5 hoj ho
                  go_wp2_with fail
                  go_meet
                  exact ⟨rfl, _, _, _, HO.out, by omega, by omega, h6⟩
              have b0 : (a == 0) = false := by simpa using a0
              clear a0
              by_cases a1 : a = 1
              · subst a1
                clear b0
                by_cases hoj : own j = -1
                · go_wp2_with fail
                  with_reducible refine (hs.call (sepL fun S h => hand_leave_no j (by omega) (by rw [hSt_in hj]; exact hoj) hct0 (by omega) h)).mono ?_
                  rintro e w5 ⟨rfl, h5⟩
                  clear hs hoj
                  have HO := Lib.hid ho
                  clear ho
                  go_wp2_with fail
                  go_meet
                  exact ⟨rfl, own, m, _, HO.out, by omega, by omega, h5⟩
                · go_wp2_with fail
                  with_reducible refine (hs.call (sepL fun S h => hand_leave j hj (by omega) hoj hct0 (by omega) h)).mono ?_
                  rintro e w5 ⟨rfl, h5⟩
                  have hfj := h5.right.boolFree j
                  have hmj := h5.right.boolCell hj16
                  have h6 := h5.goes (w' := w5.setCell ⟨Q, j, none⟩ (.bool false)) (goesR fun S h => bools_set h j false)
                  have HO := Lib.hid (owes_set (j := j) ho (.inl rfl))
                  clear hs h5 hoj ho
                  go_wp2_with fail
                  go_meet
                  exact ⟨rfl, _, _, _, HO.out, by omega, by omega, h6⟩
              have b1 : (a == 1) = false := by simpa using a1
              clear a1
              by_cases a2 : a = 2
              · subst a2
                clear b0 b1
                by_cases hoj : own j = -1
                · go_wp2_with fail
                  with_reducible refine (hs.call (sepL fun S h => hand_join j hj (by omega) hoj hct0 (by omega) h)).mono ?_
                  rintro e w5 ⟨rfl, h5⟩
                  obtain ⟨hmf, ho2⟩ := owes_join ho hj hoj
                  have hmj := h5.right.boolCell hj16
                  rw [hmf] at hmj
                  have HO := Lib.hid ho2
                  clear hs hoj ho ho2 hmf
                  go_wp2_with fail
                  go_meet
                  exact ⟨rfl, _, _, _, HO.out, by omega, by omega, h5⟩
                · go_wp2_with fail
                  with_reducible refine (hs.call (sepL fun S h => hand_join_no j hj (by omega) hoj hct0 (by omega) h)).mono ?_
                  rintro e w5 ⟨rfl, h5⟩
                  clear hs hoj
                  have HO := Lib.hid ho
                  clear ho
                  go_wp2_with fail
                  go_meet
                  exact ⟨rfl, own, m, _, HO.out, by omega, by omega, h5⟩
              have b2 : (a == 2) = false := by simpa using a2
              clear a2
              have HO := Lib.hid ho
              clear ho
              go_wp2_with fail
              go_meet
              exact ⟨rfl, own, m, _, HO.out, by omega, by omega, hs⟩
            case rest =>
              clear hs ho
              obtain ⟨rfl, own, m, ct2, ho, hct2, hct3, h7⟩ := hcut
              go_wp2_with fail
              go_loopw [22] (fun k w => ∃ (d : Nat) (ct' : Int), d ≤ q ∧ k = .int .i64 d ∧ 0 ≤ ct' ∧ ct' ≤ ct2 + d ∧ St W (Sep (Hnd bh g q s true own ct') (Bools Q 16 32 m)) w) (fun k _ => q - (intOf k).toNat)
              case atStart => exact ⟨0, _, Nat.zero_le _, rfl, by omega, by omega, h7⟩
              case round =>
                clear h7
                obtain ⟨d, ct', hd, rfl, hk0, hk1, hs⟩ := hrel
                by_cases hld : d < q
                · have hd16 : d < 16 := by omega
                  have hdI : (d : Int) < 16 := by omega
                  have hmd := hs.right.boolCell hd16
                  have C1 : Hid (Calls Try.prog 10 #[.pointer (some ⟨bh, 0, none⟩), .int .i64 (d : Int)] wr.drew fun e w' => e = .returned (.bool (!m d)) ∧ St W (Sep (Hnd bh g q s true own (ct' + 1)) (Bools Q 16 32 m)) w' ∧ w'.cell? ⟨Q, d, none⟩ = some (.bool (m d))) := by
                    have := (hs.drewN 1).call (sepL fun S h => hand_poll d (by omega) hk0 (by omega) h)
                    rw [owes_poll ho hs1 hld] at this
                    exact this.mono fun e w' ⟨he, h⟩ => ⟨he, h, h.right.boolCell (show d < 16 by omega)⟩
                  have HO := Lib.hid ho
                  clear hs ho
                  generalize hv : m d = v at C1 hmd
                  clear hv
                  cases v
                  · go_wp2_with fail
                    go_region_held3 (fun w' => w'.cell? ⟨Q, d, none⟩ = some (.bool false)) (first | exact hmd | exact x7) (first | (go_at_call 10; refine C1.out.mono ?_; rintro e w7 ⟨rfl, h7, x7⟩))
                    all_goals
                      clear C1 hmd x7
                      go_wp2_with fail
                      go_round
                      case rel => exact ⟨d + 1, _, by omega, by go_num, by omega, by omega, h7⟩
                      case measure => simp [intOf]; omega
                  · go_wp2_with fail
                    go_region_held3 (fun w' => w'.cell? ⟨Q, d, none⟩ = some (.bool true)) (first | exact hmd | exact x7) (first | (go_at_call 10; refine C1.out.mono ?_; rintro e w7 ⟨rfl, h7, x7⟩))
                    all_goals
                      clear C1 hmd x7
                      go_wp2_with fail
                      go_round
                      case rel => exact ⟨d + 1, _, by omega, by go_num, by omega, by omega, h7⟩
                      case measure => simp [intOf]; omega
                · obtain rfl : d = q := by omega
                  go_wp2_with fail
                  go_round
                  case rel => exact ⟨c + 1, own, m, _, by omega, by go_num, ho, by omega, by omega, hs⟩
                  case measure => simp [intOf]; omega
          by_cases hneg : 0 ≤ x / 4
          · have d1 : decide (x / 4 < (q : Int)) = false := by unfold tIn at hin; simp; omega
            clear hin
            go_upto_block 4 with fail
            generalize bits BinOp.and IntKind.i64 x 3 = a
            generalize x / 4 = t at *
            clear hcl
            go_cut [16] (fun k w => k = .int .i64 c ∧ ∃ own m ct', Owes q s own m ∧ 0 ≤ ct' ∧ ct' ≤ ct + 1 ∧ St W (Sep (Hnd bh g q s true own ct') (Bools Q 16 32 m)) w)
            case first =>
              have HO := Lib.hid ho
              clear ho
              by_cases a0 : a = 0
              · subst a0
                go_wp2_with fail
                go_meet
                exact ⟨rfl, own, m, _, HO.out, by omega, by omega, hs⟩
              have b0 : (a == 0) = false := by simpa using a0
              clear a0
              by_cases a1 : a = 1
              · subst a1
                clear b0
                go_wp2_with fail
                go_meet
                exact ⟨rfl, own, m, _, HO.out, by omega, by omega, hs⟩
              have b1 : (a == 1) = false := by simpa using a1
              clear a1
              by_cases a2 : a = 2
              · subst a2
                clear b0 b1
                go_wp2_with fail
                go_meet
                exact ⟨rfl, own, m, _, HO.out, by omega, by omega, hs⟩
              have b2 : (a == 2) = false := by simpa using a2
              clear a2
              go_wp2_with fail
              go_meet
              exact ⟨rfl, own, m, _, HO.out, by omega, by omega, hs⟩
            case rest =>
              clear hs ho
              obtain ⟨rfl, own, m, ct2, ho, hct2, hct3, h7⟩ := hcut
              go_wp2_with fail
              go_loopw [22] (fun k w => ∃ (d : Nat) (ct' : Int), d ≤ q ∧ k = .int .i64 d ∧ 0 ≤ ct' ∧ ct' ≤ ct2 + d ∧ St W (Sep (Hnd bh g q s true own ct') (Bools Q 16 32 m)) w) (fun k _ => q - (intOf k).toNat)
              case atStart => exact ⟨0, _, Nat.zero_le _, rfl, by omega, by omega, h7⟩
              case round =>
                clear h7
                obtain ⟨d, ct', hd, rfl, hk0, hk1, hs⟩ := hrel
                by_cases hld : d < q
                · have hd16 : d < 16 := by omega
                  have hdI : (d : Int) < 16 := by omega
                  have hmd := hs.right.boolCell hd16
                  have C1 : Hid (Calls Try.prog 10 #[.pointer (some ⟨bh, 0, none⟩), .int .i64 (d : Int)] wr.drew fun e w' => e = .returned (.bool (!m d)) ∧ St W (Sep (Hnd bh g q s true own (ct' + 1)) (Bools Q 16 32 m)) w' ∧ w'.cell? ⟨Q, d, none⟩ = some (.bool (m d))) := by
                    have := (hs.drewN 1).call (sepL fun S h => hand_poll d (by omega) hk0 (by omega) h)
                    rw [owes_poll ho hs1 hld] at this
                    exact this.mono fun e w' ⟨he, h⟩ => ⟨he, h, h.right.boolCell (show d < 16 by omega)⟩
                  have HO := Lib.hid ho
                  clear hs ho
                  generalize hv : m d = v at C1 hmd
                  clear hv
                  cases v
                  · go_wp2_with fail
                    go_region_held3 (fun w' => w'.cell? ⟨Q, d, none⟩ = some (.bool false)) (first | exact hmd | exact x7) (first | (go_at_call 10; refine C1.out.mono ?_; rintro e w7 ⟨rfl, h7, x7⟩))
                    all_goals
                      clear C1 hmd x7
                      go_wp2_with fail
                      go_round
                      case rel => exact ⟨d + 1, _, by omega, by go_num, by omega, by omega, h7⟩
                      case measure => simp [intOf]; omega
                  · go_wp2_with fail
                    go_region_held3 (fun w' => w'.cell? ⟨Q, d, none⟩ = some (.bool true)) (first | exact hmd | exact x7) (first | (go_at_call 10; refine C1.out.mono ?_; rintro e w7 ⟨rfl, h7, x7⟩))
                    all_goals
                      clear C1 hmd x7
                      go_wp2_with fail
                      go_round
                      case rel => exact ⟨d + 1, _, by omega, by go_num, by omega, by omega, h7⟩
                      case measure => simp [intOf]; omega
                · obtain rfl : d = q := by omega
                  go_wp2_with fail
                  go_round
                  case rel => exact ⟨c + 1, own, m, _, by omega, by go_num, ho, by omega, by omega, hs⟩
                  case measure => simp [intOf]; omega
          · clear hin
            have d1 : decide (0 ≤ x / 4) = false := by simpa using hneg
            go_upto_block 4 with fail
            generalize bits BinOp.and IntKind.i64 x 3 = a
            generalize x / 4 = t at *
            clear hcl
            go_cut [16] (fun k w => k = .int .i64 c ∧ ∃ own m ct', Owes q s own m ∧ 0 ≤ ct' ∧ ct' ≤ ct + 1 ∧ St W (Sep (Hnd bh g q s true own ct') (Bools Q 16 32 m)) w)
            case first =>
              have HO := Lib.hid ho
              clear ho
              by_cases a0 : a = 0
              · subst a0
                go_wp2_with fail
                go_meet
                exact ⟨rfl, own, m, _, HO.out, by omega, by omega, hs⟩
              have b0 : (a == 0) = false := by simpa using a0
              clear a0
              by_cases a1 : a = 1
              · subst a1
                clear b0
                go_wp2_with fail
                go_meet
                exact ⟨rfl, own, m, _, HO.out, by omega, by omega, hs⟩
              have b1 : (a == 1) = false := by simpa using a1
              clear a1
              by_cases a2 : a = 2
              · subst a2
                clear b0 b1
                go_wp2_with fail
                go_meet
                exact ⟨rfl, own, m, _, HO.out, by omega, by omega, hs⟩
              have b2 : (a == 2) = false := by simpa using a2
              clear a2
              go_wp2_with fail
              go_meet
              exact ⟨rfl, own, m, _, HO.out, by omega, by omega, hs⟩
            case rest =>
              clear hs ho
              obtain ⟨rfl, own, m, ct2, ho, hct2, hct3, h7⟩ := hcut
              go_wp2_with fail
              go_loopw [22] (fun k w => ∃ (d : Nat) (ct' : Int), d ≤ q ∧ k = .int .i64 d ∧ 0 ≤ ct' ∧ ct' ≤ ct2 + d ∧ St W (Sep (Hnd bh g q s true own ct') (Bools Q 16 32 m)) w) (fun k _ => q - (intOf k).toNat)
              case atStart => exact ⟨0, _, Nat.zero_le _, rfl, by omega, by omega, h7⟩
              case round =>
                clear h7
                obtain ⟨d, ct', hd, rfl, hk0, hk1, hs⟩ := hrel
                by_cases hld : d < q
                · have hd16 : d < 16 := by omega
                  have hdI : (d : Int) < 16 := by omega
                  have hmd := hs.right.boolCell hd16
                  have C1 : Hid (Calls Try.prog 10 #[.pointer (some ⟨bh, 0, none⟩), .int .i64 (d : Int)] wr.drew fun e w' => e = .returned (.bool (!m d)) ∧ St W (Sep (Hnd bh g q s true own (ct' + 1)) (Bools Q 16 32 m)) w' ∧ w'.cell? ⟨Q, d, none⟩ = some (.bool (m d))) := by
                    have := (hs.drewN 1).call (sepL fun S h => hand_poll d (by omega) hk0 (by omega) h)
                    rw [owes_poll ho hs1 hld] at this
                    exact this.mono fun e w' ⟨he, h⟩ => ⟨he, h, h.right.boolCell (show d < 16 by omega)⟩
                  have HO := Lib.hid ho
                  clear hs ho
                  generalize hv : m d = v at C1 hmd
                  clear hv
                  cases v
                  · go_wp2_with fail
                    go_region_held3 (fun w' => w'.cell? ⟨Q, d, none⟩ = some (.bool false)) (first | exact hmd | exact x7) (first | (go_at_call 10; refine C1.out.mono ?_; rintro e w7 ⟨rfl, h7, x7⟩))
                    all_goals
                      clear C1 hmd x7
                      go_wp2_with fail
                      go_round
                      case rel => exact ⟨d + 1, _, by omega, by go_num, by omega, by omega, h7⟩
                      case measure => simp [intOf]; omega
                  · go_wp2_with fail
                    go_region_held3 (fun w' => w'.cell? ⟨Q, d, none⟩ = some (.bool true)) (first | exact hmd | exact x7) (first | (go_at_call 10; refine C1.out.mono ?_; rintro e w7 ⟨rfl, h7, x7⟩))
                    all_goals
                      clear C1 hmd x7
                      go_wp2_with fail
                      go_round
                      case rel => exact ⟨d + 1, _, by omega, by go_num, by omega, by omega, h7⟩
                      case measure => simp [intOf]; omega
                · obtain rfl : d = q := by omega
                  go_wp2_with fail
                  go_round
                  case rel => exact ⟨c + 1, own, m, _, by omega, by go_num, ho, by omega, by omega, hs⟩
                  case measure => simp [intOf]; omega
        · obtain rfl : c = len3 := by omega
          go_wp2_with fail
          with_reducible refine (hand_first _).mono ?_
          rintro e w6 ⟨rfl, hb1⟩
          go_wp2_with fail
          go_ret
          exact ⟨rfl, (hs.later hb1).below⟩
theorem handAll_all (n s : Int) (a1 a3 : Option Addr) (len1 cap1 len3 cap3 : Nat) (z1 : List Bool) (z3 : List Int) (W : World) (w1 : IsBools W a1 len1 z1) (w3 : IsRow .i64 W a3 len3 cap3 z3) :
    Calls Try.prog 5 #[.int .i64 n, .slice a1 len1 cap1, .int .i64 s, .slice a3 len3 cap3] W fun e w' => e = .returned (.bool true) ∧ Below W.heap.size W w' := by
  by_cases hm : n < 1 ∨ 16 < n
  · exact handAll_no n s a1 a3 len1 cap1 len3 cap3 W hm
  by_cases hm2 : (len1 : Int) < n ∨ s < 1 ∨ 4 < s ∨ 300 < (len3 : Int)
  · exact handAll_out n s a1 a3 len1 cap1 len3 cap3 W (by omega) (by omega) w1.1 hm2
  obtain ⟨k, rfl⟩ : ∃ k : Nat, n = (k : Int) := ⟨n.toNat, by omega⟩
  exact handAll_walk k s a1 a3 len1 cap1 len3 cap3 z1 z3 W w1 w3 (by omega) (by omega) (by omega) (by omega) (by omega) (by omega)
end Go.Proofs.Ytmfnfeadpelckaa
