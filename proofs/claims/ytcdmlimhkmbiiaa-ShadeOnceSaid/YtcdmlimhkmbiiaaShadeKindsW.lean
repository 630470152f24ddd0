/- The walk of ShadeKinds. -/
import Derived.Test.YtcdmlimhkmbiiaaShadeSensesW
namespace Go.Proofs.Ytcdmlimhkmbiiaa
open Go.RowKit

def kind (z : List Int) (j : Nat) : Int := bits BinOp.and IntKind.i64 (z[j]?.getD 0) 3
def kOne (k : Int) (b : Bool) : One := ⟨if k = 1 ∨ k = 2 then 2 else if k = 3 then 1 else 0, k == 1, b && (k == 1 || k == 2)⟩
def fK (K : Nat → Int) (q : Nat) : Nat → One := fun j => if j < q then kOne (K j) false else blank j
def fL (K : Nat → Int) (r : Nat) : Nat → One := fun j => kOne (K j) (decide (j < r))
def hl (K : Nat → Int) : Nat → List Int
  | 0 => []
  | r + 1 => if K r = 1 then hl K r ++ [(r : Int)] else hl K r
theorem hl_len (K : Nat → Int) : ∀ r, (hl K r).length ≤ r
  | 0 => Nat.le_refl _
  | r + 1 => by have := hl_len K r; unfold hl; split <;> simp <;> omega
theorem take_get {zs : List Int} {i : Nat} {x : Int} (h : Hid (zs.take (i + 1) = zs.take i ++ [x])) (hi : i < zs.length) : zs[i]?.getD 0 = x := by
  have e := congrArg (fun l => l[i]?) h
  simp only [List.getElem?_take, List.getElem?_append] at e
  simp at e
  rw [e, if_neg (by omega), show i - min i zs.length = 0 by omega]; rfl
theorem shade_tblack {W w : World} {bs bt bp n : Nat} {f : Nat → One} {xs : List Int} {m : Int} {lost : Bool} {ct : Int} (i : Int) (s : Bool) (h : St W (Shade bs bt bp n f xs m lost ct) w) :
    Calls Try.prog 31 #[.pointer (some ⟨bt, 0, none⟩), .int .i64 i, .bool s] w fun e w' => e = .returned (.bool (tBlack n f i s)) ∧ w = w' := h.look (lookR (lookL fun _ h => tint_black i s h))
theorem kOne_st (k : Int) (b b' : Bool) : (kOne k b).st = (kOne k b').st ∧ (kOne k b).hd = (kOne k b').hd := ⟨rfl, rfl⟩
section
variable {K : Nat → Int} {n r q : Nat}
theorem fK_step {st : Int} {hd : Bool} (h : q < n) (h1 : 0 ≤ st) (h2 : st ≤ 2) (he : (⟨st.toNat, hd && st == 2, false⟩ : One) = kOne (K q) false) : tSet n (fK K q) (q : Int) st hd false = fK K (q + 1) := by
  rw [tSet_yes h h1 h2]
  funext k
  by_cases e : k = q
  · subst e; rw [upd_same, he]; simp [fK]
  · rw [upd_other _ _ e]
    have : (k < q + 1) ↔ (k < q) := by omega
    simp [fK, this]
theorem fK_skip (h1 : K q ≠ 1) (h2 : K q ≠ 2) (h3 : K q ≠ 3) : fK K q = fK K (q + 1) := by
  funext k
  by_cases e : k = q
  · subst e; simp [fK, kOne, blank, h1, h2, h3]
  · have : (k < q + 1) ↔ (k < q) := by omega
    simp [fK, this]
theorem fL_black0 (h : r < n) : (tHead n (fL K r) r && tBlack n (fL K r) r true) = false := by
  rw [tHead_in h, tBlack_in h]; simp [fL, kOne]
theorem fL_white (h : r < n) : sWhite n (fL K r) r true = (K r == 1) := by
  unfold sWhite; rw [tHead_in h, tBlack_in h]; simp [fL, kOne]
theorem fL_marks (h : r < n) : tMarks n (fL K r) r true = (K r == 1 || K r == 2) := by
  unfold tMarks; rw [tState_in h, tBlack_in h]
  by_cases h1 : K r = 1
  · simp [fL, kOne, h1]
  by_cases h2 : K r = 2
  · simp [fL, kOne, h2]
  by_cases h3 : K r = 3
  · simp [fL, kOne, h3]
  simp [fL, kOne, h1, h2, h3]
theorem fL_marks1 (h : r < n) : tMarks n (fL K (r + 1)) r true = false := by
  unfold tMarks; rw [tState_in h, tBlack_in h]
  by_cases h1 : K r = 1
  · simp [fL, kOne, h1]
  by_cases h2 : K r = 2
  · simp [fL, kOne, h2]
  by_cases h3 : K r = 3
  · simp [fL, kOne, h3]
  simp [fL, kOne, h1, h2, h3]
theorem fL_mark (h : r < n) (hk : K r = 1 ∨ K r = 2) : tMark n (fL K r) r true = fL K (r + 1) := by
  unfold tMark; rw [fL_marks h]
  have : (K r == 1 || K r == 2) = true := by simpa using hk
  rw [this]; simp only [if_true, Int.toNat_natCast]
  funext k
  by_cases e : k = r
  · subst e; rw [upd_same]; simp [fL, kOne, this, hk]
  · rw [upd_other _ _ e]
    have : (k < r + 1) ↔ (k < r) := by omega
    simp [fL, this]
theorem fL_mark1 (h : r < n) : tMark n (fL K (r + 1)) r true = fL K (r + 1) := by
  unfold tMark; rw [fL_marks1 h]; rfl
theorem fL_skip (h1 : K r ≠ 1) (h2 : K r ≠ 2) : fL K r = fL K (r + 1) := by
  funext k
  by_cases e : k = r
  · subst e; simp [fL, kOne, h1, h2]
  · have : (k < r + 1) ↔ (k < r) := by omega
    simp [fL, this]
theorem fL_mark0 (h : r < n) (h1 : K r ≠ 1) (h2 : K r ≠ 2) : tMark n (fL K r) r true = fL K r := by
  unfold tMark; rw [fL_marks h]; simp [h1, h2]
theorem fL_black1 (h : r < n) : (tHead n (fL K (r + 1)) r && tBlack n (fL K (r + 1)) r true) = (K r == 1) := by
  rw [tHead_in h, tBlack_in h]
  by_cases h1 : K r = 1
  · simp [fL, kOne, h1]
  simp [fL, kOne, h1]
theorem fL_tblack1 (h : r < n) : tBlack n (fL K (r + 1)) r true = (K r == 1 || K r == 2) := by
  rw [tBlack_in h]
  by_cases h1 : K r = 1
  · simp [fL, kOne, h1]
  by_cases h2 : K r = 2
  · simp [fL, kOne, h2]
  simp [fL, kOne, h1, h2]
end

set_option maxHeartbeats 800000 in
theorem shadeKinds_no (n : Int) (a1 : Option Addr) (len1 cap1 : Nat) (W : World) (hm : n < 0 ∨ 1024 < n) :
    Calls Try.prog 14 #[.int .i64 n, .slice a1 len1 cap1] W fun e w' => e = .returned (.bool true) ∧ Below W.heap.size W w' := by
  go_enter Try.func14, Try.ntmps14
  go_wp2_with fail
  with_reducible refine (shade_first _).mono ?_
  rintro e wa ⟨rfl, hb0⟩
  go_wp2_with fail
  with_reducible refine (shade_no_table n _ _ hm).mono ?_
  rintro e wb ⟨rfl, rfl⟩
  clear hm
  go_wp2_with fail
  with_reducible refine (shade_first _).mono ?_
  rintro e wa ⟨rfl, hb1⟩
  go_wp2_with fail
  go_ret
  exact ⟨rfl, hb0.trans (hb1.mono hb0.size)⟩

set_option maxRecDepth 100000 in
set_option maxHeartbeats 1600000 in
theorem shadeKinds_out (n : Int) (a1 : Option Addr) (len1 cap1 : Nat) (W : World) (h0 : 0 ≤ n) (h1 : n ≤ 1024) (hm : 100 < n ∨ (len1 : Int) < n) :
    Calls Try.prog 14 #[.int .i64 n, .slice a1 len1 cap1] W fun e w' => e = .returned (.bool true) ∧ Below W.heap.size W w' := by
  go_enter Try.func14, Try.ntmps14
  go_wp2_with fail
  with_reducible refine (shade_first _).mono ?_
  rintro e wa ⟨rfl, hb0⟩
  go_wp2_with fail
  with_reducible refine (shade_newI n 200 _ h0 h1 (by omega) (by omega)).mono ?_
  rintro e wb ⟨bs, bt, bp, rfl, hs⟩
  have hs := hs.onward hb0
  go_wp2_with fail
  all_goals
    with_reducible refine (shade_first _).mono ?_
    rintro e wa ⟨rfl, hb1⟩
    go_wp2_with fail
    go_ret
    exact ⟨rfl, (hs.later hb1).below⟩

set_option maxRecDepth 100000 in
set_option maxHeartbeats 3200000 in
theorem shadeKinds_walk (n : Nat) (a1 : Option Addr) (len1 cap1 : Nat) (z1 : List Int) (W : World) (w1 : IsRow .i64 W a1 len1 cap1 z1) (h1 : (n : Int) ≤ 100) (h2 : n ≤ len1) :
    Calls Try.prog 14 #[.int .i64 n, .slice a1 len1 cap1] W fun e w' => e = .returned (.bool true) ∧ Below W.heap.size W w' := by
  obtain ⟨hl1, hl2⟩ := w1.small
  go_enter Try.func14, Try.ntmps14
  go_wp2_with fail
  with_reducible refine (shade_first _).mono ?_
  rintro e wa ⟨rfl, hb0⟩
  have hdl : decide (len1 < n) = false := by simp; omega
  go_wp2_with fail
  with_reducible refine (shade_new n 200 _ (by omega) (by omega) (by omega)).mono ?_
  rintro e wb ⟨bs, bt, bp, rfl, hs⟩
  have hs := hs.onward hb0
  have c0 := hs.shade0
  go_wp2_with fail
  with_reducible refine (shade_tabcall hs).mono ?_
  rintro e w2 ⟨rfl, h2⟩
  clear hs hb0 c0
  go_wp2_with fail
  go_loopw [8] (fun k w => ∃ q : Nat, q ≤ n ∧ k = .int .i64 q ∧ St W (Shade bs bt bp n (fK (kind z1) q) [] 200 false 0) w) (fun k _ => n - (intOf k).toNat)
  case atStart => exact ⟨0, Nat.zero_le _, rfl, shade_congr (fun k _ => by simp [fK]) h2⟩
  case round =>
    clear h2 hdl
    obtain ⟨q, hq, rfl, hs⟩ := hrel
    by_cases hlt : q < n
    · obtain ⟨ab, off, x, rfl, hab, hx, hc0⟩ := w1.at_ (show q < len1 by omega)
      have hk : kind z1 q = bits BinOp.and IntKind.i64 x 3 := by unfold kind; rw [take_get hx (by omega)]
      clear hx
      have hcl := (hs.below.cell (p := ⟨ab, off + q, none⟩) hab).trans hc0
      have c0 := hs.shade0
      by_cases k1 : kind z1 q = 1
      · have d1 : bits BinOp.and IntKind.i64 x 3 = 1 := hk.symm.trans k1
        have F := Lib.hid (fK_step (K := kind z1) (st := 2) (hd := true) hlt (by omega) (by omega) (by rw [k1]; rfl))
        clear hk k1
        go_wp2_with fail
        with_reducible refine (shade_tabcall hs).mono ?_
        rintro e w2 ⟨rfl, h5⟩
        clear hs c0 hcl
        go_wp2_with fail
        with_reducible refine (shade_set q 2 true false h5).mono ?_
        rintro e w3 ⟨rfl, h6⟩
        rw [F.out] at h6
        clear h5
        go_wp2_with fail
        go_round
        case rel => exact ⟨q + 1, by omega, by go_num, h6⟩
        case measure => simp [intOf]; omega
      by_cases k2 : kind z1 q = 2
      · have d1 : bits BinOp.and IntKind.i64 x 3 = 2 := hk.symm.trans k2
        have F := Lib.hid (fK_step (K := kind z1) (st := 2) (hd := false) hlt (by omega) (by omega) (by rw [k2]; rfl))
        clear hk k1 k2
        go_wp2_with fail
        with_reducible refine (shade_tabcall hs).mono ?_
        rintro e w2 ⟨rfl, h5⟩
        clear hs c0 hcl
        go_wp2_with fail
        with_reducible refine (shade_set q 2 false false h5).mono ?_
        rintro e w3 ⟨rfl, h6⟩
        rw [F.out] at h6
        clear h5
        go_wp2_with fail
        go_round
        case rel => exact ⟨q + 1, by omega, by go_num, h6⟩
        case measure => simp [intOf]; omega
      by_cases k3 : kind z1 q = 3
      · have d1 : bits BinOp.and IntKind.i64 x 3 = 3 := hk.symm.trans k3
        have F := Lib.hid (fK_step (K := kind z1) (st := 1) (hd := false) hlt (by omega) (by omega) (by rw [k3]; rfl))
        clear hk k1 k2 k3
        go_wp2_with fail
        with_reducible refine (shade_tabcall hs).mono ?_
        rintro e w2 ⟨rfl, h5⟩
        clear hs c0 hcl
        go_wp2_with fail
        with_reducible refine (shade_set q 1 false false h5).mono ?_
        rintro e w3 ⟨rfl, h6⟩
        rw [F.out] at h6
        clear h5
        go_wp2_with fail
        go_round
        case rel => exact ⟨q + 1, by omega, by go_num, h6⟩
        case measure => simp [intOf]; omega
      have h6 := Lib.hid hs
      rw [fK_skip k1 k2 k3] at h6
      rw [hk] at k1 k2 k3
      clear hk
      go_wp2_with fail
      go_round
      case rel => exact ⟨q + 1, by omega, by go_num, h6.out⟩
      case measure => simp [intOf]; omega
    · obtain rfl : q = n := by omega
      go_wp2_with fail
      go_loopw [7, 9] (fun v k w => ∃ r : Nat, r ≤ q ∧ k = .int .i64 r ∧ v = .int .i64 ((hl (kind z1) r).length : Int) ∧ St W (Shade bs bt bp q (fL (kind z1) r) (hl (kind z1) r) 200 false (4 * r : Int)) w) (fun _ k _ => q - (intOf k).toNat)
      case atStart => exact ⟨0, Nat.zero_le _, rfl, rfl, shade_congr (fun k hk => by simp [fK, fL, hk]) hs⟩
      case round =>
        clear hs
        obtain ⟨r, hr, rfl, rfl, hs⟩ := hrel
        have hll := hl_len (kind z1) r
        by_cases hltr : r < q
        · obtain ⟨ab, off, x, rfl, hab, hx, hc0⟩ := w1.at_ (show r < len1 by omega)
          have hk : kind z1 r = bits BinOp.and IntKind.i64 x 3 := by unfold kind; rw [take_get hx (by omega)]
          clear hx
          have hcl := (hs.below.cell (p := ⟨ab, off + r, none⟩) hab).trans hc0
          have hR := Lib.hid (show hl (kind z1) (r + 1) = if kind z1 r = 1 then hl (kind z1) r ++ [(r : Int)] else hl (kind z1) r from rfl)
          by_cases k1 : kind z1 r = 1
          · have d1 : bits BinOp.and IntKind.i64 x 3 = 1 := hk.symm.trans k1
            clear hk
            have K1 := Lib.hid k1
            clear k1
            rw [if_pos K1.out] at hR
            go_wp2_with fail
            with_reducible refine (hs.call fun S h => shade_black r true h (by omega) (by omega)).mono ?_
            rintro e w1 ⟨rfl, h3⟩
            rw [fL_black0 hltr]
            clear hs hcl
            go_wp2_with fail
            with_reducible refine (h3.call fun S h => shade_grey_lt r true h (by omega) (by omega) (by rw [fL_white hltr, K1.out]; simp) (by omega) (by omega)).mono ?_
            rintro e w2 ⟨rfl, h4⟩
            rw [fL_mark hltr (.inl K1.out)] at h4
            clear h3
            go_wp2_with fail
            with_reducible refine (h4.call fun S h => shade_part r true h (by omega) (by omega)).mono ?_
            rintro e w3 ⟨rfl, h5⟩
            rw [fL_marks1 hltr]
            rw [fL_mark1 hltr] at h5
            clear h4
            go_wp2_with fail
            with_reducible refine (h5.call fun S h => shade_black r true h (by omega) (by omega)).mono ?_
            rintro e w4 ⟨rfl, h6⟩
            rw [fL_black1 hltr, K1.out]
            clear h5
            have c0 := h6.shade0
            go_wp2_with fail
            with_reducible refine (shade_tabcall h6).mono ?_
            rintro e w5 ⟨rfl, h7⟩
            clear h6 c0
            go_wp2_with fail
            with_reducible refine (shade_tblack r true h7).mono ?_
            rintro e w6 ⟨rfl, rfl⟩
            rw [fL_tblack1 hltr, K1.out]
            go_wp2_with fail
            go_round
            case rel => exact ⟨r + 1, by omega, by go_num, by rw [hR.out]; simp, by rw [hR.out]; refine h7.conv fun S w h => ?_; rw [show (4 * ((r + 1 : Nat) : Int)) = 4 * r + 1 + 1 + 1 + 1 by omega]; exact h⟩
            case measure => simp [intOf]; omega
          by_cases k2 : kind z1 r = 2
          · have d1 : bits BinOp.and IntKind.i64 x 3 = 2 := hk.symm.trans k2
            clear hk
            have K1 := Lib.hid k2
            clear k1 k2
            rw [if_neg (by rw [K1.out]; decide)] at hR
            go_wp2_with fail
            with_reducible refine (hs.call fun S h => shade_black r true h (by omega) (by omega)).mono ?_
            rintro e w1 ⟨rfl, h3⟩
            rw [fL_black0 hltr]
            clear hs hcl
            go_wp2_with fail
            with_reducible refine (h3.call fun S h => shade_grey_no r true h (by omega) (by omega) (by rw [fL_white hltr, K1.out]; simp)).mono ?_
            rintro e w2 ⟨rfl, h4⟩
            clear h3
            go_wp2_with fail
            with_reducible refine (h4.call fun S h => shade_part r true h (by omega) (by omega)).mono ?_
            rintro e w3 ⟨rfl, h5⟩
            rw [fL_marks hltr, K1.out]
            rw [fL_mark hltr (.inr K1.out)] at h5
            clear h4
            go_wp2_with fail
            with_reducible refine (h5.call fun S h => shade_black r true h (by omega) (by omega)).mono ?_
            rintro e w4 ⟨rfl, h6⟩
            rw [fL_black1 hltr, K1.out]
            clear h5
            have c0 := h6.shade0
            go_wp2_with fail
            with_reducible refine (shade_tabcall h6).mono ?_
            rintro e w5 ⟨rfl, h7⟩
            clear h6 c0
            go_wp2_with fail
            with_reducible refine (shade_tblack r true h7).mono ?_
            rintro e w6 ⟨rfl, rfl⟩
            rw [fL_tblack1 hltr, K1.out]
            go_wp2_with fail
            go_round
            case rel => exact ⟨r + 1, by omega, by go_num, by rw [hR.out], by rw [hR.out]; refine h7.conv fun S w h => ?_; rw [show (4 * ((r + 1 : Nat) : Int)) = 4 * r + 1 + 1 + 1 + 1 by omega]; exact h⟩
            case measure => simp [intOf]; omega
          · have d1 : bits BinOp.and IntKind.i64 x 3 ≠ 1 := hk ▸ k1
            have d2 : bits BinOp.and IntKind.i64 x 3 ≠ 2 := hk ▸ k2
            have e1 : (bits BinOp.and IntKind.i64 x 3 == 1) = false := by simpa using d1
            have e2 : (bits BinOp.and IntKind.i64 x 3 == 2) = false := by simpa using d2
            clear hk
            have K1 := Lib.hid (show (kind z1 r == 1) = false by simpa using k1)
            have K2 := Lib.hid (show (kind z1 r == 2) = false by simpa using k2)
            have K3 := Lib.hid k1
            have K4 := Lib.hid k2
            clear k1 k2
            rw [if_neg (K3.out)] at hR
            go_wp2_with fail
            with_reducible refine (hs.call fun S h => shade_black r true h (by omega) (by omega)).mono ?_
            rintro e w1 ⟨rfl, h3⟩
            rw [fL_black0 hltr]
            clear hs hcl
            go_wp2_with fail
            with_reducible refine (h3.call fun S h => shade_grey_no r true h (by omega) (by omega) (by rw [fL_white hltr, K1.out])).mono ?_
            rintro e w2 ⟨rfl, h4⟩
            clear h3
            go_wp2_with fail
            with_reducible refine (h4.call fun S h => shade_part r true h (by omega) (by omega)).mono ?_
            rintro e w3 ⟨rfl, h5⟩
            rw [fL_marks hltr, K1.out, K2.out]
            rw [fL_mark0 hltr K3.out K4.out, fL_skip K3.out K4.out] at h5
            clear h4
            go_wp2_with fail
            with_reducible refine (h5.call fun S h => shade_black r true h (by omega) (by omega)).mono ?_
            rintro e w4 ⟨rfl, h6⟩
            rw [fL_black1 hltr, K1.out]
            clear h5
            have c0 := h6.shade0
            go_wp2_with fail
            with_reducible refine (shade_tabcall h6).mono ?_
            rintro e w5 ⟨rfl, h7⟩
            clear h6 c0
            go_wp2_with fail
            with_reducible refine (shade_tblack r true h7).mono ?_
            rintro e w6 ⟨rfl, rfl⟩
            rw [fL_tblack1 hltr, K1.out, K2.out]
            go_wp2_with fail
            go_round
            case rel => exact ⟨r + 1, by omega, by go_num, by rw [hR.out], by rw [hR.out]; refine h7.conv fun S w h => ?_; rw [show (4 * ((r + 1 : Nat) : Int)) = 4 * r + 1 + 1 + 1 + 1 by omega]; exact h⟩
            case measure => simp [intOf]; omega
        · obtain rfl : r = q := by omega
          go_wp2_with fail
          with_reducible refine (shade_first _).mono ?_
          rintro e w2 ⟨rfl, hb1⟩
          have h4 := hs.later hb1
          clear hs hb1
          go_wp2_with fail
          with_reducible refine (h4.look fun S h => shade_len h).mono ?_
          rintro e w3 ⟨rfl, rfl⟩
          go_wp2_with fail
          with_reducible refine (h4.look fun S h => shade_counted h).mono ?_
          rintro e w3 ⟨rfl, rfl⟩
          go_wp2_with fail
          with_reducible refine (h4.call fun S h => shade_lost h (by omega) (by omega)).mono ?_
          rintro e w3 ⟨rfl, h5⟩
          clear h4
          go_wp2_with fail
          go_ret
          exact ⟨rfl, h5.below⟩

theorem shadeKinds_all (n : Int) (a1 : Option Addr) (len1 cap1 : Nat) (z1 : List Int) (W : World) (w1 : IsRow .i64 W a1 len1 cap1 z1) :
    Calls Try.prog 14 #[.int .i64 n, .slice a1 len1 cap1] W fun e w' => e = .returned (.bool true) ∧ Below W.heap.size W w' := by
  by_cases hm : n < 0 ∨ 1024 < n
  · exact shadeKinds_no n a1 len1 cap1 W hm
  by_cases hm2 : 100 < n ∨ (len1 : Int) < n
  · exact shadeKinds_out n a1 len1 cap1 W (by omega) (by omega) hm2
  obtain ⟨k, rfl⟩ : ∃ k : Nat, n = (k : Int) := ⟨n.toNat, by omega⟩
  exact shadeKinds_walk k a1 len1 cap1 z1 W w1 (by omega) (by omega)
end Go.Proofs.Ytcdmlimhkmbiiaa
