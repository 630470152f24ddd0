/- The walk of ShadeOnce. -/
import Derived.Test.YtcdmlimhkmbiiaaShadeKindsW
import Derived.Test.YtcdmlimhkmbiiaaArgs
import Derived.Deep.RegionHeld3
namespace Go.Proofs.Ytcdmlimhkmbiiaa
open Go.RowKit

def fO (H : Nat → Bool) (q : Nat) : Nat → One := fun j => if j < q then ⟨2, H j, false⟩ else blank j
def fM (H m : Nat → Bool) : Nat → One := fun j => ⟨2, H j, m j⟩
def Laid (n : Nat) (m : Nat → Bool) (xs : List Int) : Prop := xs.Nodup ∧ ∀ x ∈ xs, ∃ j : Nat, j < n ∧ x = (j : Int) ∧ m j = true
section
variable {H m : Nat → Bool} {n q : Nat} {xs : List Int}
theorem fO_step (h : q < n) : tSet n (fO H q) (q : Int) 2 (H q) false = fO H (q + 1) := by
  rw [tSet_yes h (by omega) (by omega)]
  funext k
  by_cases e : k = q
  · subst e; rw [upd_same]; simp [fO]
  · rw [upd_other _ _ e]
    have : (k < q + 1) ↔ (k < q) := by omega
    simp [fO, this]
theorem fM_white (h : q < n) : sWhite n (fM H m) q true = (H q && !m q) := by
  unfold sWhite; rw [tHead_in h, tBlack_in h]; simp [fM]
theorem fM_white_out {x : Int} (h : ¬ tIn n x) : sWhite n (fM H m) x true = false := by
  unfold sWhite; rw [tHead_out h]; rfl
theorem fM_mark (h : q < n) (hm : m q = false) : tMark n (fM H m) q true = fM H (setB m q true) := by
  have e : tMarks n (fM H m) q true = true := by unfold tMarks; rw [tState_in h, tBlack_in h]; simp [fM, hm]
  unfold tMark; rw [e]; simp only [if_true, Int.toNat_natCast]
  funext k
  by_cases e : k = q
  · subst e; rw [upd_same]; simp [fM, setB]
  · rw [upd_other _ _ e]; simp [fM, setB, e]
theorem Laid.keep (h : Laid n m xs) (hm : m q = false) : Laid n (setB m q true) xs :=
  ⟨h.1, fun x hx => by obtain ⟨j, h1, h2, h3⟩ := h.2 x hx; exact ⟨j, h1, h2, by unfold setB; split <;> simp_all⟩⟩
theorem Laid.push (h : Laid n m xs) (hq : q < n) (hm : m q = false) : Laid n (setB m q true) (xs ++ [(q : Int)]) := by
  refine ⟨?_, fun x hx => ?_⟩
  · rw [List.nodup_append]
    refine ⟨h.1, by simp, fun x hx y hy e => ?_⟩
    simp at hy
    obtain ⟨j, h1, h2, h3⟩ := h.2 x hx
    obtain rfl : j = q := by omega
    simp_all
  · rcases List.mem_append.1 hx with hx | hx
    · exact (h.keep hm).2 x hx
    · simp at hx; exact ⟨q, hq, hx, by simp [setB]⟩
theorem Laid.pop {x : Int} (h : Laid n m (xs ++ [x])) : ∃ j : Nat, j < n ∧ x = (j : Int) ∧ m j = true ∧ Laid n (setB m j false) xs := by
  obtain ⟨j, h1, h2, h3⟩ := h.2 x (by simp)
  refine ⟨j, h1, h2, h3, (List.nodup_append.1 h.1).1, fun y hy => ?_⟩
  obtain ⟨i, g1, g2, g3⟩ := h.2 y (by simp [hy])
  refine ⟨i, g1, g2, ?_⟩
  have : y ≠ x := (List.nodup_append.1 h.1).2.2 y hy x (by simp)
  unfold setB; rw [if_neg (by omega)]; exact g3
end

set_option maxRecDepth 100000 in
set_option maxHeartbeats 800000 in
theorem shadeOnce_no (n m : Int) (a2 a3 : Option Addr) (len2 cap2 len3 cap3 : Nat) (W : World) (hm : n < 0 ∨ 1024 < n) :
    Calls Try.prog 13 #[.int .i64 n, .int .i64 m, .slice a2 len2 cap2, .slice a3 len3 cap3] W fun e w' => e = .returned (.bool true) ∧ Below W.heap.size W w' := by
  go_enter Try.func13, Try.ntmps13
  go_wp2_with fail
  with_reducible refine (shade_first _).mono ?_
  rintro e wa ⟨rfl, hb0⟩
  go_wp2_with fail
  with_reducible refine (shade_no_table n m _ hm).mono ?_
  rintro e wb ⟨rfl, rfl⟩
  clear hm
  go_wp2_with fail
  with_reducible refine (shade_first _).mono ?_
  rintro e wa ⟨rfl, hb1⟩
  go_wp2_with fail
  go_ret
  exact ⟨rfl, hb0.trans (hb1.mono hb0.size)⟩
set_option maxRecDepth 100000 in
set_option maxHeartbeats 800000 in
theorem shadeOnce_no2 (n : Nat) (m : Int) (a2 a3 : Option Addr) (len2 cap2 len3 cap3 : Nat) (W : World) (h1 : n ≤ 1024) (hm : m < 1 ∨ 256 < m) :
    Calls Try.prog 13 #[.int .i64 n, .int .i64 m, .slice a2 len2 cap2, .slice a3 len3 cap3] W fun e w' => e = .returned (.bool true) ∧ Below W.heap.size W w' := by
  go_enter Try.func13, Try.ntmps13
  go_wp2_with fail
  with_reducible refine (shade_first _).mono ?_
  rintro e wa ⟨rfl, hb0⟩
  go_wp2_with fail
  with_reducible refine (shade_no_pile n m _ h1 hm).mono ?_
  rintro e wb ⟨rfl, hb2⟩
  clear hm
  go_wp2_with fail
  with_reducible refine (shade_first _).mono ?_
  rintro e wc ⟨rfl, hb1⟩
  go_wp2_with fail
  go_ret
  have hb3 := hb0.trans (hb2.mono hb0.size)
  exact ⟨rfl, hb3.trans (hb1.mono hb3.size)⟩
set_option maxRecDepth 100000 in
set_option maxHeartbeats 1600000 in
theorem shadeOnce_out (n m : Int) (a2 a3 : Option Addr) (len2 cap2 len3 cap3 : Nat) (W : World) (h0 : 0 ≤ n) (h1 : n ≤ 1024) (h2 : 1 ≤ m) (h3 : m ≤ 256) (hm : 200 < n ∨ (len2 : Int) < n ∨ 500 < (len3 : Int)) :
    Calls Try.prog 13 #[.int .i64 n, .int .i64 m, .slice a2 len2 cap2, .slice a3 len3 cap3] W fun e w' => e = .returned (.bool true) ∧ Below W.heap.size W w' := by
  go_enter Try.func13, Try.ntmps13
  go_wp2_with fail
  with_reducible refine (shade_first _).mono ?_
  rintro e wa ⟨rfl, hb0⟩
  go_wp2_with fail
  with_reducible refine (shade_newI n m _ h0 h1 h2 h3).mono ?_
  rintro e wb ⟨bs, bt, bp, rfl, hs⟩
  have hs := hs.onward hb0
  go_wp2_with fail
  all_goals
    with_reducible refine (shade_first _).mono ?_
    rintro e wa ⟨rfl, hb1⟩
    go_wp2_with fail
    go_ret
    exact ⟨rfl, (hs.later hb1).below⟩

set_option maxRecDepth 100000 in
set_option maxHeartbeats 6400000 in
theorem shadeOnce_walk (n : Nat) (m : Int) (a2 a3 : Option Addr) (len2 cap2 len3 cap3 : Nat) (z2 : List Bool) (z3 : List Int) (W : World) (w2 : IsBools W a2 len2 z2) (w3 : IsRow .i64 W a3 len3 cap3 z3)
    (h1 : (n : Int) ≤ 200) (h2 : 1 ≤ m) (h3 : m ≤ 256) (h4 : n ≤ len2) (h5 : (len3 : Int) ≤ 500) :
    Calls Try.prog 13 #[.int .i64 n, .int .i64 m, .slice a2 len2 cap2, .slice a3 len3 cap3] W fun e w' => e = .returned (.bool true) ∧ Below W.heap.size W w' := by
  obtain ⟨hl1, hl2⟩ := w3.small
  have hlm := w2.1
  have hdl : decide (len2 < n) = false := by simp; omega
  go_enter Try.func13, Try.ntmps13
  go_wp2_with fail
  with_reducible refine (shade_first _).mono ?_
  rintro e wa ⟨rfl, hb0⟩
  go_wp2_with fail
  with_reducible refine (shade_new n m _ (by omega) h2 h3).mono ?_
  rintro e wb ⟨bs, bt, bp, rfl, hs⟩
  have hs := hs.onward hb0
  have c0 := hs.shade0
  go_wp2_with fail
  with_reducible refine (shade_tabcall hs).mono ?_
  rintro e wc ⟨rfl, h6⟩
  clear hs hb0 c0 hdl
  generalize hH : (fun j => z2.getD j false) = H
  go_wp2_with fail
  go_loopw [11] (fun k w => ∃ q : Nat, q ≤ n ∧ k = .int .i64 q ∧ St W (Shade bs bt bp n (fO H q) [] m false 0) w) (fun k _ => n - (intOf k).toNat)
  case atStart => exact ⟨0, Nat.zero_le _, rfl, shade_congr (fun k _ => by simp [fO]) h6⟩
  case round =>
    clear h6
    obtain ⟨q, hq, rfl, hs⟩ := hrel
    by_cases hlt : q < n
    · obtain ⟨ab, off, rfl, hab, hc0⟩ := w2.2.2 q (by omega)
      have hql : q < len2 := by omega
      rw [show z2.getD q false = H q by rw [← hH]] at hc0
      have hcl := (hs.below.cell (p := ⟨ab, off + q, none⟩) hab).trans hc0
      have c0 := hs.shade0
      have hx : ∀ f w', St W (Shade bs bt bp n f [] m false 0) w' → w'.cell? ⟨ab, off + q, none⟩ = some (.bool (H q)) ∧ w'.cell? ⟨bs, 0, none⟩ = some (.pointer (some ⟨bt, 0, none⟩)) := fun f w' h => ⟨(h.below.cell (p := ⟨ab, off + q, none⟩) hab).trans hc0, h.shade0⟩
      have C1 : Hid (Calls Try.prog 47 #[.agg #[.pointer (some ⟨bt, 0, none⟩)]] wr.drew fun e w' => e = .returned (.pointer (some ⟨bt, 0, none⟩)) ∧ St W (Shade bs bt bp n (fO H q) [] m false 0) w' ∧ w'.cell? ⟨ab, off + q, none⟩ = some (.bool (H q)) ∧ w'.cell? ⟨bs, 0, none⟩ = some (.pointer (some ⟨bt, 0, none⟩))) :=
        (shade_tabcall (hs.drewN 1)).mono fun e w' ⟨he, h⟩ => ⟨he, h, hx _ _ h⟩
      have hSt := Lib.hid (@fO_step H n q hlt)
      have HX := Lib.hid hx
      clear hs hc0 hx
      generalize H q = hq' at *
      go_wp2_with fail
      go_region_held3 (fun w' => w'.cell? ⟨ab, off + q, none⟩ = some (.bool hq') ∧ w'.cell? ⟨bs, 0, none⟩ = some (.pointer (some ⟨bt, 0, none⟩))) (first | exact ⟨hcl, c0⟩ | exact x7 | exact x8)
        (first | (go_at_call 47; refine C1.out.mono ?_; rintro e w7 ⟨rfl, h7, x7⟩) | (go_at_call 30; refine (shade_set q 2 hq' false h7).mono ?_; rintro e w8 ⟨rfl, h8⟩; have x8 := HX.out _ _ h8))
      all_goals
        rw [hSt.out] at h8
        clear h7 hcl C1 c0 HX x7 x8
        go_wp2_with fail
        go_round
        case rel => exact ⟨q + 1, by omega, by go_num, h8⟩
        case measure => simp [intOf]; omega
    · obtain rfl : q = n := by omega
      have hmk := make_bools q (by omega)
      go_wp2_with fail
      clear hmk
      have h7 := (shade_congr (f' := fM H fun _ => false) (fun k hk => by simp [fO, fM, hk]) hs).bools q 4
      generalize hW2 : wr.alloc (.cells (madeCells #[.bool false] q) 4) = W2 at h7 ⊢
      generalize hQ : wr.heap.size = Q at h7 ⊢
      clear hs hW2 hQ
      go_loopw [13, 14] (fun v k w => ∃ (c d : Nat) (g : Nat → Bool) (xs : List Int) (lost : Bool), c ≤ len3 ∧ d ≤ c ∧ k = .int .i64 c ∧ v = .int .i64 d ∧ Laid q g xs ∧ (((d : Int) ≤ m ∧ xs.length = d ∧ lost = false) ∨ (m < d ∧ (xs.length : Int) = m ∧ lost = true)) ∧ St W (Sep (Shade bs bt bp q (fM H g) xs m lost (c : Int)) (Bools Q q 4 g)) w) (fun _ k _ => len3 - (intOf k).toNat)
      case atStart => exact ⟨0, 0, _, [], false, Nat.zero_le _, Nat.zero_le _, rfl, rfl, ⟨by simp, by simp⟩, .inl ⟨by omega, rfl, rfl⟩, h7⟩
      case round =>
        clear h7
        obtain ⟨c, d, g, xs, lost, hc, hd, rfl, rfl, hlaid, hsz, hs⟩ := hrel
        by_cases hlt : c < len3
        · obtain ⟨ab, off, x, rfl, hab, hx, hc0⟩ := w3.at_ hlt
          clear hx
          have hcl := (hs.below.cell (p := ⟨ab, off + c, none⟩) hab).trans hc0
          by_cases hin : tIn q x
          · obtain ⟨j, rfl⟩ : ∃ j : Nat, x = (j : Int) := ⟨x.toNat, by have := hin.1; omega⟩
            have hj : j < q := by have := hin.2; omega
            have hmj := hs.right.boolCell hj
            have hfj := hs.right.boolFree j
            obtain ⟨ab2, off2, rfl, hab2, hc2⟩ := w2.2.2 j (by omega)
            rw [show z2.getD j false = H j by rw [← hH]] at hc2
            have hcl2 := (hs.below.cell (p := ⟨ab2, off2 + j, none⟩) hab2).trans hc2
            have hjl : j < len2 := by omega
            have hW := @fM_white H g q j hj
            clear hin
            have G := Lib.hid hsz
            cases hHj : H j
            · rw [hHj] at hcl2 hW
              rw [Bool.false_and] at hW
              clear hsz hmj hfj
              go_wp2_with fail
              with_reducible refine (hs.call (sepL fun S h => shade_grey_no j true h (by omega) (by omega) hW)).mono ?_
              rintro e w2 ⟨rfl, h5⟩
              clear hs hcl hW hcl2
              have hcl := (h5.below.cell (p := ⟨ab, off + c, none⟩) hab).trans hc0
              go_wp2_with fail
              go_round
              case rel => exact ⟨c + 1, d, _, _, _, by omega, by omega, by go_num, rfl, hlaid, G.out, h5⟩
              case measure => simp [intOf]; omega
            · rw [hHj] at hcl2 hW
              cases hgj : g j
              · rw [hgj] at hW hmj
                rw [Bool.not_false, Bool.and_self] at hW
                have K : Hid (∃ xs' lost', (Laid q (setB g j true) xs' ∧ ((((d + 1 : Nat) : Int) ≤ m ∧ xs'.length = d + 1 ∧ lost' = false) ∨ (m < ((d + 1 : Nat) : Int) ∧ (xs'.length : Int) = m ∧ lost' = true))) ∧
                    Calls Try.prog 49 #[.pointer (some ⟨bs, 0, none⟩), .int .i64 (j : Int), .bool true] wr fun e w' => e = .returned (.bool true) ∧ St W (Sep (Shade bs bt bp q (fM H (setB g j true)) xs' m lost' ((c : Int) + 1)) (Bools Q q 4 g)) w') := by
                  have hmk := @fM_mark H g q j hj hgj
                  by_cases hdm : (xs.length : Int) < m
                  · refine ⟨xs ++ [(j : Int)], lost, ⟨hlaid.push hj hgj, ?_⟩, ?_⟩
                    · rcases hsz with ⟨e1, e2, e3⟩ | ⟨e1, e2, e3⟩
                      · exact .inl ⟨by omega, by simp [e2], e3⟩
                      · omega
                    · have := hs.call (sepL fun S h => shade_grey_lt j true h (by omega) (by omega) hW hdm h3)
                      rw [hmk] at this; exact this
                  · have hxm : (xs.length : Int) = m := by rcases hsz with ⟨e1, e2, e3⟩ | ⟨e1, e2, e3⟩ <;> omega
                    refine ⟨xs, true, ⟨hlaid.keep hgj, .inr ⟨?_, hxm, rfl⟩⟩, ?_⟩
                    · rcases hsz with ⟨e1, e2, e3⟩ | ⟨e1, e2, e3⟩ <;> omega
                    · have := hs.call (sepL fun S h => shade_grey_eq j true h (by omega) (by omega) hW hxm h3)
                      rw [hmk] at this; exact this
                obtain ⟨xs', lost', ⟨K1, K2⟩, K3⟩ := K.out
                have K3 := Lib.hid K3
                have K2 := Lib.hid K2
                clear K hsz hs hW G
                go_wp2_with fail
                with_reducible refine K3.out.mono ?_
                rintro e w2 ⟨rfl, h5⟩
                clear hcl hcl2 hmj hfj K3
                have hcl := (h5.below.cell (p := ⟨ab, off + c, none⟩) hab).trans hc0
                have hmj := h5.right.boolCell hj
                have hfj := h5.right.boolFree j
                have h6 := h5.goes (w' := w2.setCell ⟨Q, j, none⟩ (.bool true)) (goesR fun S h => bools_set h j true)
                clear h5
                go_wp2_with fail
                go_round
                case rel => exact ⟨c + 1, d + 1, _, _, _, by omega, by omega, by go_num, by go_num, K1, K2.out, h6⟩
                case measure => simp [intOf]; omega
              · rw [hgj] at hW hmj
                rw [Bool.not_true, Bool.and_false] at hW
                clear hsz hfj
                go_wp2_with fail
                with_reducible refine (hs.call (sepL fun S h => shade_grey_no j true h (by omega) (by omega) hW)).mono ?_
                rintro e w2 ⟨rfl, h5⟩
                clear hs hcl hW hcl2 hmj
                have hcl := (h5.below.cell (p := ⟨ab, off + c, none⟩) hab).trans hc0
                go_wp2_with fail
                go_round
                case rel => exact ⟨c + 1, d, _, _, _, by omega, by omega, by go_num, rfl, hlaid, G.out, h5⟩
                case measure => simp [intOf]; omega
          · have hW := fM_white_out (H := H) (m := g) hin
            unfold tIn at hin
            by_cases hx0 : 0 ≤ x
            all_goals
              first | (have d1 : decide (x < (q : Int)) = false := by simp; omega) | (have d1 : decide (0 ≤ x) = false := by simpa using hx0)
              clear hin
              have G := Lib.hid hsz
              clear hsz
              go_wp2_with fail
              with_reducible refine (hs.call (sepL fun S h => shade_grey_no x true h (by omega) (by omega) hW)).mono ?_
              rintro e w2 ⟨rfl, h5⟩
              clear hs hcl hW
              have hcl := (h5.below.cell (p := ⟨ab, off + c, none⟩) hab).trans hc0
              go_wp2_with fail
              go_round
              case rel => exact ⟨c + 1, d, _, _, _, by omega, by omega, by go_num, rfl, hlaid, G.out, h5⟩
              case measure => simp [intOf]; omega
        · obtain rfl : c = len3 := by omega
          have hcase : ((d : Int) < m ∧ xs.length = d ∧ lost = false) ∨ ((d : Int) = m ∧ xs.length = d ∧ lost = false) ∨ (m < (d : Int) ∧ (xs.length : Int) = m ∧ lost = true) := by
            rcases hsz with ⟨e1, e2, e3⟩ | h
            · by_cases hdm : (d : Int) < m
              · exact .inl ⟨hdm, e2, e3⟩
              · exact .inr (.inl ⟨by omega, e2, e3⟩)
            · exact .inr (.inr h)
          clear hsz
          generalize hg0 : fM H g = F at hs
          rcases hcase with ⟨e1, e2, rfl⟩ | ⟨e1, e2, rfl⟩ | ⟨e1, e2, rfl⟩
          all_goals
            go_wp2_with fail
            with_reducible refine (hs.look (lookL fun S h => shade_len h)).mono ?_
            rintro e w2 ⟨rfl, rfl⟩
            have hxl : xs.length ≤ 256 := by omega
            go_wp2_with fail
            go_loopw [16] (fun k w => ∃ (i : Nat) (g : Nat → Bool) (ys : List Int) (ct : Int), k = .int .i64 i ∧ i + ys.length = xs.length ∧ Laid q g ys ∧ 0 ≤ ct ∧ ct ≤ c + i ∧ St W (Sep (Shade bs bt bp q F ys m _ ct) (Bools Q q 4 g)) w) (fun k _ => xs.length - (intOf k).toNat)
            case atStart => exact ⟨0, g, xs, _, rfl, by omega, hlaid, by omega, by omega, hs⟩
            case round =>
              clear hs hlaid
              obtain ⟨i, g, ys, ct, rfl, hi, hlaid, hct0, hct1, hs⟩ := hrel
              rcases List.eq_nil_or_concat ys with rfl | ⟨ys, x, rfl⟩
              · have hix : i = xs.length := by simpa using hi
                clear hi
                go_wp2_with fail
                with_reducible refine (shade_first _).mono ?_
                rintro e w3 ⟨rfl, hb1⟩
                have h4 := hs.later hb1
                clear hs hb1
                go_wp2_with fail
                with_reducible refine (h4.call (sepL fun S h => shade_lost h (by omega) (by omega))).mono ?_
                rintro e w3 ⟨rfl, h5⟩
                clear h4
                go_wp2_with fail
                with_reducible refine (h5.call (sepL fun S h => shade_lost h (by omega) (by omega))).mono ?_
                rintro e w4 ⟨rfl, h6⟩
                clear h5
                go_wp2_with fail
                go_ret
                refine ⟨?_, h6.below⟩
                first
                | rfl
                | (show Ending.returned (.bool _) = Ending.returned (.bool true); simp; omega)
                | (show Ending.returned (.bool _) = Ending.returned (.bool true); simp; done)
              · rw [List.concat_eq_append] at hi hlaid hs
                have hix : i + ys.length + 1 = xs.length := by simp at hi; omega
                obtain ⟨j, hj, rfl, hgj, hl'⟩ := hlaid.pop
                clear hi hlaid
                have hl' := Lib.hid hl'
                go_wp2_with fail
                with_reducible refine (hs.call (sepL fun S h => shade_next (xs := ys) (i := j) h (by omega) (by omega))).mono ?_
                rintro e w3 ⟨rfl, h5⟩
                have hmj := h5.right.boolCell hj
                rw [hgj] at hmj
                have hfj := h5.right.boolFree j
                have h6 := h5.goes (w' := w3.setCell ⟨Q, j, none⟩ (.bool false)) (goesR fun S h => bools_set h j false)
                clear h5 hs
                go_wp2_with fail
                go_round
                case rel => exact ⟨i + 1, _, ys, _, by go_num, by omega, hl'.out, by omega, by omega, h6⟩
                case measure => simp [intOf]; omega

theorem shadeOnce_all (n m : Int) (a2 a3 : Option Addr) (len2 cap2 len3 cap3 : Nat) (z2 : List Bool) (z3 : List Int) (W : World) (w2 : IsBools W a2 len2 z2) (w3 : IsRow .i64 W a3 len3 cap3 z3) :
    Calls Try.prog 13 #[.int .i64 n, .int .i64 m, .slice a2 len2 cap2, .slice a3 len3 cap3] W fun e w' => e = .returned (.bool true) ∧ Below W.heap.size W w' := by
  by_cases hm : n < 0 ∨ 1024 < n
  · exact shadeOnce_no n m a2 a3 len2 cap2 len3 cap3 W hm
  by_cases hm1 : m < 1 ∨ 256 < m
  · obtain ⟨k, rfl⟩ : ∃ k : Nat, n = (k : Int) := ⟨n.toNat, by omega⟩
    exact shadeOnce_no2 k m a2 a3 len2 cap2 len3 cap3 W (by omega) hm1
  by_cases hm2 : 200 < n ∨ (len2 : Int) < n ∨ 500 < (len3 : Int)
  · exact shadeOnce_out n m a2 a3 len2 cap2 len3 cap3 W (by omega) (by omega) (by omega) (by omega) hm2
  obtain ⟨k, rfl⟩ : ∃ k : Nat, n = (k : Int) := ⟨n.toNat, by omega⟩
  exact shadeOnce_walk k m a2 a3 len2 cap2 len3 cap3 z2 z3 W w2 w3 (by omega) (by omega) (by omega) (by omega) (by omega)
end Go.Proofs.Ytcdmlimhkmbiiaa
