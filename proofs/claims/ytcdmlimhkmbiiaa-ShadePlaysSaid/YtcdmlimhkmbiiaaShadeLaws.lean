/- What the laws of chapter 15 open with; ShadeSenses. -/
import Derived.Test.YtcdmlimhkmbiiaaShade
namespace Go.Proofs.Ytcdmlimhkmbiiaa
open Go.RowKit

theorem shade_newI (n m : Int) (w : World) (h0 : 0 ≤ n) (h1 : n ≤ 1024) (h2 : 1 ≤ m) (h3 : m ≤ 256) :
    Calls Try.prog 46 #[.int .i64 n, .int .i64 m] w fun e w' => ∃ bs bt bp, e = .returned (.tuple #[.pointer (some ⟨bs, 0, none⟩), .int .i64 0]) ∧ St w (Shade bs bt bp n.toNat blank [] m false 0) w' := by
  have := shade_new n.toNat m w (by omega) h2 h3
  rw [Int.toNat_of_nonneg h0] at this
  exact this
section
variable {W w : World} {bs bt bp n : Nat} {f : Nat → One} {xs : List Int} {m : Int} {lost : Bool} {ct : Int}
theorem St.shade0 (h : St W (Shade bs bt bp n f xs m lost ct) w) : w.cell? ⟨bs, 0, none⟩ = some (.pointer (some ⟨bt, 0, none⟩)) := by
  rw [(shade_blk h.1.choose_spec.1).cell]; rfl
theorem St.onward {A : Thing} {w' : World} (h : Below W.heap.size W w) (hs : St w A w') : St W A w' :=
  ⟨⟨_, hs.1.choose_spec.1, fun k hk => Nat.le_trans h.size (hs.1.choose_spec.2 k hk)⟩, h.trans (hs.2.mono h.size)⟩
theorem shade_set (i st : Int) (hd sn : Bool) (h : St W (Shade bs bt bp n f xs m lost ct) w) :
    Calls Try.prog 30 #[.pointer (some ⟨bt, 0, none⟩), .int .i64 i, .int .i64 st, .bool hd, .bool sn] w fun e w' => e = .returned (.bool (tSets n i st)) ∧ St W (Shade bs bt bp n (tSet n f i st hd sn) xs m lost ct) w' :=
  h.call (sepR (sepL fun _ h => tint_set i st hd sn h))
theorem shade_tabcall (h : St W (Shade bs bt bp n f xs m lost ct) w) :
    Calls Try.prog 47 #[.agg #[.pointer (some ⟨bt, 0, none⟩)]] w fun e w' => e = .returned (.pointer (some ⟨bt, 0, none⟩)) ∧ St W (Shade bs bt bp n f xs m lost ct) w' :=
  (shade_table bt w).mono fun _ _ ⟨he, hb⟩ => ⟨he, h.later hb⟩
end

set_option maxHeartbeats 1600000 in
theorem shade_first (W : World) :
    Calls Try.prog 45 #[] W fun e w' => e = .returned (.bool true) ∧ Below W.heap.size W w' := by
  go_enter Try.func45, Try.ntmps45
  go_wp2_with fail
  with_reducible refine (shade_newI 2 1 _ (by omega) (by omega) (by omega) (by omega)).mono ?_
  rintro e w1 ⟨bs, bt, bp, rfl, h1⟩
  have c0 := h1.shade0
  go_wp2_with fail
  with_reducible refine (shade_tabcall h1).mono ?_
  rintro e w2 ⟨rfl, h2⟩
  clear h1 c0
  go_wp2_with fail
  with_reducible refine (h2.call fun S h => shade_grey_no 0 true h (by omega) (by omega) rfl).mono ?_
  rintro e w3 ⟨rfl, h3⟩
  have c0 := h3.shade0
  clear h2
  go_wp2_with fail
  with_reducible refine (shade_tabcall h3).mono ?_
  rintro e w4 ⟨rfl, h4⟩
  clear h3 c0
  go_wp2_with fail
  with_reducible refine (shade_set 0 2 true false h4).mono ?_
  rintro e w5 ⟨rfl, h5⟩
  clear h4
  go_wp2_with fail
  with_reducible refine (h5.call fun S h => shade_grey_lt 0 true h (by omega) (by omega) rfl (by simp) (by omega)).mono ?_
  rintro e w6 ⟨rfl, h6⟩
  clear h5
  go_wp2_with fail
  with_reducible refine (h6.call fun S h => shade_grey_no 0 true h (by omega) (by omega) rfl).mono ?_
  rintro e w7 ⟨rfl, h7⟩
  clear h6
  go_wp2_with fail
  with_reducible refine (h7.call fun S h => shade_next (xs := []) (i := 0) h (by omega) (by omega)).mono ?_
  rintro e w8 ⟨rfl, h8⟩
  clear h7
  go_wp2_with fail
  with_reducible refine (h8.look fun S h => shade_counted h).mono ?_
  rintro e w9 ⟨rfl, rfl⟩
  go_wp2_with fail
  with_reducible refine (h8.call fun S h => shade_black 0 true h (by omega) (by omega)).mono ?_
  rintro e w9 ⟨rfl, h9⟩
  rw [show (tHead (Int.toNat 2) (tMark (Int.toNat 2) (tSet (Int.toNat 2) blank 0 2 true false) 0 true) 0 && tBlack (Int.toNat 2) (tMark (Int.toNat 2) (tSet (Int.toNat 2) blank 0 2 true false) 0 true) 0 true) = true from rfl]
  clear h8
  go_wp2_with fail
  go_ret
  exact ⟨rfl, h9.below⟩
end Go.Proofs.Ytcdmlimhkmbiiaa
