/- NewShade of the reference. -/
import Derived.Test.YtcdmlimhkmbiiaaRTab
import Derived.Test.YtcdmlimhkmbiiaaRPile
namespace Go.Proofs.Ytcdmlimhkmbiiaa
open Go.RowKit

set_option maxHeartbeats 800000 in
theorem rshade_new (n : Nat) (m : Int) (w : World) (h1 : n ≤ 1024) (h2 : 1 ≤ m) (h3 : m ≤ 256) :
    Calls Try.prog 22 #[.int .i64 n, .int .i64 m] w fun e w' => ∃ bx bt, e = .returned (.tuple #[.pointer (some ⟨bx, 0, none⟩), .int .i64 0]) ∧ St w (Sep (RTab bt n blank) (RPile bx (.pointer (some ⟨bt, 0, none⟩)) [] m false 0)) w' := by
  go_enter Try.func22, Try.ntmps22
  go_wp2_with fail
  with_reducible refine (rtab_new n _ h1).mono ?_
  rintro e w1 ⟨bt, rfl, hP, hB⟩
  have hs := St.begin (Below.refl _ w) hP hB
  have HS := Lib.hid hs
  clear hP hB hs
  go_wp2_with fail
  go_ret2
  refine ⟨_, bt, rfl, HS.out.more ⟨fun k => k = w1.heap.size, ⟨_, Blk.new w1 _ _, World.ownsRow_nil _ _ _ _, rfl, fun k hk => by simp [Value.ownBlock] at hk, fun k hk => by simp; omega⟩, fun k hk => by omega⟩ ((Below.refl _ _).alloc (Nat.le_refl _) _)⟩
set_option maxHeartbeats 800000 in
theorem rshade_no_table (n m : Int) (w : World) (h : n < 0 ∨ 1024 < n) :
    Calls Try.prog 22 #[.int .i64 n, .int .i64 m] w fun e w' => e = .returned (.tuple #[.pointer none, .int .i64 1]) ∧ w = w' := by
  go_enter Try.func22, Try.ntmps22
  go_wp2_with fail
  with_reducible refine (rtab_new_no n _ h).mono ?_
  rintro e w1 ⟨rfl, rfl⟩
  clear h
  go_wp2_with fail
  go_ret2
  exact ⟨rfl, rfl⟩
set_option maxHeartbeats 800000 in
theorem rshade_no_pile (n : Nat) (m : Int) (w : World) (h1 : n ≤ 1024) (h : m < 1 ∨ 256 < m) :
    Calls Try.prog 22 #[.int .i64 n, .int .i64 m] w fun e w' => e = .returned (.tuple #[.pointer none, .int .i64 1]) ∧ Below w.heap.size w w' := by
  go_enter Try.func22, Try.ntmps22
  go_wp2_with fail
  with_reducible refine (rtab_new n _ h1).mono ?_
  rintro e w1 ⟨bt, rfl, hP, hB⟩
  have HS := Lib.hid hB
  clear hP hB
  rcases h with h | h
  · go_wp2_with fail
    go_ret2
    exact ⟨rfl, HS.out⟩
  · have h' : ¬ m < 1 := by omega
    go_wp2_with fail
    go_ret2
    exact ⟨rfl, HS.out⟩
theorem rshade_newI (n m : Int) (w : World) (h0 : 0 ≤ n) (h1 : n ≤ 1024) (h2 : 1 ≤ m) (h3 : m ≤ 256) :
    Calls Try.prog 22 #[.int .i64 n, .int .i64 m] w fun e w' => ∃ bx bt, e = .returned (.tuple #[.pointer (some ⟨bx, 0, none⟩), .int .i64 0]) ∧ St w (Sep (RTab bt n.toNat blank) (RPile bx (.pointer (some ⟨bt, 0, none⟩)) [] m false 0)) w' := by
  have := rshade_new n.toNat m w (by omega) h2 h3
  rw [Int.toNat_of_nonneg h0] at this
  exact this
theorem rshade_no_pileI (n m : Int) (w : World) (h0 : 0 ≤ n) (h1 : n ≤ 1024) (h : m < 1 ∨ 256 < m) :
    Calls Try.prog 22 #[.int .i64 n, .int .i64 m] w fun e w' => e = .returned (.tuple #[.pointer none, .int .i64 1]) ∧ Below w.heap.size w w' := by
  have := rshade_no_pile n.toNat m w (by omega) h
  rw [Int.toNat_of_nonneg h0] at this
  exact this
end Go.Proofs.Ytcdmlimhkmbiiaa
