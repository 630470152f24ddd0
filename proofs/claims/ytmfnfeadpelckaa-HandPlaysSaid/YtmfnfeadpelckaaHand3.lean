/- Making hands; what chapter 18's laws open with; HandSense. -/
import Derived.Test.YtmfnfeadpelckaaHand2
import Derived.Test.YtmfnfeadpelckaaArgs
namespace Go.Proofs.Ytmfnfeadpelckaa
open Go.RowKit

theorem Try.info3 : (Try.prog.info? 3).map (fun i => (i.zero, i.size, i.bytes)) = some (some (.int .i64 0), 1, 8) := by kernel_rfl
theorem make_ints (n : Nat) (hn : n ≤ 1024) (w : World) : (Instr.makeSlice 22 (.int .i64 n) (.int .i64 n)).run Try.prog w = .ok (.slice (some ⟨w.heap.size, 0, none⟩) n n) (w.alloc (.cells (madeCells #[.int .i64 0] n) 3)) := by
  obtain ⟨i0, hi, hz0, hz1, hz2⟩ := info_parts Try.info3
  have := run_make (P := Try.prog) w 22 3 i0 _ Try.underlying22 hi hz0 .i64 .i64 n n (by omega) (by omega) (by rw [hz2]; omega) (by omega)
  rw [this, hz1]; simp [Value.cells]
theorem St.ints (w : World) (n : Nat) (t : TypeId) : St w (Ints w.heap.size n t fun _ => 0) (w.alloc (.cells (madeCells #[.int .i64 0] n) t)) :=
  ⟨⟨fun k => k = w.heap.size, ⟨_, Blk.new w _ t, by simp [madeCells], fun j hj => by simp [madeCells, hj, Nat.mod_one], rfl, fun _ h => h⟩, fun k hk => by omega⟩, (Below.refl _ _).alloc (Nat.le_refl _) _⟩
theorem ints_congr {b n : Nat} {t : TypeId} {f f' : Nat → Int} (h : ∀ k, k < n → f k = f' k) {S : Nat → Prop} {w : World} (ht : (Ints b n t f).at_ S w) : (Ints b n t f').at_ S w := by
  obtain ⟨cs, h1, h2, h3, h4⟩ := ht
  exact ⟨cs, h1, h2, fun j hj => by rw [← h j hj]; exact h3 j hj, h4⟩
section
variable {W w : World} {bh g n : Nat} {st ct : Int} {sn : Bool} {own own' : Nat → Int}
theorem hnd_congr (h : ∀ k, k < n → own k = own' k) (hs : St W (Hnd bh g n st sn own ct) w) : St W (Hnd bh g n st sn own' ct) w :=
  hs.conv fun _ _ ⟨S, T, h1, h2, h3⟩ => ⟨S, T, h1, ints_congr h h2, h3⟩
end
def oN (q : Nat) : Nat → Int := fun j => if j < q then -1 else 0
def gone : Nat → Int := fun _ => -1
theorem oN_step (q : Nat) : setI (oN q) q (-1) = oN (q + 1) := by
  funext k
  by_cases e : k = q
  · subst e; simp [setI, oN]
  · have : (k < q + 1) ↔ (k < q) := by omega
    simp [setI, oN, e, this]

set_option maxHeartbeats 1600000 in
theorem hand_new (n : Nat) (w : World) (h1 : 1 ≤ n) (h2 : n ≤ 16) :
    Calls Try.prog 8 #[.int .i64 n] w fun e w' => ∃ bh g, e = .returned (.tuple #[.pointer (some ⟨bh, 0, none⟩), .int .i64 0]) ∧ St w (Hnd bh g n 0 false gone 0) w' := by
  have hmk := make_ints n (by omega)
  go_enter Try.func8, Try.ntmps8
  go_wp2_with fail
  clear hmk
  have h3 := ((St.ints w n 3).var #[.int .i64 0, .bool false, .slice (some ⟨w.heap.size, 0, none⟩) n n, .int .i64 0] 53).swap
  have e0 : (w.alloc (.cells (madeCells #[.int .i64 0] n) 3)).heap.size = w.heap.size + 1 := by simp
  rw [e0] at h3
  generalize hbh : w.heap.size + 1 = bh at h3 ⊢
  generalize hg : w.heap.size = g at h3 ⊢
  generalize hW : (w.alloc (.cells (madeCells #[.int .i64 0] n) 3)).alloc (.cells #[.int .i64 0, .bool false, .slice (some ⟨g, 0, none⟩) n n, .int .i64 0] 53) = W1 at h3 ⊢
  clear e0 hbh hg hW
  go_loopw [21] (fun k w' => ∃ q : Nat, q ≤ n ∧ k = .int .i64 q ∧ St w (Hnd bh g n 0 false (oN q) 0) w') (fun k _ => n - (intOf k).toNat)
  case atStart => exact ⟨0, Nat.zero_le _, rfl, hnd_congr (fun k _ => by simp [oN]) h3⟩
  case round =>
    clear h3
    obtain ⟨q, hq, rfl, hs⟩ := hrel
    obtain ⟨c0, c1, c2, c3, f⟩ := hnd_cells hs.1.choose_spec.1
    by_cases hlt : q < n
    · obtain ⟨c4, f4⟩ := hnd_own hs.1.choose_spec.1 hlt
      have h6 := hs.goes fun S h => hnd_set (j := q) (-1) h
      rw [oN_step] at h6
      clear hs f
      go_wp2_with fail
      go_round
      case rel => exact ⟨q + 1, by omega, by go_num, h6⟩
      case measure => simp [intOf]; omega
    · obtain rfl : q = n := by omega
      clear f
      go_wp2_with fail
      go_ret2
      exact ⟨_, _, rfl, hnd_congr (fun k hk => by simp [oN, gone, hk]) hs⟩

theorem hand_new_no (n : Int) (w : World) (h : n < 1 ∨ 16 < n) :
    Calls Try.prog 8 #[.int .i64 n] w fun e w' => e = .returned (.tuple #[.pointer none, .int .i64 1]) ∧ w = w' := by
  go_enter Try.func8, Try.ntmps8
  go_wp2_with fail
  all_goals
    go_ret2
    exact ⟨rfl, rfl⟩
theorem hand_newI (n : Int) (w : World) (h1 : 1 ≤ n) (h2 : n ≤ 16) :
    Calls Try.prog 8 #[.int .i64 n] w fun e w' => ∃ bh g, e = .returned (.tuple #[.pointer (some ⟨bh, 0, none⟩), .int .i64 0]) ∧ St w (Hnd bh g n.toNat 0 false gone 0) w' := by
  have := hand_new n.toNat w (by omega) (by omega)
  rw [Int.toNat_of_nonneg (by omega)] at this
  exact this

set_option maxHeartbeats 1600000 in
theorem hand_first (W : World) :
    Calls Try.prog 7 #[] W fun e w' => e = .returned (.bool true) ∧ Below W.heap.size W w' := by
  go_enter Try.func7, Try.ntmps7
  go_wp2_with fail
  with_reducible refine (hand_newI 2 _ (by omega) (by omega)).mono ?_
  rintro e w1 ⟨bh, g, rfl, h1⟩
  go_wp2_with fail
  with_reducible refine (h1.call fun S h => hand_poll 0 (by decide) (by omega) (by omega) h).mono ?_
  rintro e w2 ⟨rfl, h2⟩
  rw [show (hSt (Int.toNat 2) gone 0 == -1 || hSt (Int.toNat 2) gone 0 == 0) = true from rfl]
  clear h1
  go_wp2_with fail
  with_reducible refine (h2.look fun S h => hand_counted h).mono ?_
  rintro e w3 ⟨rfl, rfl⟩
  go_wp2_with fail
  with_reducible refine (h2.look fun S h => hand_status 0 (by decide) h).mono ?_
  rintro e w3 ⟨rfl, rfl⟩
  rw [show hSt (Int.toNat 2) gone 0 = -1 from rfl]
  go_wp2_with fail
  go_ret
  exact ⟨rfl, h2.below⟩
end Go.Proofs.Ytmfnfeadpelckaa
