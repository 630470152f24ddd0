/- The reference's table (sporef6.Table). -/
import Derived.Test.YtcdmlimhkmbiiaaTintFlipsW
import Derived.RegionTactic
import Derived.BigRegion
import Derived.Outline
namespace Go.Proofs.Ytcdmlimhkmbiiaa
open Go.RowKit

theorem Try.info3' : (Try.prog.info? 3).map (fun i => (i.zero, i.size, i.bytes)) = some (some (.int .i64 0), 1, 8) := by kernel_rfl
theorem make_ints (n : Nat) (hn : n ≤ 1024) (w : World) : (Instr.makeSlice 22 (.int .i64 n) (.int .i64 n)).run Try.prog w = .ok (.slice (some ⟨w.heap.size, 0, none⟩) n n) (w.alloc (.cells (madeCells #[.int .i64 0] n) 3)) := by
  obtain ⟨i0, hi, hz0, hz1, hz2⟩ := info_parts Try.info3'
  have := run_make (P := Try.prog) w 22 3 i0 _ Try.underlying22 hi hz0 .i64 .i64 n n (by omega) (by omega) (by rw [hz2]; omega) (by omega)
  rw [this, hz1]; simp [Value.cells]

theorem blk_at {w : World} {cs : Array Value} {t : TypeId} {k : Nat} (h : k = w.heap.size) : Blk (w.alloc (.cells cs t)) k cs t := h ▸ Blk.new w cs t

theorem four_new (w : World) (c1 c2 c3 c4 : Array Value) (t1 t2 t3 t4 : TypeId) :
    Blk ((((w.alloc (.cells c1 t1)).alloc (.cells c2 t2)).alloc (.cells c3 t3)).alloc (.cells c4 t4)).drew w.heap.size c1 t1 ∧
    Blk ((((w.alloc (.cells c1 t1)).alloc (.cells c2 t2)).alloc (.cells c3 t3)).alloc (.cells c4 t4)).drew (w.heap.size + 1) c2 t2 ∧
    Blk ((((w.alloc (.cells c1 t1)).alloc (.cells c2 t2)).alloc (.cells c3 t3)).alloc (.cells c4 t4)).drew (w.heap.size + 1 + 1) c3 t3 ∧
    Blk ((((w.alloc (.cells c1 t1)).alloc (.cells c2 t2)).alloc (.cells c3 t3)).alloc (.cells c4 t4)).drew (w.heap.size + 1 + 1 + 1) c4 t4 ∧
    Below w.heap.size w ((((w.alloc (.cells c1 t1)).alloc (.cells c2 t2)).alloc (.cells c3 t3)).alloc (.cells c4 t4)).drew := by
  have s1 : (w.alloc (.cells c1 t1)).heap.size = w.heap.size + 1 := by simp
  have s2 : ((w.alloc (.cells c1 t1)).alloc (.cells c2 t2)).heap.size = w.heap.size + 1 + 1 := by simp
  have s3 : (((w.alloc (.cells c1 t1)).alloc (.cells c2 t2)).alloc (.cells c3 t3)).heap.size = w.heap.size + 1 + 1 + 1 := by simp
  exact ⟨((((blk_at rfl).alloc _).alloc _).alloc _).drew, (((blk_at s1.symm).alloc _).alloc _).drew, ((blk_at s2.symm).alloc _).drew, (blk_at s3.symm).drew,
    (((((Below.refl _ _).alloc (Nat.le_refl _) _).alloc (by rw [s1]; omega) _).alloc (by rw [s2]; omega) _).alloc (by rw [s3]; omega) _).drew⟩

/-- What a new table of the reference's is. -/
def NewRTab (n : Nat) (w : World) (e : Ending) (w' : World) : Prop :=
  ∃ bt a p q, e = .returned (.tuple #[.pointer (some ⟨bt, 0, none⟩), .int .i64 0]) ∧ Blk w' bt #[.slice (some ⟨a, 0, none⟩) n n, .slice (some ⟨p, 0, none⟩) n n, .slice (some ⟨q, 0, none⟩) n n] 84 ∧
    Blk w' a (madeCells #[.int .i64 0] n) 3 ∧ Blk w' p (madeCells #[.bool false] n) 4 ∧ Blk w' q (madeCells #[.bool false] n) 4 ∧
    (w.heap.size ≤ bt ∧ w.heap.size ≤ a ∧ w.heap.size ≤ p ∧ w.heap.size ≤ q) ∧ (bt ≠ a ∧ bt ≠ p ∧ bt ≠ q ∧ a ≠ p ∧ a ≠ q ∧ p ≠ q) ∧ Below w.heap.size w w'

set_option maxHeartbeats 1600000 in
theorem rtab_new_walk (n : Nat) (w : World) (h2 : n ≤ 1024) :
    Calls Try.prog 35 #[.int .i64 n] w (NewRTab n w) := by
  have hmb := make_bools n h2
  have hmi := make_ints n h2
  go_enter Try.func35, Try.ntmps35
  go_wp2
  go_region
  all_goals
    clear hmb hmi
    go_wp2
    go_ret2
    obtain ⟨f1, f2, f3, f4, f5⟩ := four_new w _ _ _ _ _ _ _ _
    first
      | exact ⟨_, _, _, _, rfl, f4, f1, f2, f3, (by omega), (by omega), f5⟩
      | exact ⟨_, _, _, _, rfl, f4, f1, f3, f2, (by omega), (by omega), f5⟩
      | exact ⟨_, _, _, _, rfl, f4, f2, f1, f3, (by omega), (by omega), f5⟩
      | exact ⟨_, _, _, _, rfl, f4, f2, f3, f1, (by omega), (by omega), f5⟩
      | exact ⟨_, _, _, _, rfl, f4, f3, f1, f2, (by omega), (by omega), f5⟩
      | exact ⟨_, _, _, _, rfl, f4, f3, f2, f1, (by omega), (by omega), f5⟩
set_option maxHeartbeats 400000 in
theorem rtab_new_no (m : Int) (w : World) (h : m < 0 ∨ 1024 < m) :
    Calls Try.prog 35 #[.int .i64 m] w fun e w' => e = .returned (.tuple #[.pointer none, .int .i64 1]) ∧ w = w' := by
  rcases h with h | h
  · go_enter Try.func35, Try.ntmps35
    go_wp2
    go_ret2
    exact ⟨rfl, rfl⟩
  · have h' : ¬ m < 0 := by omega
    go_enter Try.func35, Try.ntmps35
    go_wp2
    go_ret2
    exact ⟨rfl, rfl⟩

def rows3 (n : Nat) (f : Nat → One) (ca cp cq : Array Value) : Prop :=
  ca.size = n ∧ cp.size = n ∧ cq.size = n ∧ ∀ i, i < n → ca[i]? = some (.int .i64 ((f i).st : Int)) ∧ cp[i]? = some (.bool (f i).hd) ∧ cq[i]? = some (.bool (f i).sn)
def rtabAt (bt n : Nat) (f : Nat → One) (S : Nat → Prop) (w : World) : Prop :=
  ∃ a p q ca cp cq, Blk w bt #[.slice (some ⟨a, 0, none⟩) n n, .slice (some ⟨p, 0, none⟩) n n, .slice (some ⟨q, 0, none⟩) n n] 84 ∧ Blk w a ca 3 ∧ Blk w p cp 4 ∧ Blk w q cq 4 ∧ rows3 n f ca cp cq ∧
    (S bt ∧ S a ∧ S p ∧ S q) ∧ (bt ≠ a ∧ bt ≠ p ∧ bt ≠ q ∧ a ≠ p ∧ a ≠ q ∧ p ≠ q) ∧ (∀ i, i < n → (f i).st ≤ 2) ∧ n ≤ 1024 ∧ ∀ k, S k → k < w.heap.size
/-- A table of the reference's at block bt. -/
def RTab (bt n : Nat) (f : Nat → One) : Thing where
  at_ := rtabAt bt n f
  lt := fun ⟨_, _, _, _, _, _, _, _, _, _, _, _, _, _, _, h⟩ => h
  kept := fun ⟨a, p, q, ca, cp, cq, h1, h2, h3, h4, h5, ⟨s1, s2, s3, s4⟩, h7, h8, h9, h10⟩ hk hs =>
    ⟨a, p, q, ca, cp, cq, by unfold Blk at *; rw [hk bt s1]; exact h1, by unfold Blk at *; rw [hk a s2]; exact h2, by unfold Blk at *; rw [hk p s3]; exact h3, by unfold Blk at *; rw [hk q s4]; exact h4, h5, ⟨s1, s2, s3, s4⟩, h7, h8, h9, fun k hS => Nat.lt_of_lt_of_le (h10 k hS) hs⟩
theorem rtab_new (n : Nat) (w : World) (h2 : n ≤ 1024) :
    Calls Try.prog 35 #[.int .i64 n] w fun e w' => ∃ bt, e = .returned (.tuple #[.pointer (some ⟨bt, 0, none⟩), .int .i64 0]) ∧ (∃ S, (RTab bt n blank).at_ S w' ∧ ∀ k, S k → w.heap.size ≤ k) ∧ Below w.heap.size w w' := by
  refine (rtab_new_walk n w h2).mono fun e w' ⟨bt, a, p, q, he, h1, h2', h3, h4, h5, h6, h7⟩ => ?_
  refine ⟨bt, he, ⟨fun k => k = bt ∨ k = a ∨ k = p ∨ k = q, ⟨a, p, q, _, _, _, h1, h2', h3, h4, ⟨by simp [madeCells], by simp [madeCells], by simp [madeCells], fun i hi => ?_⟩, ⟨.inl rfl, .inr (.inl rfl), .inr (.inr (.inl rfl)), .inr (.inr (.inr rfl))⟩, h6, fun i _ => by simp [blank], h2, fun k hk => ?_⟩, fun k hk => by omega⟩, h7⟩
  · refine ⟨?_, ?_, ?_⟩ <;> simp [madeCells, hi, blank, Nat.mod_one]
  · rcases hk with rfl | rfl | rfl | rfl
    · exact h1.lt
    · exact h2'.lt
    · exact h3.lt
    · exact h4.lt
end Go.Proofs.Ytcdmlimhkmbiiaa
