/- The reference's Counts. -/
import Derived.Test.YtcdmlimhkmbiiaaRTab2
import Derived.LoopTactic
import Derived.Outline
namespace Go.Proofs.Ytcdmlimhkmbiiaa
open Go.RowKit

def cnts (f : Nat → One) (k : Nat) : Array Value := #[.int .i64 (cnt f 0 k), .int .i64 (cnt f 1 k), .int .i64 (cnt f 2 k)]
theorem cnts_get {f : Nat → One} {k s : Nat} (hs : s ≤ 2) : (cnts f k)[s]? = some (.int .i64 (cnt f s k)) := by
  match s, hs with
  | 0, _ => rfl
  | 1, _ => rfl
  | 2, _ => rfl
theorem cnts_step {f : Nat → One} {k : Nat} (hs : (f k).st ≤ 2) : (cnts f k).setIfInBounds (f k).st (.int .i64 (cnt f (f k).st k + 1)) = cnts f (k + 1) := by
  unfold cnts
  simp only [cnt]
  generalize (f k).st = s at *
  match s, hs with
  | 0, _ => simp
  | 1, _ => simp
  | 2, _ => simp

set_option maxHeartbeats 1600000 in
theorem rtab_counts_walk {bt a p q n : Nat} {ca cp cq : Array Value} {f : Nat → One} {w : World} (h : Blk w bt #[.slice (some ⟨a, 0, none⟩) n n, .slice (some ⟨p, 0, none⟩) n n, .slice (some ⟨q, 0, none⟩) n n] 84) (hg : Blk w a ca 3) (h3 : rows3 n f ca cp cq) (hst : ∀ k, k < n → (f k).st ≤ 2) (hn : n ≤ 1024) :
    Calls Try.prog 41 #[.pointer (some ⟨bt, 0, none⟩)] w fun e w' => e = .returned (.tuple #[.int .i64 (cnt f 0 n), .int .i64 (cnt f 1 n), .int .i64 (cnt f 2 n)]) ∧ Below w.heap.size w w' := by
  have hbt := h.lt
  have ha := hg.lt
  have HB := Lib.hid h
  have HA := Lib.hid hg
  have HR := Lib.hid h3
  have HT := Lib.hid hst
  clear h hg h3 hst
  go_enter Try.func41, Try.ntmps41
  go_wp2
  have hstart : Blk (w.alloc (.cells #[.int .i64 0, .int .i64 0, .int .i64 0] 78)) w.heap.size (cnts f 0) 78 ∧ Below w.heap.size w (w.alloc (.cells #[.int .i64 0, .int .i64 0, .int .i64 0] 78)) := ⟨Blk.new w _ _, (Below.refl _ _).alloc (Nat.le_refl _) _⟩
  generalize hN : w.heap.size = N at hstart hbt ha ⊢
  have HN := Lib.hid hN
  clear hN
  go_loopw [6] (fun i wr => ∃ k : Nat, k ≤ n ∧ i = .int .i64 k ∧ Blk wr N (cnts f k) 78 ∧ Below N w wr) (fun i _ => n - (intOf i).toNat)
  case atStart => exact ⟨0, Nat.zero_le _, rfl, hstart⟩
  case round =>
    clear hstart
    obtain ⟨k, hk, rfl, hb, hbel⟩ := hrel
    have hbt2 := HB.out.lt
    have ha2 := HA.out.lt
    have c0 : wr.cell? ⟨bt, 0, none⟩ = some (.slice (some ⟨a, 0, none⟩) n n) := by rw [hbel.cell (p := ⟨bt, 0, none⟩) hbt, HB.out.cell]; rfl
    by_cases hlt : k < n
    · have c1 : wr.cell? ⟨a, k, none⟩ = some (.int .i64 ((f k).st : Int)) := by rw [hbel.cell (p := ⟨a, k, none⟩) ha, HA.out.cell]; exact (HR.out.2.2.2 k hlt).1
      have hs2 := HT.out k hlt
      have hb2 := Lib.hid (hb.set (f k).st (.int .i64 (cnt f (f k).st k + 1)))
      rw [cnts_step hs2] at hb2
      have c2 : wr.cell? ⟨N, (f k).st, none⟩ = some (.int .i64 (cnt f (f k).st k)) := by rw [hb.cell]; exact cnts_get hs2
      have c3 : wr.frozen? ⟨N, (f k).st, none⟩ = false := hb.free _
      have hbel2 := Lib.hid (hbel.setCell (p := ⟨N, (f k).st, none⟩) (Nat.le_refl _) (.int .i64 (cnt f (f k).st k + 1)))
      obtain ⟨b1, b2⟩ := cnt_bd f (f k).st k
      generalize cnt f (f k).st k = c at *
      generalize (f k).st = s at *
      have hs3 : (s : Int) < 3 := by omega
      clear hb
      go_wp2
      go_round
      case rel => exact ⟨k + 1, by omega, by go_num, hb2.out, hbel2.out⟩
      case measure => simp [intOf]; omega
    · obtain rfl : k = n := by omega
      have d0 : wr.cell? ⟨N, 0, none⟩ = some (.int .i64 (cnt f 0 k)) := by rw [hb.cell]; rfl
      have d1 : wr.cell? ⟨N, 1, none⟩ = some (.int .i64 (cnt f 1 k)) := by rw [hb.cell]; rfl
      have d2 : wr.cell? ⟨N, 2, none⟩ = some (.int .i64 (cnt f 2 k)) := by rw [hb.cell]; rfl
      have hbelh := Lib.hid hbel
      clear hb hbel
      go_wp2
      go_quiet (fail)
      go_wp2
      go_ret3
      exact ⟨rfl, by rw [HN.out]; exact below_drewN hbelh.out _⟩
theorem rtab_counts {b n : Nat} {f : Nat → One} {S : Nat → Prop} {w : World} (h : (RTab b n f).at_ S w) :
    Calls Try.prog 41 #[.pointer (some ⟨b, 0, none⟩)] w fun e w' => e = .returned (.tuple #[.int .i64 (cnt f 0 n), .int .i64 (cnt f 1 n), .int .i64 (cnt f 2 n)]) ∧ Goes (RTab b n f) S w w' := by
  have h' := h
  obtain ⟨a, p, q, ca, cp, cq, h1, h2, h3, h4, h5, h6, h7, h8, h9, h10⟩ := h
  exact (rtab_counts_walk h1 h2 h5 h8 h9).mono fun e w' ⟨he, hb⟩ => ⟨he, Goes.later h' hb⟩
end Go.Proofs.Ytcdmlimhkmbiiaa
