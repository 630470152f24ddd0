/- The contracts of package tint: what writes. -/
import Derived.Test.YtcdmlimhkmbiiaaTint
namespace Go.Proofs.Ytcdmlimhkmbiiaa
open Go.RowKit

theorem Try.info82 : (Try.prog.info? 82).map (fun i => (i.zero, i.size, i.bytes)) = some (some (.agg #[.int .i64 0, .bool false, .bool false]), 3, 16) := by kernel_rfl

def blank : Nat → One := fun _ => ⟨0, false, false⟩
theorem cnt_blank0 : ∀ n, cnt blank 0 n = n
  | 0 => rfl
  | n + 1 => by simp [cnt, cnt_blank0 n, blank]
theorem cnt_blank1 : ∀ n, cnt blank 1 n = 0
  | 0 => rfl
  | n + 1 => by simp [cnt, cnt_blank1 n, blank]
theorem cnt_blank2 : ∀ n, cnt blank 2 n = 0
  | 0 => rfl
  | n + 1 => by simp [cnt, cnt_blank2 n, blank]
theorem cells3_made (n : Nat) : cells3 (madeCells #[.int .i64 0, .bool false, .bool false] (n * 3)) n blank := by
  refine ⟨by simp [madeCells], fun i hi => ?_⟩
  have h0 : i * 3 < n * 3 := by omega
  have h1 : i * 3 + 1 < n * 3 := by omega
  have h2 : i * 3 + 2 < n * 3 := by omega
  have m0 : i * 3 % 3 = 0 := by omega
  have m1 : (i * 3 + 1) % 3 = 1 := by omega
  have m2 : (i * 3 + 2) % 3 = 2 := by omega
  refine ⟨?_, ?_, ?_⟩ <;> simp [madeCells, h0, h1, h2, m0, m1, m2, blank]

set_option maxHeartbeats 400000 in
theorem tint_new_walk (n : Nat) (w : World) (h2 : n ≤ 1024) :
    Calls Try.prog 29 #[.int .i64 n] w fun e w' => e = .returned (.tuple #[.pointer (some ⟨w.heap.size + 1, 0, none⟩), .int .i64 0]) ∧
      w' = (w.alloc (.cells (madeCells #[.int .i64 0, .bool false, .bool false] (n * 3)) 82)).alloc (.cells #[.slice (some ⟨w.heap.size, 0, none⟩) n n, .int .i64 n, .int .i64 0, .int .i64 0] 80) := by
  obtain ⟨i0, hi, hz0, hz1, hz2⟩ := info_parts Try.info82
  have hmk : ∀ w, (Instr.makeSlice 77 (.int .i64 n) (.int .i64 n)).run Try.prog w = .ok (.slice (some ⟨w.heap.size, 0, none⟩) n n) (w.alloc (.cells (madeCells #[.int .i64 0, .bool false, .bool false] (n * 3)) 82)) := by
    intro w
    have := run_make (P := Try.prog) w 77 82 i0 _ Try.underlying77 hi hz0 .i64 .i64 n n (by omega) (by omega) (by rw [hz2]; omega) (by omega)
    rw [this, hz1]; simp [Value.cells]
  clear hi hz0 hz1 hz2
  go_enter Try.func29, Try.ntmps29
  go_wp2
  go_ret2
  exact ⟨rfl, rfl⟩
set_option maxHeartbeats 400000 in
theorem tint_new_no (m : Int) (w : World) (h : m < 0 ∨ 1024 < m) :
    Calls Try.prog 29 #[.int .i64 m] w fun e w' => e = .returned (.tuple #[.pointer none, .int .i64 1]) ∧ w = w' := by
  rcases h with h | h
  · go_enter Try.func29, Try.ntmps29
    go_wp2
    go_ret2
    exact ⟨rfl, rfl⟩
  · have h' : ¬ m < 0 := by omega
    go_enter Try.func29, Try.ntmps29
    go_wp2
    go_ret2
    exact ⟨rfl, rfl⟩
theorem tint_new (n : Nat) (w : World) (h2 : n ≤ 1024) :
    Calls Try.prog 29 #[.int .i64 n] w fun e w' => ∃ b, e = .returned (.tuple #[.pointer (some ⟨b, 0, none⟩), .int .i64 0]) ∧ (∃ S, (Tab b n blank).at_ S w' ∧ ∀ k, S k → w.heap.size ≤ k) ∧ Below w.heap.size w w' := by
  refine (tint_new_walk n w h2).mono fun e w' ⟨he, hw⟩ => ?_
  subst hw
  refine ⟨_, he, ⟨fun k => k = w.heap.size ∨ k = w.heap.size + 1, ⟨w.heap.size, _, ?_, (Blk.new w _ _).alloc _, cells3_made n, .inr rfl, .inl rfl, by omega, fun i _ => by simp [blank], h2, fun k hk => by simp; omega⟩, fun k hk => by omega⟩, ((Below.refl _ _).alloc (Nat.le_refl _) _).alloc (by simp) _⟩
  rw [cnt_blank0, cnt_blank1, cnt_blank2]
  have := Blk.new (w.alloc (.cells (madeCells #[.int .i64 0, .bool false, .bool false] (n * 3)) 82)) #[.slice (some ⟨w.heap.size, 0, none⟩) n n, .int .i64 n, .int .i64 0, .int .i64 0] 80
  simpa using this

set_option maxHeartbeats 400000 in
theorem tint_len {b n : Nat} {f : Nat → One} {S : Nat → Prop} {w : World} (h : (Tab b n f).at_ S w) :
    Calls Try.prog 61 #[.pointer (some ⟨b, 0, none⟩)] w fun e w' => e = .returned (.int .i64 n) ∧ w = w' := by
  obtain ⟨g, cs, h, _⟩ := h
  have h2 : w.cell? ⟨b, 0, none⟩ = some (.slice (some ⟨g, 0, none⟩) n n) := by rw [h.cell]; rfl
  clear h
  go_enter Try.func61, Try.ntmps61
  go_wp2
  go_ret
  exact ⟨rfl, rfl⟩

set_option maxHeartbeats 400000 in
theorem tint_counts {b n : Nat} {f : Nat → One} {S : Nat → Prop} {w : World} (h : (Tab b n f).at_ S w) :
    Calls Try.prog 40 #[.pointer (some ⟨b, 0, none⟩)] w fun e w' => e = .returned (.tuple #[.int .i64 (cnt f 0 n), .int .i64 (cnt f 1 n), .int .i64 (cnt f 2 n)]) ∧ Below w.heap.size w w' := by
  obtain ⟨g, cs, h, _⟩ := h
  have h1 : w.cell? ⟨b, 1, none⟩ = some (.int .i64 (cnt f 0 n)) := by rw [h.cell]; rfl
  have h2 : w.cell? ⟨b, 2, none⟩ = some (.int .i64 (cnt f 1 n)) := by rw [h.cell]; rfl
  have h3 : w.cell? ⟨b, 3, none⟩ = some (.int .i64 (cnt f 2 n)) := by rw [h.cell]; rfl
  clear h
  go_enter Try.func40, Try.ntmps40
  go_wp2
  go_quiet (fail)
  go_wp2
  go_ret3
  exact ⟨rfl, below_drewN (Below.refl _ _) _⟩

theorem set_self {cs : Array Value} {j : Nat} {v : Value} (h : j < cs.size) : (cs.setIfInBounds j v)[j]? = some v := by simp [h]
theorem set_ne {cs : Array Value} {j k : Nat} {v : Value} (h : j ≠ k) : (cs.setIfInBounds j v)[k]? = cs[k]? := Array.getElem?_setIfInBounds_ne h
theorem cells3_sn {cs : Array Value} {n : Nat} {f : Nat → One} (h : cells3 cs n f) {k : Nat} (hk : k < n) (s : Bool) : cells3 (cs.setIfInBounds (k * 3 + 2) (.bool s)) n (upd f k ⟨(f k).st, (f k).hd, s⟩) := by
  refine ⟨by simpa using h.1, fun i hi => ?_⟩
  have := h.1
  obtain ⟨a, b, c⟩ := h.2 i hi
  by_cases e : i = k
  · subst e
    rw [upd_same]
    refine ⟨by rw [Array.getElem?_setIfInBounds_ne (by omega)]; exact a, by rw [Array.getElem?_setIfInBounds_ne (by omega)]; exact b, set_self (by omega)⟩
  · rw [upd_other _ _ e]
    refine ⟨?_, ?_, ?_⟩ <;> rw [Array.getElem?_setIfInBounds_ne (by omega)] <;> assumption
theorem cells3_hd {cs : Array Value} {n : Nat} {f : Nat → One} (h : cells3 cs n f) {k : Nat} (hk : k < n) (s : Bool) : cells3 (cs.setIfInBounds (k * 3 + 1) (.bool s)) n (upd f k ⟨(f k).st, s, (f k).sn⟩) := by
  refine ⟨by simpa using h.1, fun i hi => ?_⟩
  have := h.1
  obtain ⟨a, b, c⟩ := h.2 i hi
  by_cases e : i = k
  · subst e
    rw [upd_same]
    refine ⟨by rw [Array.getElem?_setIfInBounds_ne (by omega)]; exact a, set_self (by omega), by rw [Array.getElem?_setIfInBounds_ne (by omega)]; exact c⟩
  · rw [upd_other _ _ e]
    refine ⟨?_, ?_, ?_⟩ <;> rw [Array.getElem?_setIfInBounds_ne (by omega)] <;> assumption
theorem cells3_all {cs : Array Value} {n : Nat} {f : Nat → One} (h : cells3 cs n f) {k : Nat} (hk : k < n) (x : One) :
    cells3 (((cs.setIfInBounds (k * 3) (.int .i64 (x.st : Int))).setIfInBounds (k * 3 + 1) (.bool x.hd)).setIfInBounds (k * 3 + 2) (.bool x.sn)) n (upd f k x) := by
  refine ⟨by simpa using h.1, fun i hi => ?_⟩
  have := h.1
  obtain ⟨a, b, c⟩ := h.2 i hi
  by_cases e : i = k
  · subst e
    rw [upd_same]
    refine ⟨?_, ?_, set_self (by simp only [Array.size_setIfInBounds]; omega)⟩
    · rw [set_ne (by omega), set_ne (by omega)]; exact set_self (by omega)
    · rw [set_ne (by omega)]; exact set_self (by simp only [Array.size_setIfInBounds]; omega)
  · rw [upd_other _ _ e]
    refine ⟨?_, ?_, ?_⟩ <;> (rw [Array.getElem?_setIfInBounds_ne (by omega), Array.getElem?_setIfInBounds_ne (by omega), Array.getElem?_setIfInBounds_ne (by omega)]; assumption)

/-- Whether Mark marks; what it makes of the table. -/
def tMarks (n : Nat) (f : Nat → One) (i : Int) (s : Bool) : Bool := tState n f i == 2 && !tBlack n f i s
def tMark (n : Nat) (f : Nat → One) (i : Int) (s : Bool) : Nat → One := if tMarks n f i s then upd f i.toNat ⟨(f i.toNat).st, (f i.toNat).hd, s⟩ else f
def tBears (n : Nat) (f : Nat → One) (i : Int) : Bool := tState n f i == 2 && !tHead n f i
def tBorn (n : Nat) (f : Nat → One) (i : Int) : Nat → One := if tBears n f i then upd f i.toNat ⟨(f i.toNat).st, true, (f i.toNat).sn⟩ else f

theorem tIn_of_state {n : Nat} {f : Nat → One} {i : Int} (h : tState n f i = 2) : tIn n i := by
  unfold tState at h; split at h
  · assumption
  · omega
theorem cnt_st {f : Nat → One} {k : Nat} {x : One} (hx : x.st = (f k).st) (s n : Nat) : cnt (upd f k x) s n = cnt f s n := by
  rw [cnt_upd, hx]; split <;> omega

set_option maxHeartbeats 400000 in
theorem tint_mark_walk {b g n : Nat} {c1 c2 c3 : Value} {cs : Array Value} {f : Nat → One} {w : World} (k : Nat) (s : Bool) (h : Blk w b #[.slice (some ⟨g, 0, none⟩) n n, c1, c2, c3] 80) (hg : Blk w g cs 82) (h3 : cells3 cs n f) (hk : k < n)
    (hs : Calls Try.prog 34 #[.pointer (some ⟨b, 0, none⟩), .int .i64 (k : Int)] w fun e w' => e = .returned (.int .i64 2) ∧ w = w')
    (hb : Calls Try.prog 31 #[.pointer (some ⟨b, 0, none⟩), .int .i64 (k : Int), .bool s] w fun e w' => e = .returned (.bool false) ∧ w = w') :
    Calls Try.prog 33 #[.pointer (some ⟨b, 0, none⟩), .int .i64 (k : Int), .bool s] w fun e w' => e = .returned (.bool true) ∧ w' = w.setCell ⟨g, k * 3 + 2, none⟩ (.bool s) := by
  have h2 : w.cell? ⟨b, 0, none⟩ = some (.slice (some ⟨g, 0, none⟩) n n) := by rw [h.cell]; rfl
  have h4 : w.cell? ⟨g, k * 3 + 2, none⟩ = some (.bool (f k).sn) := by rw [hg.cell]; exact (h3.2 k hk).2.2
  have h5 : w.frozen? ⟨g, k * 3 + 2, none⟩ = false := hg.free _
  have HS := Lib.hid hs
  have HB := Lib.hid hb
  clear h hg h3 hs hb
  go_enter Try.func33, Try.ntmps33
  go_wp2_with fail
  with_reducible refine HS.out.mono ?_
  rintro e w' ⟨rfl, rfl⟩
  go_wp2_with fail
  with_reducible refine HB.out.mono ?_
  rintro e w' ⟨rfl, rfl⟩
  go_wp2_with fail
  go_ret
  exact ⟨rfl, rfl⟩
set_option maxHeartbeats 400000 in
theorem tint_mark_no {b : Nat} {i st : Int} {s : Bool} {w : World}
    (hs : Calls Try.prog 34 #[.pointer (some ⟨b, 0, none⟩), .int .i64 i] w fun e w' => e = .returned (.int .i64 st) ∧ w = w')
    (hb : st = 2 → Calls Try.prog 31 #[.pointer (some ⟨b, 0, none⟩), .int .i64 i, .bool s] w fun e w' => e = .returned (.bool true) ∧ w = w') :
    Calls Try.prog 33 #[.pointer (some ⟨b, 0, none⟩), .int .i64 i, .bool s] w fun e w' => e = .returned (.bool false) ∧ w = w' := by
  have HS := Lib.hid hs
  by_cases h2 : st = 2
  · have HB := Lib.hid (hb h2)
    subst h2
    clear hs hb
    go_enter Try.func33, Try.ntmps33
    go_wp2_with fail
    with_reducible refine HS.out.mono ?_
    rintro e w' ⟨rfl, rfl⟩
    go_wp2_with fail
    with_reducible refine HB.out.mono ?_
    rintro e w' ⟨rfl, rfl⟩
    go_wp2_with fail
    go_ret
    exact ⟨rfl, rfl⟩
  · have h3 : (st == 2) = false := by simpa using h2
    have h4 : (st != 2) = true := by simpa using h2
    clear hs hb h2
    go_enter Try.func33, Try.ntmps33
    go_wp2_with fail
    with_reducible refine HS.out.mono ?_
    rintro e w' ⟨rfl, rfl⟩
    go_wp2_with fail
    go_ret
    exact ⟨rfl, rfl⟩

/-- MARK. -/
theorem tint_mark {b n : Nat} {f : Nat → One} (i : Int) (s : Bool) {S : Nat → Prop} {w : World} (h : (Tab b n f).at_ S w) :
    Calls Try.prog 33 #[.pointer (some ⟨b, 0, none⟩), .int .i64 i, .bool s] w fun e w' => e = .returned (.bool (tMarks n f i s)) ∧ Goes (Tab b n (tMark n f i s)) S w w' := by
  have hst := tint_state i h
  have hbl := tint_black i s h
  unfold tMark
  cases hm : tMarks n f i s with
  | true =>
    simp only [tMarks, Bool.and_eq_true, beq_iff_eq, Bool.not_eq_true'] at hm
    have hi := tIn_of_state hm.1
    rw [hm.1] at hst
    rw [hm.2] at hbl
    obtain ⟨k, rfl⟩ : ∃ k : Nat, i = (k : Int) := ⟨i.toNat, by have := hi.1; omega⟩
    have hk : k < n := by have := hi.2; omega
    obtain ⟨g, cs, h1, h2, h3, h4, h5, h6, h7, h8, h9⟩ := h
    refine (tint_mark_walk k s h1 h2 h3 hk hst hbl).mono fun e w' ⟨he, hw⟩ => ?_
    subst hw
    refine ⟨he, ⟨S, ⟨g, _, ?_, h2.set _ _, ?_, h4, h5, h6, ?_, h8, fun k hk => by simpa using h9 k hk⟩, fun k hk => .inl hk⟩, (Turned.refl S w).setCell (.inl h5) _⟩
    · simp only [if_true, Int.toNat_natCast]
      rw [cnt_st (f := f) (k := k) (x := ⟨(f k).st, (f k).hd, s⟩) rfl 0, cnt_st (f := f) (k := k) (x := ⟨(f k).st, (f k).hd, s⟩) rfl 1, cnt_st (f := f) (k := k) (x := ⟨(f k).st, (f k).hd, s⟩) rfl 2]
      exact h1.far h6 _
    · simpa using cells3_sn h3 hk s
    · intro j hj
      simp only [if_true, Int.toNat_natCast, upd]
      split
      · exact h7 k hk
      · exact h7 j hj
  | false =>
    refine (tint_mark_no hst (fun h2 => ?_)).mono fun e w' ⟨he, hw⟩ => ?_
    · have h2' : tState n f i = 2 := by omega
      simp only [tMarks, h2', beq_self_eq_true, Bool.true_and, Bool.not_eq_false'] at hm
      rw [hm] at hbl
      exact hbl
    · subst hw
      exact ⟨he, ⟨S, by simpa using h, fun k hk => .inl hk⟩, Turned.refl S w⟩
end Go.Proofs.Ytcdmlimhkmbiiaa
