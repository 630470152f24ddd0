/- What is shared: its inside hidden, but for what the machine's steps need. -/
import Derived.Test.YtnkgnhpapcnebaaGreatM1
import Derived.Test.YtnkgnhpapcnebaaGreatM6
import Derived.Test.YtnkgnhpapcnebaaGreatM8
import Derived.Test.YtnkgnhpapcnebaaGreatM9
import Derived.Test.YtnkgnhpapcnebaaGreatM10
import Derived.Test.YtnkgnhpapcnebaaGreatM3
import Derived.Test.YtnkgnhpapcnebaaGreatM5
set_option linter.unusedVariables false
set_option linter.unusedSimpArgs false
set_option maxHeartbeats 8000000
namespace Go.Proofs.YtnkgnhpapcnebaaGreat
open Go.RowKit
attribute [local go_sem] run_store_complex
section
variable {P : Program} {f : FuncId} {args : Array Value} {w w' w1 w2 : World} {α : Type} {R : α → Ending → Prop} {A B C O : Thing} {O' : α → Thing} {S U : Nat → Prop}
/-- Call contracts that hand back some x. -/
def Does (P : Program) (f : FuncId) (args : Array Value) (w : World) (O : Thing) (R : α → Ending → Prop) (O' : α → Thing) : Prop :=
  ∀ S, O.at_ S w → Calls P f args w fun e w' => ∃ x, R x e ∧ Goes (O' x) S w w'
set_option maxRecDepth 100000 in
theorem Does.l (h : Does P f args w A R O') : Does P f args w (Sep A B) R (fun x => Sep (O' x) B) := sepLx h
set_option maxRecDepth 100000 in
theorem Does.r (h : Does P f args w A R O') : Does P f args w (Sep B A) R (fun x => Sep B (O' x)) := sepRx h
set_option maxRecDepth 100000 in
theorem Does.on (h : Does P f args w1 O R O') (hg : Goes O S w w1) : Calls P f args w1 fun e w2 => ∃ x, R x e ∧ Goes (O' x) S w w2 := hg.callx h
set_option maxRecDepth 100000 in
theorem Does.ofGoes {v : Value} {A' : Thing} (h : ∀ S, A.at_ S w → Calls P f args w fun e w' => e = .returned v ∧ Goes A' S w w') : Does P f args w A (fun (_ : Unit) e => e = .returned v) (fun _ => A') :=
  fun S hs => (h S hs).mono fun e w' ⟨h1, h2⟩ => ⟨(), h1, h2⟩
set_option maxRecDepth 100000 in
theorem Does.ofLook {v : Value} (h : ∀ S, A.at_ S w → Calls P f args w fun e w' => e = .returned v ∧ w = w') : Does P f args w A (fun (_ : Unit) e => e = .returned v) (fun _ => A) :=
  fun S hs => (h S hs).mono fun e w' ⟨h1, h2⟩ => ⟨(), h1, h2 ▸ Goes.same hs⟩
set_option maxRecDepth 100000 in
theorem Does.ofSee {v : Value} (h : ∀ S, A.at_ S w → Calls P f args w fun e w' => e = .returned v ∧ Below w.heap.size w w') : Does P f args w A (fun (_ : Unit) e => e = .returned v) (fun _ => A) :=
  fun S hs => (h S hs).mono fun e w' ⟨h1, h2⟩ => ⟨(), h1, Goes.later hs h2⟩
set_option maxRecDepth 100000 in
theorem Does.conv {β : Type} {A2 : Thing} {R2 : β → Ending → Prop} {O2 : β → Thing} (h : Does P f args w A2 R2 O2) (h1 : ∀ S w, A.at_ S w → A2.at_ S w)
    (h2 : ∀ y e, R2 y e → ∃ x, R x e ∧ ∀ S w, (O2 y).at_ S w → (O' x).at_ S w) : Does P f args w A R O' :=
  fun S hs => (h S (h1 S w hs)).mono fun e w' ⟨y, he, hg⟩ => let ⟨x, hx, hk⟩ := h2 y e he; ⟨x, hx, hg.conv hk⟩
set_option maxRecDepth 100000 in
theorem Does.assoc {O1 O2 O3 : α → Thing} (h : Does P f args w (Sep A (Sep B C)) R (fun x => Sep (O1 x) (Sep (O2 x) (O3 x)))) : Does P f args w (Sep (Sep A B) C) R (fun x => Sep (Sep (O1 x) (O2 x)) (O3 x)) :=
  h.conv (fun _ _ h => sepAt.assoc h) fun y e he => ⟨y, he, fun _ _ h => sepAt.assoc' h⟩
set_option maxRecDepth 100000 in
theorem Does.assoc' {O1 O2 O3 : α → Thing} (h : Does P f args w (Sep (Sep A B) C) R (fun x => Sep (Sep (O1 x) (O2 x)) (O3 x))) : Does P f args w (Sep A (Sep B C)) R (fun x => Sep (O1 x) (Sep (O2 x) (O3 x))) :=
  h.conv (fun _ _ h => sepAt.assoc' h) fun y e he => ⟨y, he, fun _ _ h => sepAt.assoc h⟩
set_option maxRecDepth 100000 in
theorem Does.swap {O1 O2 : α → Thing} (h : Does P f args w (Sep A B) R (fun x => Sep (O1 x) (O2 x))) : Does P f args w (Sep B A) R (fun x => Sep (O2 x) (O1 x)) :=
  h.conv (fun _ _ h => sepAt.swap h) fun y e he => ⟨y, he, fun _ _ h => sepAt.swap h⟩
set_option maxRecDepth 100000 in
/-- With something new beside it. -/
theorem Does.lX {O1 Y : α → Thing} (h : Does P f args w A R (fun x => Sep (O1 x) (Y x))) : Does P f args w (Sep A B) R (fun x => Sep (Sep (O1 x) B) (Y x)) :=
  Does.conv (R2 := R) h.l (fun _ _ h => h) fun y e he => ⟨y, he, fun S w h => sepAt.assoc' (sepAt.monoR (fun S h => sepAt.swap h) (sepAt.assoc h))⟩
set_option maxRecDepth 100000 in
theorem Does.rX {O1 Y : α → Thing} (h : Does P f args w A R (fun x => Sep (O1 x) (Y x))) : Does P f args w (Sep B A) R (fun x => Sep (Sep B (O1 x)) (Y x)) :=
  Does.conv (R2 := R) h.r (fun _ _ h => h) fun y e he => ⟨y, he, fun S w h => sepAt.assoc' h⟩
set_option maxRecDepth 100000 in
theorem Does.assocX {O1 O2 O3 Y : α → Thing} (h : Does P f args w (Sep (Sep A B) C) R (fun x => Sep (Sep (Sep (O1 x) (O2 x)) (O3 x)) (Y x))) : Does P f args w (Sep A (Sep B C)) R (fun x => Sep (Sep (O1 x) (Sep (O2 x) (O3 x))) (Y x)) :=
  Does.conv (R2 := R) h (fun _ _ h => sepAt.assoc' h) fun y e he => ⟨y, he, fun S w h => sepAt.monoL (fun S h => sepAt.assoc h) h⟩
/-- One of things in a row, beside another thing. -/
def updT (T : Nat → Thing) (j : Nat) (X : Thing) : Nat → Thing := fun k => if k = j then X else T k
set_option maxRecDepth 100000 in
theorem all_congr {T T' : Nat → Thing} : ∀ {n : Nat}, (∀ k, k < n → T k = T' k) → All n T = All n T'
  | 0, _ => rfl
  | n + 1, h => by simp only [All]; rw [all_congr (n := n) fun k hk => h k (by omega), h n (by omega)]
set_option maxRecDepth 100000 in
theorem Does.all {T : Nat → Thing} {C : Thing} {C' : α → Thing} {X : α → Thing} : ∀ {n j : Nat}, j < n → Does P f args w (Sep C (T j)) R (fun x => Sep (C' x) (X x)) → Does P f args w (Sep C (All n T)) R (fun x => Sep (C' x) (All n (updT T j (X x))))
  | 0, _, h, _ => absurd h (Nat.not_lt_zero _)
  | n + 1, j, hj, h => by
    by_cases e : j = n
    · subst e
      refine Does.conv (R2 := R) (O2 := fun x => Sep (Sep (C' x) (X x)) (All j T)) (h.l) (fun S w h => sepAt.assoc' (sepAt.monoR (fun S h => sepAt.swap h) h)) fun y e he => ⟨y, he, fun S w h => ?_⟩
      have e1 : All (j + 1) (updT T j (X y)) = Sep (All j T) (X y) := by
        simp only [All]; rw [all_congr (T := updT T j (X y)) (T' := T) fun k hk => by simp [updT]; omega]; simp [updT]
      rw [e1]
      exact sepAt.monoR (fun S h => sepAt.swap h) (sepAt.assoc h)
    · have ih := Does.all (n := n) (j := j) (T := T) (by omega) h
      refine Does.conv (R2 := R) (O2 := fun x => Sep (Sep (C' x) (All n (updT T j (X x)))) (T n)) (ih.l) (fun S w h => sepAt.assoc' h) fun y e he => ⟨y, he, fun S w h => ?_⟩
      have e1 : All (n + 1) (updT T j (X y)) = Sep (All n (updT T j (X y))) (T n) := by simp only [All]; simp [updT, show n ≠ j by omega]
      rw [e1]
      exact sepAt.assoc h
end
/-! The shades, the table within. -/
structure ShX where
  bp : Nat
  f : Nat → One
  xs : List Int
  lost : Bool
  ct : Int
/-- Only F can be a head, and only where bn holds; nothing else lies on the pile. -/
structure ShX.ok (F : Nat) (bn : Bool) (m : Nat) (x : ShX) : Prop where
  hd : ∀ j, (x.f j).hd = true → j = F ∧ bn = true
  pile : ∀ y ∈ x.xs, y = (F : Int) ∧ bn = true
  room : x.xs.length ≤ m
  small : m ≤ 256
def ShI (b bt n m F : Nat) (bn : Bool) : Thing := Ex fun x : ShX => Pu (x.ok F bn m) (Shade b bt x.bp n x.f x.xs (m : Int) x.lost x.ct)
section
variable {b bt n m F : Nat} {bn : Bool} {S : Nat → Prop} {w w' : World}
set_option maxRecDepth 100000 in
theorem shi_mk {x : ShX} (hx : x.ok F bn m) (h : Goes (Shade b bt x.bp n x.f x.xs (m : Int) x.lost x.ct) S w w') : Goes (ShI b bt n m F bn) S w w' := h.conv fun S w h => ⟨x, hx, h⟩
/-- Some bool is handed back. -/
def aBool (p : Bool → Prop) (r : Bool) (e : Ending) : Prop := e = .returned (.bool r) ∧ p r
set_option maxRecDepth 100000 in
theorem tHead_hd {f : Nat → One} {i : Int} (h : tHead n f i = true) : ∃ k : Nat, i = k ∧ (f k).hd = true ∧ k < n := by
  unfold tHead at h; split at h
  · rename_i hh; exact ⟨i.toNat, by have := hh.1; omega, h, by have := hh.1; have := hh.2; omega⟩
  · simp at h
set_option maxRecDepth 100000 in
theorem tMark_hd {f : Nat → One} {i : Int} {s : Bool} (j : Nat) : ((tMark n f i s) j).hd = (f j).hd := by
  unfold tMark; split
  · unfold upd; split
    · rename_i e; subst e; rfl
    · rfl
  · rfl
set_option maxRecDepth 100000 in
theorem shi_grey (s : Bool) (w : World) : Does Tryz.prog 85 #[.pointer (some ⟨b, 0, none⟩), .int .i64 (F : Int), .bool s] w (ShI b bt n m F bn) (aBool fun _ => True) (fun _ => ShI b bt n m F bn) := by
  rintro S ⟨⟨bp, f, xs, lost, ct⟩, ok, h⟩
  change (Shade b bt bp n f xs (m : Int) lost ct).at_ S w at h
  cases hw : sWhite n f F s with
  | false => exact (shade_grey_no _ s h hw).mono fun e w' ⟨he, hg⟩ => ⟨false, ⟨he, trivial⟩, shi_mk (x := ⟨bp, f, xs, lost, wrap64 (ct + 1)⟩) ⟨ok.hd, ok.pile, ok.room, ok.small⟩ hg⟩
  | true =>
    have hh : tHead n f F = true := by unfold sWhite at hw; simp at hw; exact hw.1
    obtain ⟨k, hk, hk2, _⟩ := tHead_hd hh
    have hbn := (ok.hd k hk2).2
    have hd : ∀ j, ((tMark n f F s) j).hd = true → j = F ∧ bn = true := fun j hj => ok.hd j (by rw [tMark_hd] at hj; exact hj)
    have hr : xs.length ≤ m := ok.room
    have hs : m ≤ 256 := ok.small
    by_cases hm : xs.length < m
    · refine (shade_grey_lt _ s h hw (by omega) (by omega)).mono fun e w' ⟨he, hg⟩ => ⟨true, ⟨he, trivial⟩, shi_mk (x := ⟨bp, tMark n f F s, xs ++ [(F : Int)], lost, wrap64 (ct + 1)⟩) ⟨hd, fun y hy => ?_, by show (xs ++ [(F : Int)]).length ≤ m; simp; omega, ok.small⟩ hg⟩
      simp at hy
      rcases hy with hy | hy
      · exact ok.pile y hy
      · exact ⟨hy, hbn⟩
    · exact (shade_grey_eq _ s h hw (by omega) (by omega)).mono fun e w' ⟨he, hg⟩ => ⟨true, ⟨he, trivial⟩, shi_mk (x := ⟨bp, tMark n f F s, xs, true, wrap64 (ct + 1)⟩) ⟨hd, ok.pile, ok.room, ok.small⟩ hg⟩
set_option maxRecDepth 100000 in
theorem shi_black (i : Int) (s : Bool) (w : World) : Does Tryz.prog 93 #[.pointer (some ⟨b, 0, none⟩), .int .i64 i, .bool s] w (ShI b bt n m F bn) (aBool fun r => r = true → i = (F : Int) ∧ bn = true) (fun _ => ShI b bt n m F bn) := by
  rintro S ⟨⟨bp, f, xs, lost, ct⟩, ok, h⟩
  change (Shade b bt bp n f xs (m : Int) lost ct).at_ S w at h
  refine (shade_black i s h).mono fun e w' ⟨he, hg⟩ => ⟨_, ⟨he, fun hr => ?_⟩, shi_mk (x := ⟨bp, f, xs, lost, wrap64 (ct + 1)⟩) ⟨ok.hd, ok.pile, ok.room, ok.small⟩ hg⟩
  simp at hr
  obtain ⟨k, hk, hk2, _⟩ := tHead_hd hr.1
  have := ok.hd k hk2
  exact ⟨by omega, this.2⟩
/-- A number and a bool are handed back. -/
def aPair (p : Int → Bool → Prop) (r : Int × Bool) (e : Ending) : Prop := e = .returned (.tuple #[.int .i64 r.1, .bool r.2]) ∧ p r.1 r.2
set_option maxRecDepth 100000 in
theorem shi_next (w : World) : Does Tryz.prog 88 #[.pointer (some ⟨b, 0, none⟩)] w (ShI b bt n m F bn) (aPair fun i r => r = true → i = (F : Int) ∧ bn = true) (fun _ => ShI b bt n m F bn) := by
  rintro S ⟨⟨bp, f, xs, lost, ct⟩, ok, h⟩
  change (Shade b bt bp n f xs (m : Int) lost ct).at_ S w at h
  rcases List.eq_nil_or_concat xs with rfl | ⟨ys, y, rfl⟩
  · exact (shade_next_none h).mono fun e w' ⟨he, hg⟩ => ⟨(0, false), ⟨he, fun h => by simp at h⟩, shi_mk (x := ⟨bp, f, [], lost, wrap64 (ct + 1)⟩) ⟨ok.hd, ok.pile, ok.room, ok.small⟩ hg⟩
  · rw [List.concat_eq_append] at h ok
    have hy := ok.pile y (by simp)
    have hr : (ys ++ [y]).length ≤ m := ok.room
    simp at hr
    exact (shade_next h).mono fun e w' ⟨he, hg⟩ => ⟨(y, true), ⟨he, fun _ => hy⟩, shi_mk (x := ⟨bp, f, ys, lost, wrap64 (ct + 1)⟩) ⟨ok.hd, fun z hz => ok.pile z (by simp [hz]), by show ys.length ≤ m; omega, ok.small⟩ hg⟩
set_option maxRecDepth 100000 in
theorem shi_lost (w : World) : Does Tryz.prog 92 #[.pointer (some ⟨b, 0, none⟩)] w (ShI b bt n m F bn) (aBool fun _ => True) (fun _ => ShI b bt n m F bn) := by
  rintro S ⟨⟨bp, f, xs, lost, ct⟩, ok, h⟩
  change (Shade b bt bp n f xs (m : Int) lost ct).at_ S w at h
  exact (shade_lost h).mono fun e w' ⟨he, hg⟩ => ⟨_, ⟨he, trivial⟩, shi_mk (x := ⟨bp, f, xs, false, wrap64 (ct + 1)⟩) ⟨ok.hd, ok.pile, ok.room, ok.small⟩ hg⟩
set_option maxRecDepth 100000 in
/-- What is done to the table alone. -/
theorem shi_tab {P : Program} {g : FuncId} {args : Array Value} {α : Type} {R : α → Ending → Prop} {bn' : α → Bool} (hb : ∀ x, bn = true → bn' x = true)
    (hc : ∀ f : Nat → One, (∀ j, (f j).hd = true → j = F ∧ bn = true) → ∀ S, (Tab bt n f).at_ S w → Calls P g args w fun e w' => ∃ x, R x e ∧ ∃ f' : Nat → One, (∀ j, (f' j).hd = true → j = F ∧ bn' x = true) ∧ Goes (Tab bt n f') S w w') :
    Does P g args w (ShI b bt n m F bn) R (fun x => ShI b bt n m F (bn' x)) := by
  rintro S ⟨⟨bp, f, xs, lost, ct⟩, ok, h⟩
  change (Shade b bt bp n f xs (m : Int) lost ct).at_ S w at h
  have hk := (Goes.begin h).callx (sepRx (sepLx (R := fun (x : (x : α) × {f' : Nat → One // ∀ j, (f' j).hd = true → j = F ∧ bn' x = true}) e => R x.1 e) (A' := fun x => Tab bt n x.2.1) fun S hs => (hc f ok.hd S hs).mono fun e w' ⟨x, hx, f', hf, hg⟩ => ⟨⟨x, f', hf⟩, hx, hg⟩))
  exact hk.mono fun e w' ⟨x, hx, hg⟩ => ⟨x.1, hx, shi_mk (x := ⟨bp, x.2.1, xs, lost, ct⟩) ⟨x.2.2, fun y hy => ⟨(ok.pile y hy).1, hb _ (ok.pile y hy).2⟩, ok.room, ok.small⟩ hg⟩
set_option maxRecDepth 100000 in
/-- The table's own. -/
theorem tab_state (i : Int) (w : World) : Does Tryz.prog 64 #[.pointer (some ⟨bt, 0, none⟩), .int .i64 i] w (ShI b bt n m F bn) (fun (k : Nat) e => e = .returned (.int .i64 (k : Int))) (fun _ => ShI b bt n m F bn) :=
  shi_tab (bn' := fun _ => bn) (fun _ h => h) fun f hf S h => (tint_state i h).mono fun e w' ⟨he, hw⟩ => ⟨_, he, f, hf, hw ▸ Goes.same h⟩
set_option maxRecDepth 100000 in
theorem tab_black (i : Int) (s : Bool) (w : World) : Does Tryz.prog 150 #[.pointer (some ⟨bt, 0, none⟩), .int .i64 i, .bool s] w (ShI b bt n m F bn) (aBool fun _ => True) (fun _ => ShI b bt n m F bn) :=
  shi_tab (bn' := fun _ => bn) (fun _ h => h) fun f hf S h => (tint_black i s h).mono fun e w' ⟨he, hw⟩ => ⟨_, ⟨he, trivial⟩, f, hf, hw ▸ Goes.same h⟩
set_option maxRecDepth 100000 in
theorem tab_set (i st : Int) (sn : Bool) (w : World) : Does Tryz.prog 216 #[.pointer (some ⟨bt, 0, none⟩), .int .i64 i, .int .i64 st, .bool false, .bool sn] w (ShI b bt n m F bn) (aBool fun _ => True) (fun _ => ShI b bt n m F bn) :=
  shi_tab (bn' := fun _ => bn) (fun _ h => h) fun f hf S h => (tint_set i st false sn h).mono fun e w' ⟨he, hg⟩ => ⟨_, ⟨he, trivial⟩, tSet n f i st false sn, fun j hj => by
    unfold tSet at hj; split at hj
    · unfold upd at hj; split at hj
      · simp at hj
      · exact hf j hj
    · exact hf j hj, hg⟩
set_option maxRecDepth 100000 in
theorem tab_born (w : World) : Does Tryz.prog 246 #[.pointer (some ⟨bt, 0, none⟩), .int .i64 (F : Int)] w (ShI b bt n m F bn) (aBool fun _ => True) (fun r => ShI b bt n m F (bn || r)) :=
  shi_tab (bn' := fun r => bn || r) (fun _ h => by simp [h]) fun f hf S h => (tint_born F h).mono fun e w' ⟨he, hg⟩ => ⟨_, ⟨he, trivial⟩, _, fun j hj => by
    unfold tBorn at hj; split at hj
    · rename_i hb
      unfold upd at hj; split at hj
      · rename_i e; exact ⟨by simpa using e, by simp [hb]⟩
      · have := hf j hj; exact ⟨this.1, by simp [this.2]⟩
    · have := hf j hj; exact ⟨this.1, by simp [this.2]⟩, hg⟩
end
end Go.Proofs.YtnkgnhpapcnebaaGreat
/- The core: its things, and calls on its parts. -/
namespace Go.Proofs.YtnkgnhpapcnebaaGreat
open Go.RowKit
attribute [local go_sem] run_store_complex
def PoI (b n : Nat) (ask : Bool) : Thing := Ex fun x : Nat × (Nat → Bool) => Pu (ask = false → x.2 = full) (Pool b x.1 n x.2)
def CoI (b s : Nat) : Thing := Ex fun cur : Bool => Coil b (s : Int) ⟨cur, 0, 0, 0⟩
def ptrs (f : Nat → Nat) (n : Nat) : List Value := (List.range n).map fun j => .pointer (some ⟨f j, 0, none⟩)
def Stks (v : Value) (n : Nat) : Thing := Ex fun f : Nat → Nat => Sep (Seq 1 v n (ptrs f n)) (All n fun j => Stk (f j))
structure SpX where
  g : Nat
  cap : Nat
  p : Nat
  k : Nat
  w : Nat
  sv : Value
  forced : Bool
  ct : Int
def spCells (c : Cf) (bt : Nat) (x : SpX) : Array Value := #[.pointer (some ⟨bt, 0, none⟩), x.sv, .bool x.forced, .int .i64 x.ct, .int .i64 c.frags, .int .i64 c.spine, .int .i64 c.globals, .int .i64 c.threads, .int .i64 c.locals, .int .i64 0, .int .i64 c.stack, .int .i64 c.low, .slice (some ⟨x.g, 0, none⟩) c.shapes.length x.cap,
  .pointer (some ⟨x.p, 0, none⟩), .pointer (some ⟨x.k, 0, none⟩), .pointer (some ⟨x.w, 0, none⟩)]
def Sp (b bt : Nat) (c : Cf) (ask : Bool) (x : SpX) : Thing :=
  Sep (Var b (spCells c bt x) 163) (Sep (Conf c x.g x.cap) (Sep (PoI x.p c.frags ask) (Sep (CoI x.k c.spine) (Sep (Lne x.w) (Stks x.sv c.threads)))))
def SpI (b bt : Nat) (c : Cf) (ask : Bool) : Thing := Ex fun x : SpX => Sp b bt c ask x
/-- Where the core's parts lie. -/
structure CA where
  b : Nat
  g : Nat
  cap : Nat
  bm : Nat
  bs : Nat
  bt : Nat
  bsp : Nat
  bh : Nat
/-- What is known of the core: how many words of the object are written; whether it is born, published, asked for; the number in its field; the hands. -/
structure Mq where
  wr : Nat
  pb : Bool
  lk : Nat
  li : Nat
structure Hq where
  st : Int
  sn : Bool
  own : Nat → Int
structure Q where
  m : Mq
  h : Hq
  bn : Bool
  ask : Bool
def Cf.F (c : Cf) : Nat := c.frags - 1
def Cf.words (c : Cf) : Nat := c.frags * 8 + c.spine + c.spine + c.globals
def Cf.l0 (c : Cf) : List Bool := (c.shapes.head?.getD (false, [])).2
def plB (l : List Bool) (j : Nat) : Nat := if j ≤ 1 then 1 else if l[j - 2]? = some true then 1 else 0
def Cf.glob (c : Cf) (g : Nat) : Nat := c.frags * 8 + c.spine + c.spine + g
structure MemOk (c : Cf) (q : Mq) (m : Nat → Value) : Prop where
  plan : ∀ j, j < 8 → j ≠ 4 → j < q.wr → m (c.F * 8 + j) = cx 0 (plB c.l0 j)
  last : m (c.F * 8 + 4) = cx q.lk q.li
  glob : ∀ g, g < c.globals → m (c.glob g) = cx (if g = 0 ∧ q.pb = true then c.F + 1 else 0) 1
def MemI (b : Nat) (c : Cf) (q : Mq) : Thing := Ex fun x : Nat × (Nat → Value) => Pu (MemOk c q x.2) (Mem b x.1 c.words x.2)
def HnI (b n : Nat) (q : Hq) : Thing := Ex fun x : Nat × Int => Hnd b x.1 n q.st q.sn q.own x.2
def coreCells (c : Cf) (A : CA) : Array Value := #[.int .i64 c.frags, .int .i64 c.spine, .int .i64 c.globals, .int .i64 c.threads, .int .i64 c.locals, .int .i64 0, .int .i64 c.stack, .int .i64 c.low, .slice (some ⟨A.g, 0, none⟩) c.shapes.length A.cap,
  .pointer (some ⟨A.bm, 0, none⟩), .pointer (some ⟨A.bs, 0, none⟩), .pointer (some ⟨A.bsp, 0, none⟩), .pointer (some ⟨A.bh, 0, none⟩)]
def Core (A : CA) (c : Cf) (q : Q) : Thing :=
  Sep (Var A.b (coreCells c A) 114) (Sep (Conf c A.g A.cap) (Sep (MemI A.bm c q.m) (Sep (ShI A.bs A.bt c.frags c.stack c.F q.bn) (Sep (SpI A.bsp A.bt c q.ask) (HnI A.bh c.threads q.h)))))
section
variable {P : Program} {f : FuncId} {args : Array Value} {w w' w1 w2 : World} {α : Type} {R : α → Ending → Prop} {A : CA} {c : Cf} {q : Q} {S U : Nat → Prop} {X : Thing}
set_option maxRecDepth 100000 in
theorem core_mem {m : α → Mq} (h : Does P f args w (MemI A.bm c q.m) R (fun x => MemI A.bm c (m x))) : Does P f args w (Core A c q) R (fun x => Core A c { q with m := m x }) := (h.l.r.r : Does P f args w (Core A c q) R _)
set_option maxRecDepth 100000 in
theorem core_memR (h : Does P f args w (MemI A.bm c q.m) R (fun _ => MemI A.bm c q.m)) : Does P f args w (Core A c q) R (fun _ => Core A c q) := (h.l.r.r : Does P f args w (Core A c q) R _)
set_option maxRecDepth 100000 in
theorem core_sh (h : Does P f args w (ShI A.bs A.bt c.frags c.stack c.F q.bn) R (fun _ => ShI A.bs A.bt c.frags c.stack c.F q.bn)) : Does P f args w (Core A c q) R (fun _ => Core A c q) := (h.l.r.r.r : Does P f args w (Core A c q) R _)
set_option maxRecDepth 100000 in
theorem core_spR (h : Does P f args w (SpI A.bsp A.bt c q.ask) R (fun _ => SpI A.bsp A.bt c q.ask)) : Does P f args w (Core A c q) R (fun _ => Core A c q) := (h.l.r.r.r.r : Does P f args w (Core A c q) R _)
set_option maxRecDepth 100000 in
theorem core_hn {k : α → Hq} (h : Does P f args w (HnI A.bh c.threads q.h) R (fun x => HnI A.bh c.threads (k x))) : Does P f args w (Core A c q) R (fun x => Core A c { q with h := k x }) := (h.r.r.r.r.r : Does P f args w (Core A c q) R _)
set_option maxRecDepth 100000 in
theorem core_hnR (h : Does P f args w (HnI A.bh c.threads q.h) R (fun _ => HnI A.bh c.threads q.h)) : Does P f args w (Core A c q) R (fun _ => Core A c q) := (h.r.r.r.r.r : Does P f args w (Core A c q) R _)
set_option maxRecDepth 100000 in
/-- The table beside the space. -/
theorem core_two {bn ask : α → Bool} (h : Does P f args w (Sep (ShI A.bs A.bt c.frags c.stack c.F q.bn) (SpI A.bsp A.bt c q.ask)) R (fun x => Sep (ShI A.bs A.bt c.frags c.stack c.F (bn x)) (SpI A.bsp A.bt c (ask x)))) :
    Does P f args w (Core A c q) R (fun x => Core A c { q with bn := bn x, ask := ask x }) :=
  ((h.l.assoc').r.r.r : Does P f args w (Core A c q) R _)
set_option maxRecDepth 100000 in
theorem core_twoX {bn ask : α → Bool} {Y : α → Thing} (h : Does P f args w (Sep (ShI A.bs A.bt c.frags c.stack c.F q.bn) (SpI A.bsp A.bt c q.ask)) R (fun x => Sep (Sep (ShI A.bs A.bt c.frags c.stack c.F (bn x)) (SpI A.bsp A.bt c (ask x))) (Y x))) :
    Does P f args w (Core A c q) R (fun x => Sep (Core A c { q with bn := bn x, ask := ask x }) (Y x)) := by
  exact ((((h.lX (B := HnI A.bh c.threads q.h)).assocX).rX).rX).rX
set_option maxRecDepth 100000 in
theorem core_confIs (h : (Core A c q).at_ S w) : ∃ S, (Conf c A.g A.cap).at_ S w := by
  obtain ⟨S1, h1, _⟩ := sepAt.r h
  obtain ⟨S2, h2, _⟩ := sepAt.l h1
  exact ⟨S2, h2⟩
set_option maxRecDepth 100000 in
theorem core9 (h : Goes (Core A c q) S w w') :
    w'.cell? ⟨A.b, 0, none⟩ = some (.int .i64 c.frags) ∧ w'.cell? ⟨A.b, 1, none⟩ = some (.int .i64 c.spine) ∧ w'.cell? ⟨A.b, 2, none⟩ = some (.int .i64 c.globals) ∧ w'.cell? ⟨A.b, 3, none⟩ = some (.int .i64 c.threads) ∧
    w'.cell? ⟨A.b, 4, none⟩ = some (.int .i64 c.locals) ∧ w'.cell? ⟨A.b, 5, none⟩ = some (.int .i64 0) ∧ w'.cell? ⟨A.b, 6, none⟩ = some (.int .i64 c.stack) ∧ w'.cell? ⟨A.b, 7, none⟩ = some (.int .i64 c.low) ∧ w'.cell? ⟨A.b, 8, none⟩ = some (.slice (some ⟨A.g, 0, none⟩) c.shapes.length A.cap) :=
  ⟨h.c 0 rfl, h.c 1 rfl, h.c 2 rfl, h.c 3 rfl, h.c 4 rfl, h.c 5 rfl, h.c 6 rfl, h.c 7 rfl, h.c 8 rfl⟩
end
end Go.Proofs.YtnkgnhpapcnebaaGreat
/- A region that draws its order, walked once: its calls leave a thing as it was. -/
namespace Go.Proofs.YtnkgnhpapcnebaaGreat
open Go.RowKit
/-- A world behind a step of the thing. -/
structure In (O : Thing) (S : Nat → Prop) (w0 : World) where
  w : World
  h : Goes O S w0 w
section
variable {P : Program} {O : Thing} {S : Nat → Prop} {w0 w : World} {f : FuncId} {args : Array Value} {v : Value}
theorem In.call {i : In O S w0} (h : ∀ w1, Goes O S w0 w1 → Calls P f args w1 fun e w2 => e = .returned v ∧ Goes O S w0 w2) : Calls P f args i.w fun e w2 => e = .returned v ∧ ∃ j : In O S w0, w2 = j.w :=
  (h i.w i.h).mono fun _ w2 ⟨he, hg⟩ => ⟨he, ⟨w2, hg⟩, rfl⟩
theorem wp_region_in {id : Nat} {Q : Exit → Act → World → Prop} {a : Act} {l : List Oper} (hm : P.follows .mixedOrders = true) (hB : Region.lexB .any l.toArray = true) (hg : Goes O S w0 w.drew)
    (h : wpQuiet P l.toArray (fun w' => ∃ i : In O S w0, w' = i.w) (fun a' => ∀ w', Goes O S w0 w' → Q .normal a' w') l a) : (Code.region id l.toArray true).wp P Q a w := by
  refine wp_region_quiet (C := fun w' => ∃ i : In O S w0, w' = i.w) hm hB ⟨⟨_, hg⟩, rfl⟩ ?_
  have e : (fun a' => ∀ w', Goes O S w0 w' → Q .normal a' w') = fun a' => ∀ w', (∃ i : In O S w0, w' = i.w) → Q .normal a' w' := by
    funext a'; apply propext
    exact ⟨fun h w' ⟨i, hi⟩ => h w' (hi ▸ i.h), fun h w' hg => h w' ⟨⟨w', hg⟩, rfl⟩⟩
  rw [← e]
  simpa using h
end
end Go.Proofs.YtnkgnhpapcnebaaGreat
/- The contracts of package trace: an object in one fragment. -/
namespace Go.Proofs.YtnkgnhpapcnebaaGreat
open Go.RowKit
attribute [local go_sem] run_store_complex
structure Tr where
  head : Nat
  sense : Bool
  pc : Int
  rv : Value
  words : Value
  next : Int
  steps : Int
def trCells (c : Cf) (g cap : Nat) (t : Tr) : Array Value := #[.int .i64 c.frags, .int .i64 c.spine, .int .i64 c.globals, .int .i64 c.threads, .int .i64 c.locals, .int .i64 0, .int .i64 c.stack, .int .i64 c.low, .slice (some ⟨g, 0, none⟩) c.shapes.length cap,
  .int .i64 (t.head : Int), .bool t.sense, .int .i64 t.pc, .bool false, t.rv, .int .i64 (t.head : Int), .int .i64 0, t.words, .int .i64 t.next, .int .i64 0, .int .i64 0, .int .i64 0, .int .i64 0, .int .i64 t.steps]
/-- A trace, and what belongs to it beside its configuration. -/
def Trace (b : Nat) (c : Cf) (g cap : Nat) (t : Tr) (X : Thing) : Thing := Sep (Var b (trCells c g cap t) 219) (Sep (Conf c g cap) X)
section
variable {c : Cf} {b g cap : Nat} {t : Tr} {bm gm n : Nat} {m : Nat → Value} {S : Nat → Prop} {w w' : World} {X Y : Thing}
set_option maxRecDepth 100000 in
theorem tr9 (h : Goes (Trace b c g cap t X) S w w') :
    w'.cell? ⟨b, 0, none⟩ = some (.int .i64 c.frags) ∧ w'.cell? ⟨b, 1, none⟩ = some (.int .i64 c.spine) ∧ w'.cell? ⟨b, 2, none⟩ = some (.int .i64 c.globals) ∧ w'.cell? ⟨b, 3, none⟩ = some (.int .i64 c.threads) ∧
    w'.cell? ⟨b, 4, none⟩ = some (.int .i64 c.locals) ∧ w'.cell? ⟨b, 5, none⟩ = some (.int .i64 0) ∧ w'.cell? ⟨b, 6, none⟩ = some (.int .i64 c.stack) ∧ w'.cell? ⟨b, 7, none⟩ = some (.int .i64 c.low) ∧ w'.cell? ⟨b, 8, none⟩ = some (.slice (some ⟨g, 0, none⟩) c.shapes.length cap) :=
  ⟨h.c 0 rfl, h.c 1 rfl, h.c 2 rfl, h.c 3 rfl, h.c 4 rfl, h.c 5 rfl, h.c 6 rfl, h.c 7 rfl, h.c 8 rfl⟩
def tr0 (head : Nat) (sense : Bool) : Tr := ⟨head, sense, 0, .slice none 0 0, .slice none 0 0, 0, 0⟩
set_option maxRecDepth 100000 in
theorem emp_more {A : Thing} (h : A.at_ S w) : (Sep A Emp).at_ S w := ⟨S, fun _ => False, h, fun _ h => h, fun _ _ h => h, fun _ h => h, fun _ h => h.elim, fun _ h => .inl h⟩
set_option maxRecDepth 100000 in
theorem trace_new (head : Nat) (sense : Bool) (hc : c.ok) (h : (Conf c g cap).at_ S w) :
    Calls Tryz.prog 89 #[cfV c g cap, .int .i64 (head : Int), .bool sense] w fun e w' => ∃ b g' cap', e = .returned (.pointer (some ⟨b, 0, none⟩)) ∧ St w (Trace b c g' cap' (tr0 head sense) Emp) w' := by
  have hb0 : Below w.heap.size w (w.alloc (.cells (cfCells c (.slice (some ⟨g, 0, none⟩) c.shapes.length cap)) 36)) := (Below.refl w.heap.size w).alloc (Nat.le_refl _) _
  have C0 : Blk (w.alloc (.cells (cfCells c (.slice (some ⟨g, 0, none⟩) c.shapes.length cap)) 36)) w.heap.size (cfCells c (.slice (some ⟨g, 0, none⟩) c.shapes.length cap)) 36 := Blk.new w _ _
  have HB0 := Lib.hid hb0
  have HC0 := Lib.hid C0
  have HK := Lib.hid (fun w' hb => conf_copy hc (keep (w' := w') h hb))
  unfold cfV at *
  simp only [cfCells] at *
  clear h hc hb0
  go_enter Tryz.func89, Tryz.ntmps89
  go_upto_region 1 with fail
  generalize w.alloc _ = W1 at *
  obtain ⟨c0, c1, c2, c3, c4, c5, c6, c7, c8⟩ := cf9 C0
  clear C0
  go_wp2_with fail
  with_reducible refine (HK.out _ HB0.out).mono ?_
  rintro e w9 ⟨g', cap', rfl, hs⟩
  have hs := hs.onward HB0.out
  have hs := hs.conv fun S w h => emp_more h
  have hs2 := Lib.hid ((hs.var (trCells c g' cap' (tr0 head sense)) 219).swap)
  clear c0 c1 c2 c3 c4 c5 c6 c7 c8 HK HB0 HC0 hs
  unfold cfV
  simp only [trCells, tr0] at hs2
  go_wp2_with fail
  go_ret
  exact ⟨_, g', cap', rfl, hs2.out⟩
set_option maxRecDepth 100000 in
theorem trace_read (i k : Nat) (hc : c.ok) (hi : i < c.frags) (hk : k < 8) (hn : i * 8 + k < n) (hn2 : n ≤ 20000) (h : (Sep (Trace b c g cap t X) (Sep (Mem bm gm n m) Y)).at_ S w) :
    Calls Tryz.prog 266 #[.pointer (some ⟨b, 0, none⟩), .pointer (some ⟨bm, 0, none⟩), .int .i64 (i : Int), .int .i64 (k : Int)] w fun e w' => e = .returned (.tuple #[m (i * 8 + k), .bool true]) ∧ Goes (Sep (Trace b c g cap t X) (Sep (Mem bm gm n m) Y)) S w w' := by
  have g0 := Goes.begin h
  obtain ⟨c0, c1, c2, c3, c4, c5, c6, c7, c8⟩ := tr9 g0.l
  have HA := Lib.hid (area_frag i k hc g0.l.r.l.is hi hk)
  have G0 := Lib.hid g0
  clear g0 h hc
  unfold cfV at *
  go_enter Tryz.func266, Tryz.ntmps266
  go_wp2_with fail
  with_reducible refine (HA.out).mono ?_
  rintro e w1 ⟨rfl, hb⟩
  have G1 := G0.out.below_ hb
  have HM := Lib.hid (G1.call (sepR (sepL fun S h => mem_read (i * 8 + k) h hn hn2)))
  rw [show (((i * 8 + k : Nat)) : Int) = (i : Int) * 8 + k by omega] at HM
  clear c0 c1 c2 c3 c4 c5 c6 c7 c8 G0 hb HA G1
  go_wp2_with fail
  with_reducible refine (HM.out).mono ?_
  rintro e w2 ⟨rfl, hg⟩
  have G2 := Lib.hid hg
  clear hg HM
  go_wp2_with fail
  go_ret2
  exact ⟨rfl, G2.out⟩
set_option maxRecDepth 100000 in
theorem trace_errno (h : (Trace b c g cap t X).at_ S w) : Calls Tryz.prog 146 #[.pointer (some ⟨b, 0, none⟩)] w fun e w' => e = .returned (.int .i64 0) ∧ w = w' := by
  have c0 := (Goes.begin h).c 21 (v := .int .i64 0) rfl
  clear h
  go_enter Tryz.func146, Tryz.ntmps146
  go_wp2_with fail
  go_ret
  exact ⟨rfl, rfl⟩
/-- The words of the references among the first q fields. -/
def wordsTo (l : List Bool) : Nat → List Int
  | 0 => []
  | q + 1 => if l.getD q false = true then wordsTo l q ++ [2 + (q : Int)] else wordsTo l q
set_option maxRecDepth 100000 in
theorem wordsTo_len (l : List Bool) (q : Nat) : (wordsTo l q).length ≤ q := by
  induction q with
  | zero => exact Nat.le_refl _
  | succ q ih =>
    simp only [wordsTo]; split
    · rw [List.length_append]; simp; omega
    · omega
set_option maxRecDepth 100000 in
theorem trace_refs {l : List Bool} {k0 : Nat} {x0 : Option Addr} (hl : l.length ≤ 6) (hx : t.rv = .slice x0 l.length k0) (h : (Trace b c g cap t (Sep (Refs t.rv l) X)).at_ S w) :
    Calls Tryz.prog 295 #[.pointer (some ⟨b, 0, none⟩)] w fun e w' => ∃ v, e = .returned v ∧ Goes (Sep (Trace b c g cap t (Sep (Refs t.rv l) X)) (RowG 3 1 v (wordsTo l l.length).length ((wordsTo l l.length).map (Value.int .i64)))) S w w' := by
  obtain ⟨i0, hi, hz0, hz1, hz2⟩ := info_parts Tryz.info3
  have g0 := Goes.begin h
  have c12 := g0.c 12 (v := .bool false) rfl
  have c13 := g0.c 13 (v := t.rv) rfl
  rw [hx] at c13
  have G0 : Goes (Sep (Trace b c g cap t (Sep (Refs t.rv l) X)) (RowG 3 1 (.slice none 0 0) 0 [])) S w w := g0.more ⟨_, rowG_nil 3 1 w, fun k hk => hk.elim⟩ (Below.refl _ _)
  have HX := Lib.hid hx
  have HG0 := Lib.hid G0
  clear g0 h hx G0
  go_enter Tryz.func295, Tryz.ntmps295
  go_wp2_with fail
  go_loopw [3, 5, 6, 7, 8, 9, 56] (fun v _ _ _ _ _ i wr => ∃ q : Nat, q ≤ l.length ∧ i = .int .i64 q ∧ Goes (Sep (Trace b c g cap t (Sep (Refs t.rv l) X)) (RowG 3 1 v (wordsTo l q).length ((wordsTo l q).map (Value.int .i64)))) S w wr) (fun _ _ _ _ _ _ i _ => l.length - (intOf i).toNat)
  case atStart => exact ⟨0, Nat.zero_le _, rfl, HG0.out⟩
  case round =>
    obtain ⟨q, hq, rfl, hg⟩ := hrel
    by_cases hlt : q < l.length
    · obtain ⟨r, rfl, hcell⟩ := hg.l.r.r.l.refs HX.out (List.getElem?_eq_getElem hlt)
      have d12 := hg.l.c 12 (v := .bool false) rfl
      have d13 := hg.l.c 13 (v := t.rv) rfl
      rw [HX.out] at d13
      have d15 := hg.l.c 15 (v := .int .i64 0) rfl
      have hwl := wordsTo_len l q
      have HP := Lib.hid (fun w => shape_place (some ⟨r, 0, none⟩) l.length k0 q w hl hlt)
      have hstep : wordsTo l (q + 1) = if l[q] = true then wordsTo l q ++ [2 + (q : Int)] else wordsTo l q := by simp only [wordsTo]; simp [hlt]
      have HST := Lib.hid hstep
      have HG := Lib.hid hg
      clear hg hstep c12 c13
      generalize hb9 : l[q] = rb at *
      have HLE := Lib.hid hwl
      clear hb9 hwl
      cases rb with
      | false =>
        go_wp2_with fail
        with_reducible refine (HP.out _).mono ?_
        rintro e w1 ⟨rfl, hb⟩
        have H1 := Lib.hid (HG.out.below_ hb)
        clear HP hb HG d12 d13 d15 hcell
        go_wp2_with fail
        go_round
        case rel => exact ⟨q + 1, by omega, by go_num, by rw [HST.out]; exact H1.out⟩
        case measure => simp [intOf]; omega
      | true =>
        go_wp2_with fail
        with_reducible refine (HP.out _).mono ?_
        rintro e w1 ⟨rfl, hb⟩
        have G1 := HG.out.below_ hb
        have d15 := G1.l.c 15 (v := .int .i64 0) rfl
        have hrow := G1.r.is.1
        have H1 := Lib.hid G1
        have HR := Lib.hid hrow
        clear HP hb HG d12 d13 hcell G1 hrow
        go_wp2_with (at_builtin; refine wpList_app rfl _ _ 22 rfl 3 i0 (.int .i64 0) 1 8 Tryz.underlying22 hi hz0 hz1 hz2 rfl (by decide) _ _ _ rfl (HR.out.alloc _) ⟨w1.heap.size, 0, none⟩ 1 1 [.int .i64 (2 + (q : Int))] rfl rfl ?c1 ?c2 ?c3 (by decide) ?_)
        case c1 =>
          intro j u hj
          rw [add_none, (Blk.new w1 #[.int .i64 (2 + (q : Int))] 3).cell, Nat.zero_add]
          simpa using hj
        case c2 => intro u hu; simp at hu; subst hu; rfl
        case c3 => have := HLE.out; omega
        intro v' w2 ho hgr hbk
        have H2 := Lib.hid (H1.out.then fun S h => goesR (fun S h => rowG_push h ((Below.refl w1.heap.size w1).alloc (Nat.le_refl _) (.cells #[.int .i64 (2 + (q : Int))] 3)) ho hgr (by simpa using hbk)) S h)
        clear H1 HR ho hgr hbk d15
        go_wp2_with fail
        go_round
        case rel => exact ⟨q + 1, by omega, by go_num, by rw [HST.out]; have := H2.out; simpa using this⟩
        case measure => simp [intOf]; omega
    · obtain rfl : q = l.length := by omega
      have HG := Lib.hid hg
      clear hg c12 c13
      go_wp2_with fail
      go_ret
      exact ⟨_, rfl, HG.out⟩
end
end Go.Proofs.YtnkgnhpapcnebaaGreat
