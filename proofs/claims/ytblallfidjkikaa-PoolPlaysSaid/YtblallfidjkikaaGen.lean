/- Small things that many walks need. -/
import Derived.Test.YtblallfidjkikaaSep
import Derived.Test.YtblallfidjkikaaProg
import Derived.LoopTactic
import Derived.Deep.QuietTactic
import Derived.BigQuiet
import Derived.StillTailTactics
import Derived.Deep.RegionWith
import Derived.Deep.RegionHeld3
import Derived.RegionTactic
import Derived.BigRegion
import Derived.Deep.DeepCutAuto
namespace Go.Proofs.Ytblallfidjkikaa
open Go.RowKit

theorem St.conv {W w : World} {A B : Thing} (h : St W A w) (hc : ∀ S w, A.at_ S w → B.at_ S w) : St W B w := ⟨⟨_, hc _ _ h.1.choose_spec.1, h.1.choose_spec.2⟩, h.2⟩
theorem look_quiet {P : Program} {f : FuncId} {args : Array Value} {w : World} {n : Nat} {v : Value}
    (h : Calls P f args (w.drewN n) fun e w' => e = .returned v ∧ w.drewN n = w') : Calls P f args (w.drewN n) fun e w'' => e = .returned v ∧ ∃ m, w'' = w.drewN m :=
  Calls.quiet_of_same (h.mono fun _ _ ⟨he, hw⟩ => ⟨he, hw.symm⟩)
theorem St.drewN {W w : World} {A : Thing} (h : St W A w) (n : Nat) : St W A (w.drewN n) := h.later (below_drewN (Below.refl _ _) n)
theorem St.onward {W w : World} {A : Thing} {w' : World} (h : Below W.heap.size W w) (hs : St w A w') : St W A w' :=
  ⟨⟨_, hs.1.choose_spec.1, fun k hk => Nat.le_trans h.size (hs.1.choose_spec.2 k hk)⟩, h.trans (hs.2.mono h.size)⟩
theorem take_get {zs : List Int} {i : Nat} {x : Int} (h : Hid (zs.take (i + 1) = zs.take i ++ [x])) (hi : i < zs.length) : zs[i]?.getD 0 = x := by
  have e := congrArg (fun l => l[i]?) h
  simp only [List.getElem?_take, List.getElem?_append] at e
  simp at e
  rw [e, if_neg (by omega), show i - min i zs.length = 0 by omega]; rfl
section
variable {P : Program} {f : FuncId} {args : Array Value} {w w1 w2 : World} {R : Ending → Prop} {O O' : Thing} {S : Nat → Prop}
/-- Steps behind one another. -/
theorem Goes.then (h : Goes O S w w1) (hc : ∀ S', O.at_ S' w1 → Goes O' S' w1 w2) : Goes O' S w w2 := by
  obtain ⟨⟨S1, a1, a2⟩, a3⟩ := h
  obtain ⟨⟨S2, b1, b2⟩, b3⟩ := hc S1 a1
  exact ⟨⟨S2, b1, fun k hk => (b2 k hk).elim (a2 k) fun h => .inr (Nat.le_trans a3.size h)⟩, a3.trans b3 (fun _ h => h) a2⟩
theorem Goes.call (h : Goes O S w w1) (hc : ∀ S', O.at_ S' w1 → Calls P f args w1 fun e w2 => R e ∧ Goes O' S' w1 w2) : Calls P f args w1 fun e w2 => R e ∧ Goes O' S w w2 := by
  obtain ⟨⟨S1, a1, a2⟩, a3⟩ := h
  exact (hc S1 a1).mono fun e w2 ⟨he, hg⟩ => ⟨he, by
    obtain ⟨⟨S2, b1, b2⟩, b3⟩ := hg
    exact ⟨⟨S2, b1, fun k hk => (b2 k hk).elim (a2 k) fun h => .inr (Nat.le_trans a3.size h)⟩, a3.trans b3 (fun _ h => h) a2⟩⟩
theorem Goes.look (h : Goes O S w w1) (hc : ∀ S', O.at_ S' w1 → Calls P f args w1 fun e w2 => R e ∧ w1 = w2) : Calls P f args w1 fun e w2 => R e ∧ w1 = w2 := hc _ h.now.choose_spec.1
end
end Go.Proofs.Ytblallfidjkikaa
