/-
  No cell of these rows narrows 'for every input' (looked for: loops, veiled, ifaces, maps, wideKeys, modest, calm, conditions, laid).
  DERIVED. THE GIVEN ROWS OF THIS SEAT. 4 by the template 'for every input the law returns true; each argument reads behind the call as it read before'; 0 by the template 'total and deterministic' (their statements: YtmfnfeadpelckaaTotals.lean).
  GIVEN WITH THE SEED: the statements are not yours to turn. If you find one false, say at which input.
  Laid BY PROGRAM, IN A SANDBOX (cutbox-rows.mjs): the forced cells as the released guide's own fill.sh prints them over the translation 534c0bd6ff123161… (all of the seat's roots in one cut). By AI agents, Wed Nov 11 2026. No macro, syntax, notation, axiom, sorry.
-/
import Derived.Test.YtmfnfeadpelckaaChecked
import GoSem.Claim
import GoSem.ClaimJoined
import GoSem.ClaimMapViews
import Derived.JoinedTies
import Derived.KernelRfl
namespace Go.Proofs.Ytmfnfeadpelckaa
/- THE CELL 'sum', in the pinned program and in every row, IS THE sha256 OF THE DUMP (.gsa) THAT YtmfnfeadpelckaaProg.lean LOADS. Nothing in Lean hashes anything: it is a label: what it is worth is what the hold of that sum in a sandbox is worth. -/
noncomputable def Try.pinned : Pinned := { name := "ytmfnfeadpelckaa", sum := "534c0bd6ff123161a292be54420497f2a0f6e5bfafbbc90cd9c4ad62f2565694", checked := Try.checked }
namespace Rows
def none {H : Type} : Left H := { results := [], args := [] }

/-- 'spolaw18.HandRounds': WHATEVER THE INPUT: true; the input reads as it did. -/
def handRoundsSpec : ChangeSpec := { name := "handRounds", fn := fun _ => fun
  | [d1, d2, d3] => { results := [.lit (.bool true)], args := [d1, d2, d3] }
  | _ => none }
def handRoundsRow : OpenClaim := { program := "ytmfnfeadpelckaa", sum := "534c0bd6ff123161a292be54420497f2a0f6e5bfafbbc90cd9c4ad62f2565694", func := "spolia/spolaw18.HandRounds", spec := "handRounds", apart := false }
def HandRoundsSaid : Prop := handRoundsRow.holds Try.pinned (OpenSpec.ofChange handRoundsSpec)

/-- ITS FALSE NEIGHBOUR: 'it returns false'. Refute it at one input. -/
def handRoundsWrong : ChangeSpec := { name := "handRounds", fn := fun _ => fun
  | [d1, d2, d3] => { results := [.lit (.bool false)], args := [d1, d2, d3] }
  | _ => none }
def HandRoundsWrongFalsely : Prop := handRoundsRow.holds Try.pinned (OpenSpec.ofChange handRoundsWrong)

/-- 'spolaw18.HandSense': WHATEVER THE INPUT: true; the input reads as it did. -/
def handSenseSpec : ChangeSpec := { name := "handSense", fn := fun _ => fun
  | [d1, d2] => { results := [.lit (.bool true)], args := [d1, d2] }
  | _ => none }
def handSenseRow : OpenClaim := { program := "ytmfnfeadpelckaa", sum := "534c0bd6ff123161a292be54420497f2a0f6e5bfafbbc90cd9c4ad62f2565694", func := "spolia/spolaw18.HandSense", spec := "handSense", apart := false }
def HandSenseSaid : Prop := handSenseRow.holds Try.pinned (OpenSpec.ofChange handSenseSpec)

/-- ITS FALSE NEIGHBOUR: 'it returns false'. Refute it at one input. -/
def handSenseWrong : ChangeSpec := { name := "handSense", fn := fun _ => fun
  | [d1, d2] => { results := [.lit (.bool false)], args := [d1, d2] }
  | _ => none }
def HandSenseWrongFalsely : Prop := handSenseRow.holds Try.pinned (OpenSpec.ofChange handSenseWrong)

/-- 'spolaw18.HandAll': WHATEVER THE INPUT: true; the input reads as it did. -/
def handAllSpec : ChangeSpec := { name := "handAll", fn := fun _ => fun
  | [d1, d2, d3, d4] => { results := [.lit (.bool true)], args := [d1, d2, d3, d4] }
  | _ => none }
def handAllRow : OpenClaim := { program := "ytmfnfeadpelckaa", sum := "534c0bd6ff123161a292be54420497f2a0f6e5bfafbbc90cd9c4ad62f2565694", func := "spolia/spolaw18.HandAll", spec := "handAll", apart := false }
def HandAllSaid : Prop := handAllRow.holds Try.pinned (OpenSpec.ofChange handAllSpec)

/-- ITS FALSE NEIGHBOUR: 'it returns false'. Refute it at one input. -/
def handAllWrong : ChangeSpec := { name := "handAll", fn := fun _ => fun
  | [d1, d2, d3, d4] => { results := [.lit (.bool false)], args := [d1, d2, d3, d4] }
  | _ => none }
def HandAllWrongFalsely : Prop := handAllRow.holds Try.pinned (OpenSpec.ofChange handAllWrong)

/-- 'spolaw18.HandPlays': WHATEVER THE INPUT: true; the input reads as it did. -/
def handPlaysSpec : ChangeSpec := { name := "handPlays", fn := fun _ => fun
  | [d1, d2] => { results := [.lit (.bool true)], args := [d1, d2] }
  | _ => none }
def handPlaysRow : OpenClaim := { program := "ytmfnfeadpelckaa", sum := "534c0bd6ff123161a292be54420497f2a0f6e5bfafbbc90cd9c4ad62f2565694", func := "spolia/spolaw18.HandPlays", spec := "handPlays", apart := false }
def HandPlaysSaid : Prop := handPlaysRow.holds Try.pinned (OpenSpec.ofChange handPlaysSpec)

/-- ITS FALSE NEIGHBOUR: 'it returns false'. Refute it at one input. -/
def handPlaysWrong : ChangeSpec := { name := "handPlays", fn := fun _ => fun
  | [d1, d2] => { results := [.lit (.bool false)], args := [d1, d2] }
  | _ => none }
def HandPlaysWrongFalsely : Prop := handPlaysRow.holds Try.pinned (OpenSpec.ofChange handPlaysWrong)

/- THE SECOND FORM. 'bulk': how many values and letters a reading holds, each counted each time it is reached (what is shared counts as often as it is met; a slice's spare places count too). A statement '..UptoSaid' is the law's where the arguments, and the package variables that the reading takes, are together of bulk at most 1048576: NARROWER than '..Said'. Prove '..Said' where nothing that the law and all that it calls make is longer than what came in: it says more and counts as full. Else prove '..UptoSaid'. A law counts once. -/
mutual
def uptoBulk {H : Type} : DataW H → Nat
  | .lit (.string bytes) => bytes.length + 1
  | .lit _ => 1
  | .nil => 1
  | .ptr d => uptoBulk d + 1
  | .slice elems spare => uptoBulkAll elems + uptoBulkAll spare + 1
  | .agg parts => uptoBulkAll parts + 1
  | .iface _ d => uptoBulk d + 1
  | .map entries => uptoBulkEntries entries + 1
  | .held _ => 1
def uptoBulkAll {H : Type} : List (DataW H) → Nat
  | [] => 0
  | d :: r => uptoBulk d + uptoBulkAll r
def uptoBulkEntries {H : Type} : List (Lit × DataW H) → Nat
  | [] => 0
  | x :: r => uptoBulkEntry x + uptoBulkEntries r
def uptoBulkEntry {H : Type} : Lit × DataW H → Nat
  | (.string bytes, d) => bytes.length + uptoBulk d + 1
  | (_, d) => uptoBulk d + 1
 end
def uptoSmall : (H : Type) → List (DataW H) → Bool := fun _ ds => decide (uptoBulkAll ds ≤ 1048576)
def OpenSpec.upto (s : _root_.Go.ChangeSpec) : _root_.Go.OpenSpec := { _root_.Go.OpenSpec.ofChange s with cond := some uptoSmall }

/-- 'spolaw18.HandRounds', WHERE WHAT IT READS IS OF BULK AT MOST 1048576: true; the input reads as it did. -/
def handRoundsUptoRow : OpenClaim := { program := "ytmfnfeadpelckaa", sum := "534c0bd6ff123161a292be54420497f2a0f6e5bfafbbc90cd9c4ad62f2565694", func := "spolia/spolaw18.HandRounds", spec := "handRounds", apart := false, narrowed := true }
def HandRoundsUptoSaid : Prop := handRoundsUptoRow.holds Try.pinned (OpenSpec.upto handRoundsSpec)

/-- 'spolaw18.HandSense', WHERE WHAT IT READS IS OF BULK AT MOST 1048576: true; the input reads as it did. -/
def handSenseUptoRow : OpenClaim := { program := "ytmfnfeadpelckaa", sum := "534c0bd6ff123161a292be54420497f2a0f6e5bfafbbc90cd9c4ad62f2565694", func := "spolia/spolaw18.HandSense", spec := "handSense", apart := false, narrowed := true }
def HandSenseUptoSaid : Prop := handSenseUptoRow.holds Try.pinned (OpenSpec.upto handSenseSpec)

/-- 'spolaw18.HandAll', WHERE WHAT IT READS IS OF BULK AT MOST 1048576: true; the input reads as it did. -/
def handAllUptoRow : OpenClaim := { program := "ytmfnfeadpelckaa", sum := "534c0bd6ff123161a292be54420497f2a0f6e5bfafbbc90cd9c4ad62f2565694", func := "spolia/spolaw18.HandAll", spec := "handAll", apart := false, narrowed := true }
def HandAllUptoSaid : Prop := handAllUptoRow.holds Try.pinned (OpenSpec.upto handAllSpec)

/-- 'spolaw18.HandPlays', WHERE WHAT IT READS IS OF BULK AT MOST 1048576: true; the input reads as it did. -/
def handPlaysUptoRow : OpenClaim := { program := "ytmfnfeadpelckaa", sum := "534c0bd6ff123161a292be54420497f2a0f6e5bfafbbc90cd9c4ad62f2565694", func := "spolia/spolaw18.HandPlays", spec := "handPlays", apart := false, narrowed := true }
def HandPlaysUptoSaid : Prop := handPlaysUptoRow.holds Try.pinned (OpenSpec.upto handPlaysSpec)

end Rows
end Go.Proofs.Ytmfnfeadpelckaa
