/-
  No cell of these rows narrows 'for every input' (looked for: loops, veiled, ifaces, maps, wideKeys, modest, calm, conditions, laid).
  DERIVED. THE GIVEN ROWS OF THIS SEAT. 13 by the template 'for every input the law returns true; each argument reads behind the call as it read before'; 0 by the template 'total and deterministic' (their statements: YtcdmlimhkmbiiaaTotals.lean).
  GIVEN WITH THE SEED: the statements are not yours to turn. If you find one false, say at which input.
  Laid BY PROGRAM, IN A SANDBOX (cutbox-rows.mjs): the forced cells as the released guide's own fill.sh prints them over the translation 4f83727b0acc8987… (all of the seat's roots in one cut). By AI agents, Wed Nov 11 2026. No macro, syntax, notation, axiom, sorry.
-/
import Derived.Test.YtcdmlimhkmbiiaaChecked
import GoSem.Claim
import GoSem.ClaimJoined
import GoSem.ClaimMapViews
import Derived.JoinedTies
import Derived.KernelRfl
namespace Go.Proofs.Ytcdmlimhkmbiiaa
/- THE CELL 'sum', in the pinned program and in every row, IS THE sha256 OF THE DUMP (.gsa) THAT YtcdmlimhkmbiiaaProg.lean LOADS. Nothing in Lean hashes anything: it is a label: what it is worth is what the hold of that sum in a sandbox is worth. -/
noncomputable def Try.pinned : Pinned := { name := "ytcdmlimhkmbiiaa", sum := "4f83727b0acc8987a109a0421e9cb9da91bc262b56703248fd2b8dd89c618467", checked := Try.checked }
namespace Rows
def none {H : Type} : Left H := { results := [], args := [] }

/-- 'spolaw14.PileOdd': WHATEVER THE INPUT: true; the input reads as it did. -/
def pileOddSpec : ChangeSpec := { name := "pileOdd", fn := fun _ => fun
  | [d] => { results := [.lit (.bool true)], args := [d] }
  | _ => none }
def pileOddRow : OpenClaim := { program := "ytcdmlimhkmbiiaa", sum := "4f83727b0acc8987a109a0421e9cb9da91bc262b56703248fd2b8dd89c618467", func := "spolia/spolaw14.PileOdd", spec := "pileOdd", apart := false }
def PileOddSaid : Prop := pileOddRow.holds Try.pinned (OpenSpec.ofChange pileOddSpec)

/-- ITS FALSE NEIGHBOUR: 'it returns false'. Refute it at one input. -/
def pileOddWrong : ChangeSpec := { name := "pileOdd", fn := fun _ => fun
  | [d] => { results := [.lit (.bool false)], args := [d] }
  | _ => none }
def PileOddWrongFalsely : Prop := pileOddRow.holds Try.pinned (OpenSpec.ofChange pileOddWrong)

/-- 'spolaw14.PilePlays': WHATEVER THE INPUT: true; the input reads as it did. -/
def pilePlaysSpec : ChangeSpec := { name := "pilePlays", fn := fun _ => fun
  | [d1, d2] => { results := [.lit (.bool true)], args := [d1, d2] }
  | _ => none }
def pilePlaysRow : OpenClaim := { program := "ytcdmlimhkmbiiaa", sum := "4f83727b0acc8987a109a0421e9cb9da91bc262b56703248fd2b8dd89c618467", func := "spolia/spolaw14.PilePlays", spec := "pilePlays", apart := false }
def PilePlaysSaid : Prop := pilePlaysRow.holds Try.pinned (OpenSpec.ofChange pilePlaysSpec)

/-- ITS FALSE NEIGHBOUR: 'it returns false'. Refute it at one input. -/
def pilePlaysWrong : ChangeSpec := { name := "pilePlays", fn := fun _ => fun
  | [d1, d2] => { results := [.lit (.bool false)], args := [d1, d2] }
  | _ => none }
def PilePlaysWrongFalsely : Prop := pilePlaysRow.holds Try.pinned (OpenSpec.ofChange pilePlaysWrong)

/-- 'spolaw14.PileLast': WHATEVER THE INPUT: true; the input reads as it did. -/
def pileLastSpec : ChangeSpec := { name := "pileLast", fn := fun _ => fun
  | [d1, d2] => { results := [.lit (.bool true)], args := [d1, d2] }
  | _ => none }
def pileLastRow : OpenClaim := { program := "ytcdmlimhkmbiiaa", sum := "4f83727b0acc8987a109a0421e9cb9da91bc262b56703248fd2b8dd89c618467", func := "spolia/spolaw14.PileLast", spec := "pileLast", apart := false }
def PileLastSaid : Prop := pileLastRow.holds Try.pinned (OpenSpec.ofChange pileLastSpec)

/-- ITS FALSE NEIGHBOUR: 'it returns false'. Refute it at one input. -/
def pileLastWrong : ChangeSpec := { name := "pileLast", fn := fun _ => fun
  | [d1, d2] => { results := [.lit (.bool false)], args := [d1, d2] }
  | _ => none }
def PileLastWrongFalsely : Prop := pileLastRow.holds Try.pinned (OpenSpec.ofChange pileLastWrong)

/-- 'spolaw14.PileDeep': WHATEVER THE INPUT: true; the input reads as it did. -/
def pileDeepSpec : ChangeSpec := { name := "pileDeep", fn := fun _ => fun
  | [d1, d2] => { results := [.lit (.bool true)], args := [d1, d2] }
  | _ => none }
def pileDeepRow : OpenClaim := { program := "ytcdmlimhkmbiiaa", sum := "4f83727b0acc8987a109a0421e9cb9da91bc262b56703248fd2b8dd89c618467", func := "spolia/spolaw14.PileDeep", spec := "pileDeep", apart := false }
def PileDeepSaid : Prop := pileDeepRow.holds Try.pinned (OpenSpec.ofChange pileDeepSpec)

/-- ITS FALSE NEIGHBOUR: 'it returns false'. Refute it at one input. -/
def pileDeepWrong : ChangeSpec := { name := "pileDeep", fn := fun _ => fun
  | [d1, d2] => { results := [.lit (.bool false)], args := [d1, d2] }
  | _ => none }
def PileDeepWrongFalsely : Prop := pileDeepRow.holds Try.pinned (OpenSpec.ofChange pileDeepWrong)

/-- 'spolaw7.TintFlips': WHATEVER THE INPUT: true; the input reads as it did. -/
def tintFlipsSpec : ChangeSpec := { name := "tintFlips", fn := fun _ => fun
  | [d1, d2] => { results := [.lit (.bool true)], args := [d1, d2] }
  | _ => none }
def tintFlipsRow : OpenClaim := { program := "ytcdmlimhkmbiiaa", sum := "4f83727b0acc8987a109a0421e9cb9da91bc262b56703248fd2b8dd89c618467", func := "spolia/spolaw7.TintFlips", spec := "tintFlips", apart := false }
def TintFlipsSaid : Prop := tintFlipsRow.holds Try.pinned (OpenSpec.ofChange tintFlipsSpec)

/-- ITS FALSE NEIGHBOUR: 'it returns false'. Refute it at one input. -/
def tintFlipsWrong : ChangeSpec := { name := "tintFlips", fn := fun _ => fun
  | [d1, d2] => { results := [.lit (.bool false)], args := [d1, d2] }
  | _ => none }
def TintFlipsWrongFalsely : Prop := tintFlipsRow.holds Try.pinned (OpenSpec.ofChange tintFlipsWrong)

/-- 'spolaw7.TintSets': WHATEVER THE INPUT: true; the input reads as it did. -/
def tintSetsSpec : ChangeSpec := { name := "tintSets", fn := fun _ => fun
  | [d1, d2, d3, d4, d5] => { results := [.lit (.bool true)], args := [d1, d2, d3, d4, d5] }
  | _ => none }
def tintSetsRow : OpenClaim := { program := "ytcdmlimhkmbiiaa", sum := "4f83727b0acc8987a109a0421e9cb9da91bc262b56703248fd2b8dd89c618467", func := "spolia/spolaw7.TintSets", spec := "tintSets", apart := false }
def TintSetsSaid : Prop := tintSetsRow.holds Try.pinned (OpenSpec.ofChange tintSetsSpec)

/-- ITS FALSE NEIGHBOUR: 'it returns false'. Refute it at one input. -/
def tintSetsWrong : ChangeSpec := { name := "tintSets", fn := fun _ => fun
  | [d1, d2, d3, d4, d5] => { results := [.lit (.bool false)], args := [d1, d2, d3, d4, d5] }
  | _ => none }
def TintSetsWrongFalsely : Prop := tintSetsRow.holds Try.pinned (OpenSpec.ofChange tintSetsWrong)

/-- 'spolaw7.TintPlays': WHATEVER THE INPUT: true; the input reads as it did. -/
def tintPlaysSpec : ChangeSpec := { name := "tintPlays", fn := fun _ => fun
  | [d1, d2] => { results := [.lit (.bool true)], args := [d1, d2] }
  | _ => none }
def tintPlaysRow : OpenClaim := { program := "ytcdmlimhkmbiiaa", sum := "4f83727b0acc8987a109a0421e9cb9da91bc262b56703248fd2b8dd89c618467", func := "spolia/spolaw7.TintPlays", spec := "tintPlays", apart := false }
def TintPlaysSaid : Prop := tintPlaysRow.holds Try.pinned (OpenSpec.ofChange tintPlaysSpec)

/-- ITS FALSE NEIGHBOUR: 'it returns false'. Refute it at one input. -/
def tintPlaysWrong : ChangeSpec := { name := "tintPlays", fn := fun _ => fun
  | [d1, d2] => { results := [.lit (.bool false)], args := [d1, d2] }
  | _ => none }
def TintPlaysWrongFalsely : Prop := tintPlaysRow.holds Try.pinned (OpenSpec.ofChange tintPlaysWrong)

/-- 'spolaw7.TintSums': WHATEVER THE INPUT: true; the input reads as it did. -/
def tintSumsSpec : ChangeSpec := { name := "tintSums", fn := fun _ => fun
  | [d1, d2] => { results := [.lit (.bool true)], args := [d1, d2] }
  | _ => none }
def tintSumsRow : OpenClaim := { program := "ytcdmlimhkmbiiaa", sum := "4f83727b0acc8987a109a0421e9cb9da91bc262b56703248fd2b8dd89c618467", func := "spolia/spolaw7.TintSums", spec := "tintSums", apart := false }
def TintSumsSaid : Prop := tintSumsRow.holds Try.pinned (OpenSpec.ofChange tintSumsSpec)

/-- ITS FALSE NEIGHBOUR: 'it returns false'. Refute it at one input. -/
def tintSumsWrong : ChangeSpec := { name := "tintSums", fn := fun _ => fun
  | [d1, d2] => { results := [.lit (.bool false)], args := [d1, d2] }
  | _ => none }
def TintSumsWrongFalsely : Prop := tintSumsRow.holds Try.pinned (OpenSpec.ofChange tintSumsWrong)

/-- 'spolaw7.TintBorn': WHATEVER THE INPUT: true; the input reads as it did. -/
def tintBornSpec : ChangeSpec := { name := "tintBorn", fn := fun _ => fun
  | [d1, d2, d3, d4] => { results := [.lit (.bool true)], args := [d1, d2, d3, d4] }
  | _ => none }
def tintBornRow : OpenClaim := { program := "ytcdmlimhkmbiiaa", sum := "4f83727b0acc8987a109a0421e9cb9da91bc262b56703248fd2b8dd89c618467", func := "spolia/spolaw7.TintBorn", spec := "tintBorn", apart := false }
def TintBornSaid : Prop := tintBornRow.holds Try.pinned (OpenSpec.ofChange tintBornSpec)

/-- ITS FALSE NEIGHBOUR: 'it returns false'. Refute it at one input. -/
def tintBornWrong : ChangeSpec := { name := "tintBorn", fn := fun _ => fun
  | [d1, d2, d3, d4] => { results := [.lit (.bool false)], args := [d1, d2, d3, d4] }
  | _ => none }
def TintBornWrongFalsely : Prop := tintBornRow.holds Try.pinned (OpenSpec.ofChange tintBornWrong)

/-- 'spolaw15.ShadeSenses': WHATEVER THE INPUT: true; the input reads as it did. -/
def shadeSensesSpec : ChangeSpec := { name := "shadeSenses", fn := fun _ => fun
  | [d1, d2] => { results := [.lit (.bool true)], args := [d1, d2] }
  | _ => none }
def shadeSensesRow : OpenClaim := { program := "ytcdmlimhkmbiiaa", sum := "4f83727b0acc8987a109a0421e9cb9da91bc262b56703248fd2b8dd89c618467", func := "spolia/spolaw15.ShadeSenses", spec := "shadeSenses", apart := false }
def ShadeSensesSaid : Prop := shadeSensesRow.holds Try.pinned (OpenSpec.ofChange shadeSensesSpec)

/-- ITS FALSE NEIGHBOUR: 'it returns false'. Refute it at one input. -/
def shadeSensesWrong : ChangeSpec := { name := "shadeSenses", fn := fun _ => fun
  | [d1, d2] => { results := [.lit (.bool false)], args := [d1, d2] }
  | _ => none }
def ShadeSensesWrongFalsely : Prop := shadeSensesRow.holds Try.pinned (OpenSpec.ofChange shadeSensesWrong)

/-- 'spolaw15.ShadeOnce': WHATEVER THE INPUT: true; the input reads as it did. -/
def shadeOnceSpec : ChangeSpec := { name := "shadeOnce", fn := fun _ => fun
  | [d1, d2, d3, d4] => { results := [.lit (.bool true)], args := [d1, d2, d3, d4] }
  | _ => none }
def shadeOnceRow : OpenClaim := { program := "ytcdmlimhkmbiiaa", sum := "4f83727b0acc8987a109a0421e9cb9da91bc262b56703248fd2b8dd89c618467", func := "spolia/spolaw15.ShadeOnce", spec := "shadeOnce", apart := false }
def ShadeOnceSaid : Prop := shadeOnceRow.holds Try.pinned (OpenSpec.ofChange shadeOnceSpec)

/-- ITS FALSE NEIGHBOUR: 'it returns false'. Refute it at one input. -/
def shadeOnceWrong : ChangeSpec := { name := "shadeOnce", fn := fun _ => fun
  | [d1, d2, d3, d4] => { results := [.lit (.bool false)], args := [d1, d2, d3, d4] }
  | _ => none }
def ShadeOnceWrongFalsely : Prop := shadeOnceRow.holds Try.pinned (OpenSpec.ofChange shadeOnceWrong)

/-- 'spolaw15.ShadeKinds': WHATEVER THE INPUT: true; the input reads as it did. -/
def shadeKindsSpec : ChangeSpec := { name := "shadeKinds", fn := fun _ => fun
  | [d1, d2] => { results := [.lit (.bool true)], args := [d1, d2] }
  | _ => none }
def shadeKindsRow : OpenClaim := { program := "ytcdmlimhkmbiiaa", sum := "4f83727b0acc8987a109a0421e9cb9da91bc262b56703248fd2b8dd89c618467", func := "spolia/spolaw15.ShadeKinds", spec := "shadeKinds", apart := false }
def ShadeKindsSaid : Prop := shadeKindsRow.holds Try.pinned (OpenSpec.ofChange shadeKindsSpec)

/-- ITS FALSE NEIGHBOUR: 'it returns false'. Refute it at one input. -/
def shadeKindsWrong : ChangeSpec := { name := "shadeKinds", fn := fun _ => fun
  | [d1, d2] => { results := [.lit (.bool false)], args := [d1, d2] }
  | _ => none }
def ShadeKindsWrongFalsely : Prop := shadeKindsRow.holds Try.pinned (OpenSpec.ofChange shadeKindsWrong)

/-- 'spolaw15.ShadePlays': WHATEVER THE INPUT: true; the input reads as it did. -/
def shadePlaysSpec : ChangeSpec := { name := "shadePlays", fn := fun _ => fun
  | [d1, d2, d3] => { results := [.lit (.bool true)], args := [d1, d2, d3] }
  | _ => none }
def shadePlaysRow : OpenClaim := { program := "ytcdmlimhkmbiiaa", sum := "4f83727b0acc8987a109a0421e9cb9da91bc262b56703248fd2b8dd89c618467", func := "spolia/spolaw15.ShadePlays", spec := "shadePlays", apart := false }
def ShadePlaysSaid : Prop := shadePlaysRow.holds Try.pinned (OpenSpec.ofChange shadePlaysSpec)

/-- ITS FALSE NEIGHBOUR: 'it returns false'. Refute it at one input. -/
def shadePlaysWrong : ChangeSpec := { name := "shadePlays", fn := fun _ => fun
  | [d1, d2, d3] => { results := [.lit (.bool false)], args := [d1, d2, d3] }
  | _ => none }
def ShadePlaysWrongFalsely : Prop := shadePlaysRow.holds Try.pinned (OpenSpec.ofChange shadePlaysWrong)

/- THE SECOND FORM. 'bulk': how many values and letters a reading holds, each counted each time it is reached (what is shared counts as often as it is met; a slice's spare places count too). A statement '..UptoSaid' is the law's where the arguments, and the package variables that the reading takes, are together of bulk at most 1048576: NARROWER than '..Said'. Prove '..Said' where nothing that the law and all that it calls make is longer than what came in: it says more and counts as full. Else prove '..UptoSaid'. A law counts once. -/
mutual
def uptoBulk {H : Type} : DataW H → Nat
  | .lit (.string bytes) => bytes.length + 1
  | .lit _ => 1
  | .nil => 1
  | .ptr d => uptoBulk d + 1
  | .slice elems spare => uptoBulkAll elems + uptoBulkAll spare + 1
  | .agg parts => uptoBulkAll parts + 1
  | .iface _ d => uptoBulk d + 1
  | .map entries => uptoBulkEntries entries + 1
  | .held _ => 1
def uptoBulkAll {H : Type} : List (DataW H) → Nat
  | [] => 0
  | d :: r => uptoBulk d + uptoBulkAll r
def uptoBulkEntries {H : Type} : List (Lit × DataW H) → Nat
  | [] => 0
  | x :: r => uptoBulkEntry x + uptoBulkEntries r
def uptoBulkEntry {H : Type} : Lit × DataW H → Nat
  | (.string bytes, d) => bytes.length + uptoBulk d + 1
  | (_, d) => uptoBulk d + 1
 end
def uptoSmall : (H : Type) → List (DataW H) → Bool := fun _ ds => decide (uptoBulkAll ds ≤ 1048576)
def OpenSpec.upto (s : _root_.Go.ChangeSpec) : _root_.Go.OpenSpec := { _root_.Go.OpenSpec.ofChange s with cond := some uptoSmall }

/-- 'spolaw14.PileOdd', WHERE WHAT IT READS IS OF BULK AT MOST 1048576: true; the input reads as it did. -/
def pileOddUptoRow : OpenClaim := { program := "ytcdmlimhkmbiiaa", sum := "4f83727b0acc8987a109a0421e9cb9da91bc262b56703248fd2b8dd89c618467", func := "spolia/spolaw14.PileOdd", spec := "pileOdd", apart := false, narrowed := true }
def PileOddUptoSaid : Prop := pileOddUptoRow.holds Try.pinned (OpenSpec.upto pileOddSpec)

/-- 'spolaw14.PilePlays', WHERE WHAT IT READS IS OF BULK AT MOST 1048576: true; the input reads as it did. -/
def pilePlaysUptoRow : OpenClaim := { program := "ytcdmlimhkmbiiaa", sum := "4f83727b0acc8987a109a0421e9cb9da91bc262b56703248fd2b8dd89c618467", func := "spolia/spolaw14.PilePlays", spec := "pilePlays", apart := false, narrowed := true }
def PilePlaysUptoSaid : Prop := pilePlaysUptoRow.holds Try.pinned (OpenSpec.upto pilePlaysSpec)

/-- 'spolaw14.PileLast', WHERE WHAT IT READS IS OF BULK AT MOST 1048576: true; the input reads as it did. -/
def pileLastUptoRow : OpenClaim := { program := "ytcdmlimhkmbiiaa", sum := "4f83727b0acc8987a109a0421e9cb9da91bc262b56703248fd2b8dd89c618467", func := "spolia/spolaw14.PileLast", spec := "pileLast", apart := false, narrowed := true }
def PileLastUptoSaid : Prop := pileLastUptoRow.holds Try.pinned (OpenSpec.upto pileLastSpec)

/-- 'spolaw14.PileDeep', WHERE WHAT IT READS IS OF BULK AT MOST 1048576: true; the input reads as it did. -/
def pileDeepUptoRow : OpenClaim := { program := "ytcdmlimhkmbiiaa", sum := "4f83727b0acc8987a109a0421e9cb9da91bc262b56703248fd2b8dd89c618467", func := "spolia/spolaw14.PileDeep", spec := "pileDeep", apart := false, narrowed := true }
def PileDeepUptoSaid : Prop := pileDeepUptoRow.holds Try.pinned (OpenSpec.upto pileDeepSpec)

/-- 'spolaw7.TintFlips', WHERE WHAT IT READS IS OF BULK AT MOST 1048576: true; the input reads as it did. -/
def tintFlipsUptoRow : OpenClaim := { program := "ytcdmlimhkmbiiaa", sum := "4f83727b0acc8987a109a0421e9cb9da91bc262b56703248fd2b8dd89c618467", func := "spolia/spolaw7.TintFlips", spec := "tintFlips", apart := false, narrowed := true }
def TintFlipsUptoSaid : Prop := tintFlipsUptoRow.holds Try.pinned (OpenSpec.upto tintFlipsSpec)

/-- 'spolaw7.TintSets', WHERE WHAT IT READS IS OF BULK AT MOST 1048576: true; the input reads as it did. -/
def tintSetsUptoRow : OpenClaim := { program := "ytcdmlimhkmbiiaa", sum := "4f83727b0acc8987a109a0421e9cb9da91bc262b56703248fd2b8dd89c618467", func := "spolia/spolaw7.TintSets", spec := "tintSets", apart := false, narrowed := true }
def TintSetsUptoSaid : Prop := tintSetsUptoRow.holds Try.pinned (OpenSpec.upto tintSetsSpec)

/-- 'spolaw7.TintPlays', WHERE WHAT IT READS IS OF BULK AT MOST 1048576: true; the input reads as it did. -/
def tintPlaysUptoRow : OpenClaim := { program := "ytcdmlimhkmbiiaa", sum := "4f83727b0acc8987a109a0421e9cb9da91bc262b56703248fd2b8dd89c618467", func := "spolia/spolaw7.TintPlays", spec := "tintPlays", apart := false, narrowed := true }
def TintPlaysUptoSaid : Prop := tintPlaysUptoRow.holds Try.pinned (OpenSpec.upto tintPlaysSpec)

/-- 'spolaw7.TintSums', WHERE WHAT IT READS IS OF BULK AT MOST 1048576: true; the input reads as it did. -/
def tintSumsUptoRow : OpenClaim := { program := "ytcdmlimhkmbiiaa", sum := "4f83727b0acc8987a109a0421e9cb9da91bc262b56703248fd2b8dd89c618467", func := "spolia/spolaw7.TintSums", spec := "tintSums", apart := false, narrowed := true }
def TintSumsUptoSaid : Prop := tintSumsUptoRow.holds Try.pinned (OpenSpec.upto tintSumsSpec)

/-- 'spolaw7.TintBorn', WHERE WHAT IT READS IS OF BULK AT MOST 1048576: true; the input reads as it did. -/
def tintBornUptoRow : OpenClaim := { program := "ytcdmlimhkmbiiaa", sum := "4f83727b0acc8987a109a0421e9cb9da91bc262b56703248fd2b8dd89c618467", func := "spolia/spolaw7.TintBorn", spec := "tintBorn", apart := false, narrowed := true }
def TintBornUptoSaid : Prop := tintBornUptoRow.holds Try.pinned (OpenSpec.upto tintBornSpec)

/-- 'spolaw15.ShadeSenses', WHERE WHAT IT READS IS OF BULK AT MOST 1048576: true; the input reads as it did. -/
def shadeSensesUptoRow : OpenClaim := { program := "ytcdmlimhkmbiiaa", sum := "4f83727b0acc8987a109a0421e9cb9da91bc262b56703248fd2b8dd89c618467", func := "spolia/spolaw15.ShadeSenses", spec := "shadeSenses", apart := false, narrowed := true }
def ShadeSensesUptoSaid : Prop := shadeSensesUptoRow.holds Try.pinned (OpenSpec.upto shadeSensesSpec)

/-- 'spolaw15.ShadeOnce', WHERE WHAT IT READS IS OF BULK AT MOST 1048576: true; the input reads as it did. -/
def shadeOnceUptoRow : OpenClaim := { program := "ytcdmlimhkmbiiaa", sum := "4f83727b0acc8987a109a0421e9cb9da91bc262b56703248fd2b8dd89c618467", func := "spolia/spolaw15.ShadeOnce", spec := "shadeOnce", apart := false, narrowed := true }
def ShadeOnceUptoSaid : Prop := shadeOnceUptoRow.holds Try.pinned (OpenSpec.upto shadeOnceSpec)

/-- 'spolaw15.ShadeKinds', WHERE WHAT IT READS IS OF BULK AT MOST 1048576: true; the input reads as it did. -/
def shadeKindsUptoRow : OpenClaim := { program := "ytcdmlimhkmbiiaa", sum := "4f83727b0acc8987a109a0421e9cb9da91bc262b56703248fd2b8dd89c618467", func := "spolia/spolaw15.ShadeKinds", spec := "shadeKinds", apart := false, narrowed := true }
def ShadeKindsUptoSaid : Prop := shadeKindsUptoRow.holds Try.pinned (OpenSpec.upto shadeKindsSpec)

/-- 'spolaw15.ShadePlays', WHERE WHAT IT READS IS OF BULK AT MOST 1048576: true; the input reads as it did. -/
def shadePlaysUptoRow : OpenClaim := { program := "ytcdmlimhkmbiiaa", sum := "4f83727b0acc8987a109a0421e9cb9da91bc262b56703248fd2b8dd89c618467", func := "spolia/spolaw15.ShadePlays", spec := "shadePlays", apart := false, narrowed := true }
def ShadePlaysUptoSaid : Prop := shadePlaysUptoRow.holds Try.pinned (OpenSpec.upto shadePlaysSpec)

end Rows
end Go.Proofs.Ytcdmlimhkmbiiaa
