/-
  No cell of these rows narrows 'for every input' (looked for: loops, veiled, ifaces, maps, wideKeys, modest, calm, conditions, laid).
  DERIVED. THE GIVEN ROWS OF THIS SEAT. 4 by the template 'for every input the law returns true; each argument reads behind the call as it read before'; 0 by the template 'total and deterministic' (their statements: YtedkdbholfnjkaaTotals.lean).
  GIVEN WITH THE SEED: the statements are not yours to turn. If you find one false, say at which input.
  Laid BY PROGRAM, IN A SANDBOX (cutbox-rows.mjs): the forced cells as the released guide's own fill.sh prints them over the translation d5fdba7e1b30e116… (all of the seat's roots in one cut). By AI agents, Wed Nov 11 2026. No macro, syntax, notation, axiom, sorry.
-/
import Derived.Test.YtedkdbholfnjkaaChecked
import GoSem.Claim
import GoSem.ClaimJoined
import GoSem.ClaimMapViews
import Derived.JoinedTies
import Derived.KernelRfl
namespace Go.Proofs.Ytedkdbholfnjkaa
/- THE CELL 'sum', in the pinned program and in every row, IS THE sha256 OF THE DUMP (.gsa) THAT YtedkdbholfnjkaaProg.lean LOADS. Nothing in Lean hashes anything: it is a label: what it is worth is what the hold of that sum in a sandbox is worth. -/
noncomputable def Try.pinned : Pinned := { name := "ytedkdbholfnjkaa", sum := "d5fdba7e1b30e1161ec221f28c1a5082ad9d9f84720bce0002ff05acc0ec7c07", checked := Try.checked }
namespace Rows
def none {H : Type} : Left H := { results := [], args := [] }

/-- 'spolaw11.CoilPlays': WHATEVER THE INPUT: true; the input reads as it did. -/
def coilPlaysSpec : ChangeSpec := { name := "coilPlays", fn := fun _ => fun
  | [d1, d2] => { results := [.lit (.bool true)], args := [d1, d2] }
  | _ => none }
def coilPlaysRow : OpenClaim := { program := "ytedkdbholfnjkaa", sum := "d5fdba7e1b30e1161ec221f28c1a5082ad9d9f84720bce0002ff05acc0ec7c07", func := "spolia/spolaw11.CoilPlays", spec := "coilPlays", apart := false }
def CoilPlaysSaid : Prop := coilPlaysRow.holds Try.pinned (OpenSpec.ofChange coilPlaysSpec)

/-- ITS FALSE NEIGHBOUR: 'it returns false'. Refute it at one input. -/
def coilPlaysWrong : ChangeSpec := { name := "coilPlays", fn := fun _ => fun
  | [d1, d2] => { results := [.lit (.bool false)], args := [d1, d2] }
  | _ => none }
def CoilPlaysWrongFalsely : Prop := coilPlaysRow.holds Try.pinned (OpenSpec.ofChange coilPlaysWrong)

/-- 'spolaw11.CoilRoom': WHATEVER THE INPUT: true; the input reads as it did. -/
def coilRoomSpec : ChangeSpec := { name := "coilRoom", fn := fun _ => fun
  | [d1, d2] => { results := [.lit (.bool true)], args := [d1, d2] }
  | _ => none }
def coilRoomRow : OpenClaim := { program := "ytedkdbholfnjkaa", sum := "d5fdba7e1b30e1161ec221f28c1a5082ad9d9f84720bce0002ff05acc0ec7c07", func := "spolia/spolaw11.CoilRoom", spec := "coilRoom", apart := false }
def CoilRoomSaid : Prop := coilRoomRow.holds Try.pinned (OpenSpec.ofChange coilRoomSpec)

/-- ITS FALSE NEIGHBOUR: 'it returns false'. Refute it at one input. -/
def coilRoomWrong : ChangeSpec := { name := "coilRoom", fn := fun _ => fun
  | [d1, d2] => { results := [.lit (.bool false)], args := [d1, d2] }
  | _ => none }
def CoilRoomWrongFalsely : Prop := coilRoomRow.holds Try.pinned (OpenSpec.ofChange coilRoomWrong)

/-- 'spolaw11.CoilTurns': WHATEVER THE INPUT: true; the input reads as it did. -/
def coilTurnsSpec : ChangeSpec := { name := "coilTurns", fn := fun _ => fun
  | [d1, d2, d3] => { results := [.lit (.bool true)], args := [d1, d2, d3] }
  | _ => none }
def coilTurnsRow : OpenClaim := { program := "ytedkdbholfnjkaa", sum := "d5fdba7e1b30e1161ec221f28c1a5082ad9d9f84720bce0002ff05acc0ec7c07", func := "spolia/spolaw11.CoilTurns", spec := "coilTurns", apart := false }
def CoilTurnsSaid : Prop := coilTurnsRow.holds Try.pinned (OpenSpec.ofChange coilTurnsSpec)

/-- ITS FALSE NEIGHBOUR: 'it returns false'. Refute it at one input. -/
def coilTurnsWrong : ChangeSpec := { name := "coilTurns", fn := fun _ => fun
  | [d1, d2, d3] => { results := [.lit (.bool false)], args := [d1, d2, d3] }
  | _ => none }
def CoilTurnsWrongFalsely : Prop := coilTurnsRow.holds Try.pinned (OpenSpec.ofChange coilTurnsWrong)

/-- 'spolaw11.CoilKept': WHATEVER THE INPUT: true; the input reads as it did. -/
def coilKeptSpec : ChangeSpec := { name := "coilKept", fn := fun _ => fun
  | [d1, d2, d3] => { results := [.lit (.bool true)], args := [d1, d2, d3] }
  | _ => none }
def coilKeptRow : OpenClaim := { program := "ytedkdbholfnjkaa", sum := "d5fdba7e1b30e1161ec221f28c1a5082ad9d9f84720bce0002ff05acc0ec7c07", func := "spolia/spolaw11.CoilKept", spec := "coilKept", apart := false }
def CoilKeptSaid : Prop := coilKeptRow.holds Try.pinned (OpenSpec.ofChange coilKeptSpec)

/-- ITS FALSE NEIGHBOUR: 'it returns false'. Refute it at one input. -/
def coilKeptWrong : ChangeSpec := { name := "coilKept", fn := fun _ => fun
  | [d1, d2, d3] => { results := [.lit (.bool false)], args := [d1, d2, d3] }
  | _ => none }
def CoilKeptWrongFalsely : Prop := coilKeptRow.holds Try.pinned (OpenSpec.ofChange coilKeptWrong)

/- THE SECOND FORM. 'bulk': how many values and letters a reading holds, each counted each time it is reached (what is shared counts as often as it is met; a slice's spare places count too). A statement '..UptoSaid' is the law's where the arguments, and the package variables that the reading takes, are together of bulk at most 1048576: NARROWER than '..Said'. Prove '..Said' where nothing that the law and all that it calls make is longer than what came in: it says more and counts as full. Else prove '..UptoSaid'. A law counts once. -/
mutual
def uptoBulk {H : Type} : DataW H → Nat
  | .lit (.string bytes) => bytes.length + 1
  | .lit _ => 1
  | .nil => 1
  | .ptr d => uptoBulk d + 1
  | .slice elems spare => uptoBulkAll elems + uptoBulkAll spare + 1
  | .agg parts => uptoBulkAll parts + 1
  | .iface _ d => uptoBulk d + 1
  | .map entries => uptoBulkEntries entries + 1
  | .held _ => 1
def uptoBulkAll {H : Type} : List (DataW H) → Nat
  | [] => 0
  | d :: r => uptoBulk d + uptoBulkAll r
def uptoBulkEntries {H : Type} : List (Lit × DataW H) → Nat
  | [] => 0
  | x :: r => uptoBulkEntry x + uptoBulkEntries r
def uptoBulkEntry {H : Type} : Lit × DataW H → Nat
  | (.string bytes, d) => bytes.length + uptoBulk d + 1
  | (_, d) => uptoBulk d + 1
 end
def uptoSmall : (H : Type) → List (DataW H) → Bool := fun _ ds => decide (uptoBulkAll ds ≤ 1048576)
def OpenSpec.upto (s : _root_.Go.ChangeSpec) : _root_.Go.OpenSpec := { _root_.Go.OpenSpec.ofChange s with cond := some uptoSmall }

/-- 'spolaw11.CoilPlays', WHERE WHAT IT READS IS OF BULK AT MOST 1048576: true; the input reads as it did. -/
def coilPlaysUptoRow : OpenClaim := { program := "ytedkdbholfnjkaa", sum := "d5fdba7e1b30e1161ec221f28c1a5082ad9d9f84720bce0002ff05acc0ec7c07", func := "spolia/spolaw11.CoilPlays", spec := "coilPlays", apart := false, narrowed := true }
def CoilPlaysUptoSaid : Prop := coilPlaysUptoRow.holds Try.pinned (OpenSpec.upto coilPlaysSpec)

/-- 'spolaw11.CoilRoom', WHERE WHAT IT READS IS OF BULK AT MOST 1048576: true; the input reads as it did. -/
def coilRoomUptoRow : OpenClaim := { program := "ytedkdbholfnjkaa", sum := "d5fdba7e1b30e1161ec221f28c1a5082ad9d9f84720bce0002ff05acc0ec7c07", func := "spolia/spolaw11.CoilRoom", spec := "coilRoom", apart := false, narrowed := true }
def CoilRoomUptoSaid : Prop := coilRoomUptoRow.holds Try.pinned (OpenSpec.upto coilRoomSpec)

/-- 'spolaw11.CoilTurns', WHERE WHAT IT READS IS OF BULK AT MOST 1048576: true; the input reads as it did. -/
def coilTurnsUptoRow : OpenClaim := { program := "ytedkdbholfnjkaa", sum := "d5fdba7e1b30e1161ec221f28c1a5082ad9d9f84720bce0002ff05acc0ec7c07", func := "spolia/spolaw11.CoilTurns", spec := "coilTurns", apart := false, narrowed := true }
def CoilTurnsUptoSaid : Prop := coilTurnsUptoRow.holds Try.pinned (OpenSpec.upto coilTurnsSpec)

/-- 'spolaw11.CoilKept', WHERE WHAT IT READS IS OF BULK AT MOST 1048576: true; the input reads as it did. -/
def coilKeptUptoRow : OpenClaim := { program := "ytedkdbholfnjkaa", sum := "d5fdba7e1b30e1161ec221f28c1a5082ad9d9f84720bce0002ff05acc0ec7c07", func := "spolia/spolaw11.CoilKept", spec := "coilKept", apart := false, narrowed := true }
def CoilKeptUptoSaid : Prop := coilKeptUptoRow.holds Try.pinned (OpenSpec.upto coilKeptSpec)

end Rows
end Go.Proofs.Ytedkdbholfnjkaa
