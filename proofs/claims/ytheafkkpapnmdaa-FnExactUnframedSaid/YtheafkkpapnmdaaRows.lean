/-
  No cell of these rows narrows 'for every input' (looked for: loops, veiled, ifaces, maps, wideKeys, modest, calm, conditions, laid).
  DERIVED. THE GIVEN ROWS OF THIS SEAT. 11 by the template 'for every input the law returns true; each argument reads behind the call as it read before'; 0 by the template 'total and deterministic' (their statements: YtheafkkpapnmdaaTotals.lean).
  GIVEN WITH THE SEED: the statements are not yours to turn. If you find one false, say at which input.
  Laid BY PROGRAM, IN A SANDBOX (cutbox-rows.mjs): the forced cells as the released guide's own fill.sh prints them over the translation 0178342577bbf74e… (all of the seat's roots in one cut). By AI agents, Wed Nov 11 2026. No macro, syntax, notation, axiom, sorry.
-/
import Derived.Test.YtheafkkpapnmdaaChecked
import GoSem.Claim
import GoSem.ClaimJoined
import GoSem.ClaimMapViews
import Derived.JoinedTies
import Derived.KernelRfl
namespace Go.Proofs.Ytheafkkpapnmdaa
/- THE CELL 'sum', in the pinned program and in every row, IS THE sha256 OF THE DUMP (.gsa) THAT YtheafkkpapnmdaaProg.lean LOADS. Nothing in Lean hashes anything: it is a label: what it is worth is what the hold of that sum in a sandbox is worth. -/
noncomputable def Try.pinned : Pinned := { name := "ytheafkkpapnmdaa", sum := "0178342577bbf74ed7de51304317033e6703e8506d551d340d6bc9c4d9f3a7c5", checked := Try.checked }
namespace Rows
def none {H : Type} : Left H := { results := [], args := [] }

/-- 'laws.FnSigned': WHATEVER THE INPUT: true; the input reads as it did. -/
def fnSignedSpec : ChangeSpec := { name := "fnSigned", fn := fun _ => fun
  | [d] => { results := [.lit (.bool true)], args := [d] }
  | _ => none }
def fnSignedRow : OpenClaim := { program := "ytheafkkpapnmdaa", sum := "0178342577bbf74ed7de51304317033e6703e8506d551d340d6bc9c4d9f3a7c5", func := "loop.example/g00960/laws.FnSigned", spec := "fnSigned", apart := false }
def FnSignedSaid : Prop := fnSignedRow.holds Try.pinned (OpenSpec.ofChange fnSignedSpec)

/-- ITS FALSE NEIGHBOUR: 'it returns false'. Refute it at one input. -/
def fnSignedWrong : ChangeSpec := { name := "fnSigned", fn := fun _ => fun
  | [d] => { results := [.lit (.bool false)], args := [d] }
  | _ => none }
def FnSignedWrongFalsely : Prop := fnSignedRow.holds Try.pinned (OpenSpec.ofChange fnSignedWrong)

/-- 'laws.FnExactTileSquares': WHATEVER THE INPUT: true; the input reads as it did. -/
def fnExactTileSquaresSpec : ChangeSpec := { name := "fnExactTileSquares", fn := fun _ => fun
  | [d1, d2] => { results := [.lit (.bool true)], args := [d1, d2] }
  | _ => none }
def fnExactTileSquaresRow : OpenClaim := { program := "ytheafkkpapnmdaa", sum := "0178342577bbf74ed7de51304317033e6703e8506d551d340d6bc9c4d9f3a7c5", func := "loop.example/g00960/laws.FnExactTileSquares", spec := "fnExactTileSquares", apart := false }
def FnExactTileSquaresSaid : Prop := fnExactTileSquaresRow.holds Try.pinned (OpenSpec.ofChange fnExactTileSquaresSpec)

/-- ITS FALSE NEIGHBOUR: 'it returns false'. Refute it at one input. -/
def fnExactTileSquaresWrong : ChangeSpec := { name := "fnExactTileSquares", fn := fun _ => fun
  | [d1, d2] => { results := [.lit (.bool false)], args := [d1, d2] }
  | _ => none }
def FnExactTileSquaresWrongFalsely : Prop := fnExactTileSquaresRow.holds Try.pinned (OpenSpec.ofChange fnExactTileSquaresWrong)

/-- 'laws.FnExactUnitsIn': WHATEVER THE INPUT: true; the input reads as it did. -/
def fnExactUnitsInSpec : ChangeSpec := { name := "fnExactUnitsIn", fn := fun _ => fun
  | [d] => { results := [.lit (.bool true)], args := [d] }
  | _ => none }
def fnExactUnitsInRow : OpenClaim := { program := "ytheafkkpapnmdaa", sum := "0178342577bbf74ed7de51304317033e6703e8506d551d340d6bc9c4d9f3a7c5", func := "loop.example/g00960/laws.FnExactUnitsIn", spec := "fnExactUnitsIn", apart := false }
def FnExactUnitsInSaid : Prop := fnExactUnitsInRow.holds Try.pinned (OpenSpec.ofChange fnExactUnitsInSpec)

/-- ITS FALSE NEIGHBOUR: 'it returns false'. Refute it at one input. -/
def fnExactUnitsInWrong : ChangeSpec := { name := "fnExactUnitsIn", fn := fun _ => fun
  | [d] => { results := [.lit (.bool false)], args := [d] }
  | _ => none }
def FnExactUnitsInWrongFalsely : Prop := fnExactUnitsInRow.holds Try.pinned (OpenSpec.ofChange fnExactUnitsInWrong)

/-- 'laws.FnExactTileRect': WHATEVER THE INPUT: true; the input reads as it did. -/
def fnExactTileRectSpec : ChangeSpec := { name := "fnExactTileRect", fn := fun _ => fun
  | [d1, d2] => { results := [.lit (.bool true)], args := [d1, d2] }
  | _ => none }
def fnExactTileRectRow : OpenClaim := { program := "ytheafkkpapnmdaa", sum := "0178342577bbf74ed7de51304317033e6703e8506d551d340d6bc9c4d9f3a7c5", func := "loop.example/g00960/laws.FnExactTileRect", spec := "fnExactTileRect", apart := false }
def FnExactTileRectSaid : Prop := fnExactTileRectRow.holds Try.pinned (OpenSpec.ofChange fnExactTileRectSpec)

/-- ITS FALSE NEIGHBOUR: 'it returns false'. Refute it at one input. -/
def fnExactTileRectWrong : ChangeSpec := { name := "fnExactTileRect", fn := fun _ => fun
  | [d1, d2] => { results := [.lit (.bool false)], args := [d1, d2] }
  | _ => none }
def FnExactTileRectWrongFalsely : Prop := fnExactTileRectRow.holds Try.pinned (OpenSpec.ofChange fnExactTileRectWrong)

/-- 'laws.FnUnits': WHATEVER THE INPUT: true; the input reads as it did. -/
def fnUnitsSpec : ChangeSpec := { name := "fnUnits", fn := fun _ => fun
  | [d] => { results := [.lit (.bool true)], args := [d] }
  | _ => none }
def fnUnitsRow : OpenClaim := { program := "ytheafkkpapnmdaa", sum := "0178342577bbf74ed7de51304317033e6703e8506d551d340d6bc9c4d9f3a7c5", func := "loop.example/g00960/laws.FnUnits", spec := "fnUnits", apart := false }
def FnUnitsSaid : Prop := fnUnitsRow.holds Try.pinned (OpenSpec.ofChange fnUnitsSpec)

/-- ITS FALSE NEIGHBOUR: 'it returns false'. Refute it at one input. -/
def fnUnitsWrong : ChangeSpec := { name := "fnUnits", fn := fun _ => fun
  | [d] => { results := [.lit (.bool false)], args := [d] }
  | _ => none }
def FnUnitsWrongFalsely : Prop := fnUnitsRow.holds Try.pinned (OpenSpec.ofChange fnUnitsWrong)

/-- 'laws.FnExactTileAt': WHATEVER THE INPUT: true; the input reads as it did. -/
def fnExactTileAtSpec : ChangeSpec := { name := "fnExactTileAt", fn := fun _ => fun
  | [d1, d2, d3] => { results := [.lit (.bool true)], args := [d1, d2, d3] }
  | _ => none }
def fnExactTileAtRow : OpenClaim := { program := "ytheafkkpapnmdaa", sum := "0178342577bbf74ed7de51304317033e6703e8506d551d340d6bc9c4d9f3a7c5", func := "loop.example/g00960/laws.FnExactTileAt", spec := "fnExactTileAt", apart := false }
def FnExactTileAtSaid : Prop := fnExactTileAtRow.holds Try.pinned (OpenSpec.ofChange fnExactTileAtSpec)

/-- ITS FALSE NEIGHBOUR: 'it returns false'. Refute it at one input. -/
def fnExactTileAtWrong : ChangeSpec := { name := "fnExactTileAt", fn := fun _ => fun
  | [d1, d2, d3] => { results := [.lit (.bool false)], args := [d1, d2, d3] }
  | _ => none }
def FnExactTileAtWrongFalsely : Prop := fnExactTileAtRow.holds Try.pinned (OpenSpec.ofChange fnExactTileAtWrong)

/-- 'laws.FnTiles': WHATEVER THE INPUT: true; the input reads as it did. -/
def fnTilesSpec : ChangeSpec := { name := "fnTiles", fn := fun _ => fun
  | [d] => { results := [.lit (.bool true)], args := [d] }
  | _ => none }
def fnTilesRow : OpenClaim := { program := "ytheafkkpapnmdaa", sum := "0178342577bbf74ed7de51304317033e6703e8506d551d340d6bc9c4d9f3a7c5", func := "loop.example/g00960/laws.FnTiles", spec := "fnTiles", apart := false }
def FnTilesSaid : Prop := fnTilesRow.holds Try.pinned (OpenSpec.ofChange fnTilesSpec)

/-- ITS FALSE NEIGHBOUR: 'it returns false'. Refute it at one input. -/
def fnTilesWrong : ChangeSpec := { name := "fnTiles", fn := fun _ => fun
  | [d] => { results := [.lit (.bool false)], args := [d] }
  | _ => none }
def FnTilesWrongFalsely : Prop := fnTilesRow.holds Try.pinned (OpenSpec.ofChange fnTilesWrong)

/-- 'laws.FnExactSeqRow': WHATEVER THE INPUT: true; the input reads as it did. -/
def fnExactSeqRowSpec : ChangeSpec := { name := "fnExactSeqRow", fn := fun _ => fun
  | [d] => { results := [.lit (.bool true)], args := [d] }
  | _ => none }
def fnExactSeqRowRow : OpenClaim := { program := "ytheafkkpapnmdaa", sum := "0178342577bbf74ed7de51304317033e6703e8506d551d340d6bc9c4d9f3a7c5", func := "loop.example/g00960/laws.FnExactSeqRow", spec := "fnExactSeqRow", apart := false }
def FnExactSeqRowSaid : Prop := fnExactSeqRowRow.holds Try.pinned (OpenSpec.ofChange fnExactSeqRowSpec)

/-- ITS FALSE NEIGHBOUR: 'it returns false'. Refute it at one input. -/
def fnExactSeqRowWrong : ChangeSpec := { name := "fnExactSeqRow", fn := fun _ => fun
  | [d] => { results := [.lit (.bool false)], args := [d] }
  | _ => none }
def FnExactSeqRowWrongFalsely : Prop := fnExactSeqRowRow.holds Try.pinned (OpenSpec.ofChange fnExactSeqRowWrong)

/-- 'laws.FnExactUnframed': WHATEVER THE INPUT: true; the input reads as it did. -/
def fnExactUnframedSpec : ChangeSpec := { name := "fnExactUnframed", fn := fun _ => fun
  | [d] => { results := [.lit (.bool true)], args := [d] }
  | _ => none }
def fnExactUnframedRow : OpenClaim := { program := "ytheafkkpapnmdaa", sum := "0178342577bbf74ed7de51304317033e6703e8506d551d340d6bc9c4d9f3a7c5", func := "loop.example/g00960/laws.FnExactUnframed", spec := "fnExactUnframed", apart := false }
def FnExactUnframedSaid : Prop := fnExactUnframedRow.holds Try.pinned (OpenSpec.ofChange fnExactUnframedSpec)

/-- ITS FALSE NEIGHBOUR: 'it returns false'. Refute it at one input. -/
def fnExactUnframedWrong : ChangeSpec := { name := "fnExactUnframed", fn := fun _ => fun
  | [d] => { results := [.lit (.bool false)], args := [d] }
  | _ => none }
def FnExactUnframedWrongFalsely : Prop := fnExactUnframedRow.holds Try.pinned (OpenSpec.ofChange fnExactUnframedWrong)

/-- 'laws.FnExactHeadRow': WHATEVER THE INPUT: true; the input reads as it did. -/
def fnExactHeadRowSpec : ChangeSpec := { name := "fnExactHeadRow", fn := fun _ => fun
  | [d1, d2, d3] => { results := [.lit (.bool true)], args := [d1, d2, d3] }
  | _ => none }
def fnExactHeadRowRow : OpenClaim := { program := "ytheafkkpapnmdaa", sum := "0178342577bbf74ed7de51304317033e6703e8506d551d340d6bc9c4d9f3a7c5", func := "loop.example/g00960/laws.FnExactHeadRow", spec := "fnExactHeadRow", apart := false }
def FnExactHeadRowSaid : Prop := fnExactHeadRowRow.holds Try.pinned (OpenSpec.ofChange fnExactHeadRowSpec)

/-- ITS FALSE NEIGHBOUR: 'it returns false'. Refute it at one input. -/
def fnExactHeadRowWrong : ChangeSpec := { name := "fnExactHeadRow", fn := fun _ => fun
  | [d1, d2, d3] => { results := [.lit (.bool false)], args := [d1, d2, d3] }
  | _ => none }
def FnExactHeadRowWrongFalsely : Prop := fnExactHeadRowRow.holds Try.pinned (OpenSpec.ofChange fnExactHeadRowWrong)

/-- 'laws.FnExactReadSeq': WHATEVER THE INPUT: true; the input reads as it did. -/
def fnExactReadSeqSpec : ChangeSpec := { name := "fnExactReadSeq", fn := fun _ => fun
  | [d1, d2] => { results := [.lit (.bool true)], args := [d1, d2] }
  | _ => none }
def fnExactReadSeqRow : OpenClaim := { program := "ytheafkkpapnmdaa", sum := "0178342577bbf74ed7de51304317033e6703e8506d551d340d6bc9c4d9f3a7c5", func := "loop.example/g00960/laws.FnExactReadSeq", spec := "fnExactReadSeq", apart := false }
def FnExactReadSeqSaid : Prop := fnExactReadSeqRow.holds Try.pinned (OpenSpec.ofChange fnExactReadSeqSpec)

/-- ITS FALSE NEIGHBOUR: 'it returns false'. Refute it at one input. -/
def fnExactReadSeqWrong : ChangeSpec := { name := "fnExactReadSeq", fn := fun _ => fun
  | [d1, d2] => { results := [.lit (.bool false)], args := [d1, d2] }
  | _ => none }
def FnExactReadSeqWrongFalsely : Prop := fnExactReadSeqRow.holds Try.pinned (OpenSpec.ofChange fnExactReadSeqWrong)

/- THE SECOND FORM. 'bulk': how many values and letters a reading holds, each counted each time it is reached (what is shared counts as often as it is met; a slice's spare places count too). A statement '..UptoSaid' is the law's where the arguments, and the package variables that the reading takes, are together of bulk at most 1048576: NARROWER than '..Said'. Prove '..Said' where nothing that the law and all that it calls make is longer than what came in: it says more and counts as full. Else prove '..UptoSaid'. A law counts once. -/
mutual
def uptoBulk {H : Type} : DataW H → Nat
  | .lit (.string bytes) => bytes.length + 1
  | .lit _ => 1
  | .nil => 1
  | .ptr d => uptoBulk d + 1
  | .slice elems spare => uptoBulkAll elems + uptoBulkAll spare + 1
  | .agg parts => uptoBulkAll parts + 1
  | .iface _ d => uptoBulk d + 1
  | .map entries => uptoBulkEntries entries + 1
  | .held _ => 1
def uptoBulkAll {H : Type} : List (DataW H) → Nat
  | [] => 0
  | d :: r => uptoBulk d + uptoBulkAll r
def uptoBulkEntries {H : Type} : List (Lit × DataW H) → Nat
  | [] => 0
  | x :: r => uptoBulkEntry x + uptoBulkEntries r
def uptoBulkEntry {H : Type} : Lit × DataW H → Nat
  | (.string bytes, d) => bytes.length + uptoBulk d + 1
  | (_, d) => uptoBulk d + 1
 end
def uptoSmall : (H : Type) → List (DataW H) → Bool := fun _ ds => decide (uptoBulkAll ds ≤ 1048576)
def OpenSpec.upto (s : _root_.Go.ChangeSpec) : _root_.Go.OpenSpec := { _root_.Go.OpenSpec.ofChange s with cond := some uptoSmall }

/-- 'laws.FnSigned', WHERE WHAT IT READS IS OF BULK AT MOST 1048576: true; the input reads as it did. -/
def fnSignedUptoRow : OpenClaim := { program := "ytheafkkpapnmdaa", sum := "0178342577bbf74ed7de51304317033e6703e8506d551d340d6bc9c4d9f3a7c5", func := "loop.example/g00960/laws.FnSigned", spec := "fnSigned", apart := false, narrowed := true }
def FnSignedUptoSaid : Prop := fnSignedUptoRow.holds Try.pinned (OpenSpec.upto fnSignedSpec)

/-- 'laws.FnExactTileSquares', WHERE WHAT IT READS IS OF BULK AT MOST 1048576: true; the input reads as it did. -/
def fnExactTileSquaresUptoRow : OpenClaim := { program := "ytheafkkpapnmdaa", sum := "0178342577bbf74ed7de51304317033e6703e8506d551d340d6bc9c4d9f3a7c5", func := "loop.example/g00960/laws.FnExactTileSquares", spec := "fnExactTileSquares", apart := false, narrowed := true }
def FnExactTileSquaresUptoSaid : Prop := fnExactTileSquaresUptoRow.holds Try.pinned (OpenSpec.upto fnExactTileSquaresSpec)

/-- 'laws.FnExactUnitsIn', WHERE WHAT IT READS IS OF BULK AT MOST 1048576: true; the input reads as it did. -/
def fnExactUnitsInUptoRow : OpenClaim := { program := "ytheafkkpapnmdaa", sum := "0178342577bbf74ed7de51304317033e6703e8506d551d340d6bc9c4d9f3a7c5", func := "loop.example/g00960/laws.FnExactUnitsIn", spec := "fnExactUnitsIn", apart := false, narrowed := true }
def FnExactUnitsInUptoSaid : Prop := fnExactUnitsInUptoRow.holds Try.pinned (OpenSpec.upto fnExactUnitsInSpec)

/-- 'laws.FnExactTileRect', WHERE WHAT IT READS IS OF BULK AT MOST 1048576: true; the input reads as it did. -/
def fnExactTileRectUptoRow : OpenClaim := { program := "ytheafkkpapnmdaa", sum := "0178342577bbf74ed7de51304317033e6703e8506d551d340d6bc9c4d9f3a7c5", func := "loop.example/g00960/laws.FnExactTileRect", spec := "fnExactTileRect", apart := false, narrowed := true }
def FnExactTileRectUptoSaid : Prop := fnExactTileRectUptoRow.holds Try.pinned (OpenSpec.upto fnExactTileRectSpec)

/-- 'laws.FnUnits', WHERE WHAT IT READS IS OF BULK AT MOST 1048576: true; the input reads as it did. -/
def fnUnitsUptoRow : OpenClaim := { program := "ytheafkkpapnmdaa", sum := "0178342577bbf74ed7de51304317033e6703e8506d551d340d6bc9c4d9f3a7c5", func := "loop.example/g00960/laws.FnUnits", spec := "fnUnits", apart := false, narrowed := true }
def FnUnitsUptoSaid : Prop := fnUnitsUptoRow.holds Try.pinned (OpenSpec.upto fnUnitsSpec)

/-- 'laws.FnExactTileAt', WHERE WHAT IT READS IS OF BULK AT MOST 1048576: true; the input reads as it did. -/
def fnExactTileAtUptoRow : OpenClaim := { program := "ytheafkkpapnmdaa", sum := "0178342577bbf74ed7de51304317033e6703e8506d551d340d6bc9c4d9f3a7c5", func := "loop.example/g00960/laws.FnExactTileAt", spec := "fnExactTileAt", apart := false, narrowed := true }
def FnExactTileAtUptoSaid : Prop := fnExactTileAtUptoRow.holds Try.pinned (OpenSpec.upto fnExactTileAtSpec)

/-- 'laws.FnTiles', WHERE WHAT IT READS IS OF BULK AT MOST 1048576: true; the input reads as it did. -/
def fnTilesUptoRow : OpenClaim := { program := "ytheafkkpapnmdaa", sum := "0178342577bbf74ed7de51304317033e6703e8506d551d340d6bc9c4d9f3a7c5", func := "loop.example/g00960/laws.FnTiles", spec := "fnTiles", apart := false, narrowed := true }
def FnTilesUptoSaid : Prop := fnTilesUptoRow.holds Try.pinned (OpenSpec.upto fnTilesSpec)

/-- 'laws.FnExactSeqRow', WHERE WHAT IT READS IS OF BULK AT MOST 1048576: true; the input reads as it did. -/
def fnExactSeqRowUptoRow : OpenClaim := { program := "ytheafkkpapnmdaa", sum := "0178342577bbf74ed7de51304317033e6703e8506d551d340d6bc9c4d9f3a7c5", func := "loop.example/g00960/laws.FnExactSeqRow", spec := "fnExactSeqRow", apart := false, narrowed := true }
def FnExactSeqRowUptoSaid : Prop := fnExactSeqRowUptoRow.holds Try.pinned (OpenSpec.upto fnExactSeqRowSpec)

/-- 'laws.FnExactUnframed', WHERE WHAT IT READS IS OF BULK AT MOST 1048576: true; the input reads as it did. -/
def fnExactUnframedUptoRow : OpenClaim := { program := "ytheafkkpapnmdaa", sum := "0178342577bbf74ed7de51304317033e6703e8506d551d340d6bc9c4d9f3a7c5", func := "loop.example/g00960/laws.FnExactUnframed", spec := "fnExactUnframed", apart := false, narrowed := true }
def FnExactUnframedUptoSaid : Prop := fnExactUnframedUptoRow.holds Try.pinned (OpenSpec.upto fnExactUnframedSpec)

/-- 'laws.FnExactHeadRow', WHERE WHAT IT READS IS OF BULK AT MOST 1048576: true; the input reads as it did. -/
def fnExactHeadRowUptoRow : OpenClaim := { program := "ytheafkkpapnmdaa", sum := "0178342577bbf74ed7de51304317033e6703e8506d551d340d6bc9c4d9f3a7c5", func := "loop.example/g00960/laws.FnExactHeadRow", spec := "fnExactHeadRow", apart := false, narrowed := true }
def FnExactHeadRowUptoSaid : Prop := fnExactHeadRowUptoRow.holds Try.pinned (OpenSpec.upto fnExactHeadRowSpec)

/-- 'laws.FnExactReadSeq', WHERE WHAT IT READS IS OF BULK AT MOST 1048576: true; the input reads as it did. -/
def fnExactReadSeqUptoRow : OpenClaim := { program := "ytheafkkpapnmdaa", sum := "0178342577bbf74ed7de51304317033e6703e8506d551d340d6bc9c4d9f3a7c5", func := "loop.example/g00960/laws.FnExactReadSeq", spec := "fnExactReadSeq", apart := false, narrowed := true }
def FnExactReadSeqUptoSaid : Prop := fnExactReadSeqUptoRow.holds Try.pinned (OpenSpec.upto fnExactReadSeqSpec)

end Rows
end Go.Proofs.Ytheafkkpapnmdaa
