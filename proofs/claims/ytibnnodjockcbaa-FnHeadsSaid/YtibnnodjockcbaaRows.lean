/-
  No cell of these rows narrows 'for every input' (looked for: loops, veiled, ifaces, maps, wideKeys, modest, calm, conditions, laid).
  DERIVED. THE GIVEN ROWS OF THIS SEAT. 12 by the template 'for every input the law returns true; each argument reads behind the call as it read before'; 0 by the template 'total and deterministic' (their statements: YtibnnodjockcbaaTotals.lean).
  GIVEN WITH THE SEED: the statements are not yours to turn. If you find one false, say at which input.
  Laid BY PROGRAM, IN A SANDBOX (cutbox-rows.mjs): the forced cells as the released guide's own fill.sh prints them over the translation 837c8456d756202b… (all of the seat's roots in one cut). By AI agents, Wed Nov 11 2026. No macro, syntax, notation, axiom, sorry.
-/
import Derived.Test.YtibnnodjockcbaaChecked
import GoSem.Claim
import GoSem.ClaimJoined
import GoSem.ClaimMapViews
import Derived.JoinedTies
import Derived.KernelRfl
namespace Go.Proofs.Ytibnnodjockcbaa
/- THE CELL 'sum', in the pinned program and in every row, IS THE sha256 OF THE DUMP (.gsa) THAT YtibnnodjockcbaaProg.lean LOADS. Nothing in Lean hashes anything: it is a label: what it is worth is what the hold of that sum in a sandbox is worth. -/
noncomputable def Try.pinned : Pinned := { name := "ytibnnodjockcbaa", sum := "837c8456d756202b3e671f9d477b17a5561956ec802db54c654bc058fbc3c604", checked := Try.checked }
namespace Rows
def none {H : Type} : Left H := { results := [], args := [] }

/-- 'laws.FnExactEscaped': WHATEVER THE INPUT: true; the input reads as it did. -/
def fnExactEscapedSpec : ChangeSpec := { name := "fnExactEscaped", fn := fun _ => fun
  | [d] => { results := [.lit (.bool true)], args := [d] }
  | _ => none }
def fnExactEscapedRow : OpenClaim := { program := "ytibnnodjockcbaa", sum := "837c8456d756202b3e671f9d477b17a5561956ec802db54c654bc058fbc3c604", func := "loop.example/g00960/laws.FnExactEscaped", spec := "fnExactEscaped", apart := false }
def FnExactEscapedSaid : Prop := fnExactEscapedRow.holds Try.pinned (OpenSpec.ofChange fnExactEscapedSpec)

/-- ITS FALSE NEIGHBOUR: 'it returns false'. Refute it at one input. -/
def fnExactEscapedWrong : ChangeSpec := { name := "fnExactEscaped", fn := fun _ => fun
  | [d] => { results := [.lit (.bool false)], args := [d] }
  | _ => none }
def FnExactEscapedWrongFalsely : Prop := fnExactEscapedRow.holds Try.pinned (OpenSpec.ofChange fnExactEscapedWrong)

/-- 'laws.FnExactDecimal': WHATEVER THE INPUT: true; the input reads as it did. -/
def fnExactDecimalSpec : ChangeSpec := { name := "fnExactDecimal", fn := fun _ => fun
  | [d] => { results := [.lit (.bool true)], args := [d] }
  | _ => none }
def fnExactDecimalRow : OpenClaim := { program := "ytibnnodjockcbaa", sum := "837c8456d756202b3e671f9d477b17a5561956ec802db54c654bc058fbc3c604", func := "loop.example/g00960/laws.FnExactDecimal", spec := "fnExactDecimal", apart := false }
def FnExactDecimalSaid : Prop := fnExactDecimalRow.holds Try.pinned (OpenSpec.ofChange fnExactDecimalSpec)

/-- ITS FALSE NEIGHBOUR: 'it returns false'. Refute it at one input. -/
def fnExactDecimalWrong : ChangeSpec := { name := "fnExactDecimal", fn := fun _ => fun
  | [d] => { results := [.lit (.bool false)], args := [d] }
  | _ => none }
def FnExactDecimalWrongFalsely : Prop := fnExactDecimalRow.holds Try.pinned (OpenSpec.ofChange fnExactDecimalWrong)

/-- 'laws.FnExactReadHead': WHATEVER THE INPUT: true; the input reads as it did. -/
def fnExactReadHeadSpec : ChangeSpec := { name := "fnExactReadHead", fn := fun _ => fun
  | [d1, d2, d3] => { results := [.lit (.bool true)], args := [d1, d2, d3] }
  | _ => none }
def fnExactReadHeadRow : OpenClaim := { program := "ytibnnodjockcbaa", sum := "837c8456d756202b3e671f9d477b17a5561956ec802db54c654bc058fbc3c604", func := "loop.example/g00960/laws.FnExactReadHead", spec := "fnExactReadHead", apart := false }
def FnExactReadHeadSaid : Prop := fnExactReadHeadRow.holds Try.pinned (OpenSpec.ofChange fnExactReadHeadSpec)

/-- ITS FALSE NEIGHBOUR: 'it returns false'. Refute it at one input. -/
def fnExactReadHeadWrong : ChangeSpec := { name := "fnExactReadHead", fn := fun _ => fun
  | [d1, d2, d3] => { results := [.lit (.bool false)], args := [d1, d2, d3] }
  | _ => none }
def FnExactReadHeadWrongFalsely : Prop := fnExactReadHeadRow.holds Try.pinned (OpenSpec.ofChange fnExactReadHeadWrong)

/-- 'laws.FnExactBytesRow': WHATEVER THE INPUT: true; the input reads as it did. -/
def fnExactBytesRowSpec : ChangeSpec := { name := "fnExactBytesRow", fn := fun _ => fun
  | [d] => { results := [.lit (.bool true)], args := [d] }
  | _ => none }
def fnExactBytesRowRow : OpenClaim := { program := "ytibnnodjockcbaa", sum := "837c8456d756202b3e671f9d477b17a5561956ec802db54c654bc058fbc3c604", func := "loop.example/g00960/laws.FnExactBytesRow", spec := "fnExactBytesRow", apart := false }
def FnExactBytesRowSaid : Prop := fnExactBytesRowRow.holds Try.pinned (OpenSpec.ofChange fnExactBytesRowSpec)

/-- ITS FALSE NEIGHBOUR: 'it returns false'. Refute it at one input. -/
def fnExactBytesRowWrong : ChangeSpec := { name := "fnExactBytesRow", fn := fun _ => fun
  | [d] => { results := [.lit (.bool false)], args := [d] }
  | _ => none }
def FnExactBytesRowWrongFalsely : Prop := fnExactBytesRowRow.holds Try.pinned (OpenSpec.ofChange fnExactBytesRowWrong)

/-- 'laws.FnExactLargeBack': WHATEVER THE INPUT: true; the input reads as it did. -/
def fnExactLargeBackSpec : ChangeSpec := { name := "fnExactLargeBack", fn := fun _ => fun
  | [d1, d2] => { results := [.lit (.bool true)], args := [d1, d2] }
  | _ => none }
def fnExactLargeBackRow : OpenClaim := { program := "ytibnnodjockcbaa", sum := "837c8456d756202b3e671f9d477b17a5561956ec802db54c654bc058fbc3c604", func := "loop.example/g00960/laws.FnExactLargeBack", spec := "fnExactLargeBack", apart := false }
def FnExactLargeBackSaid : Prop := fnExactLargeBackRow.holds Try.pinned (OpenSpec.ofChange fnExactLargeBackSpec)

/-- ITS FALSE NEIGHBOUR: 'it returns false'. Refute it at one input. -/
def fnExactLargeBackWrong : ChangeSpec := { name := "fnExactLargeBack", fn := fun _ => fun
  | [d1, d2] => { results := [.lit (.bool false)], args := [d1, d2] }
  | _ => none }
def FnExactLargeBackWrongFalsely : Prop := fnExactLargeBackRow.holds Try.pinned (OpenSpec.ofChange fnExactLargeBackWrong)

/-- 'laws.FnExactUeRow': WHATEVER THE INPUT: true; the input reads as it did. -/
def fnExactUeRowSpec : ChangeSpec := { name := "fnExactUeRow", fn := fun _ => fun
  | [d] => { results := [.lit (.bool true)], args := [d] }
  | _ => none }
def fnExactUeRowRow : OpenClaim := { program := "ytibnnodjockcbaa", sum := "837c8456d756202b3e671f9d477b17a5561956ec802db54c654bc058fbc3c604", func := "loop.example/g00960/laws.FnExactUeRow", spec := "fnExactUeRow", apart := false }
def FnExactUeRowSaid : Prop := fnExactUeRowRow.holds Try.pinned (OpenSpec.ofChange fnExactUeRowSpec)

/-- ITS FALSE NEIGHBOUR: 'it returns false'. Refute it at one input. -/
def fnExactUeRowWrong : ChangeSpec := { name := "fnExactUeRow", fn := fun _ => fun
  | [d] => { results := [.lit (.bool false)], args := [d] }
  | _ => none }
def FnExactUeRowWrongFalsely : Prop := fnExactUeRowRow.holds Try.pinned (OpenSpec.ofChange fnExactUeRowWrong)

/-- 'laws.FnExactUnhex': WHATEVER THE INPUT: true; the input reads as it did. -/
def fnExactUnhexSpec : ChangeSpec := { name := "fnExactUnhex", fn := fun _ => fun
  | [d] => { results := [.lit (.bool true)], args := [d] }
  | _ => none }
def fnExactUnhexRow : OpenClaim := { program := "ytibnnodjockcbaa", sum := "837c8456d756202b3e671f9d477b17a5561956ec802db54c654bc058fbc3c604", func := "loop.example/g00960/laws.FnExactUnhex", spec := "fnExactUnhex", apart := false }
def FnExactUnhexSaid : Prop := fnExactUnhexRow.holds Try.pinned (OpenSpec.ofChange fnExactUnhexSpec)

/-- ITS FALSE NEIGHBOUR: 'it returns false'. Refute it at one input. -/
def fnExactUnhexWrong : ChangeSpec := { name := "fnExactUnhex", fn := fun _ => fun
  | [d] => { results := [.lit (.bool false)], args := [d] }
  | _ => none }
def FnExactUnhexWrongFalsely : Prop := fnExactUnhexRow.holds Try.pinned (OpenSpec.ofChange fnExactUnhexWrong)

/-- 'laws.FnExactRowBytes': WHATEVER THE INPUT: true; the input reads as it did. -/
def fnExactRowBytesSpec : ChangeSpec := { name := "fnExactRowBytes", fn := fun _ => fun
  | [d] => { results := [.lit (.bool true)], args := [d] }
  | _ => none }
def fnExactRowBytesRow : OpenClaim := { program := "ytibnnodjockcbaa", sum := "837c8456d756202b3e671f9d477b17a5561956ec802db54c654bc058fbc3c604", func := "loop.example/g00960/laws.FnExactRowBytes", spec := "fnExactRowBytes", apart := false }
def FnExactRowBytesSaid : Prop := fnExactRowBytesRow.holds Try.pinned (OpenSpec.ofChange fnExactRowBytesSpec)

/-- ITS FALSE NEIGHBOUR: 'it returns false'. Refute it at one input. -/
def fnExactRowBytesWrong : ChangeSpec := { name := "fnExactRowBytes", fn := fun _ => fun
  | [d] => { results := [.lit (.bool false)], args := [d] }
  | _ => none }
def FnExactRowBytesWrongFalsely : Prop := fnExactRowBytesRow.holds Try.pinned (OpenSpec.ofChange fnExactRowBytesWrong)

/-- 'laws.FnExactUeSize': WHATEVER THE INPUT: true; the input reads as it did. -/
def fnExactUeSizeSpec : ChangeSpec := { name := "fnExactUeSize", fn := fun _ => fun
  | [d] => { results := [.lit (.bool true)], args := [d] }
  | _ => none }
def fnExactUeSizeRow : OpenClaim := { program := "ytibnnodjockcbaa", sum := "837c8456d756202b3e671f9d477b17a5561956ec802db54c654bc058fbc3c604", func := "loop.example/g00960/laws.FnExactUeSize", spec := "fnExactUeSize", apart := false }
def FnExactUeSizeSaid : Prop := fnExactUeSizeRow.holds Try.pinned (OpenSpec.ofChange fnExactUeSizeSpec)

/-- ITS FALSE NEIGHBOUR: 'it returns false'. Refute it at one input. -/
def fnExactUeSizeWrong : ChangeSpec := { name := "fnExactUeSize", fn := fun _ => fun
  | [d] => { results := [.lit (.bool false)], args := [d] }
  | _ => none }
def FnExactUeSizeWrongFalsely : Prop := fnExactUeSizeRow.holds Try.pinned (OpenSpec.ofChange fnExactUeSizeWrong)

/-- 'laws.FnHeads': WHATEVER THE INPUT: true; the input reads as it did. -/
def fnHeadsSpec : ChangeSpec := { name := "fnHeads", fn := fun _ => fun
  | [d] => { results := [.lit (.bool true)], args := [d] }
  | _ => none }
def fnHeadsRow : OpenClaim := { program := "ytibnnodjockcbaa", sum := "837c8456d756202b3e671f9d477b17a5561956ec802db54c654bc058fbc3c604", func := "loop.example/g00960/laws.FnHeads", spec := "fnHeads", apart := false }
def FnHeadsSaid : Prop := fnHeadsRow.holds Try.pinned (OpenSpec.ofChange fnHeadsSpec)

/-- ITS FALSE NEIGHBOUR: 'it returns false'. Refute it at one input. -/
def fnHeadsWrong : ChangeSpec := { name := "fnHeads", fn := fun _ => fun
  | [d] => { results := [.lit (.bool false)], args := [d] }
  | _ => none }
def FnHeadsWrongFalsely : Prop := fnHeadsRow.holds Try.pinned (OpenSpec.ofChange fnHeadsWrong)

/-- 'laws.FnExactParRow': WHATEVER THE INPUT: true; the input reads as it did. -/
def fnExactParRowSpec : ChangeSpec := { name := "fnExactParRow", fn := fun _ => fun
  | [d] => { results := [.lit (.bool true)], args := [d] }
  | _ => none }
def fnExactParRowRow : OpenClaim := { program := "ytibnnodjockcbaa", sum := "837c8456d756202b3e671f9d477b17a5561956ec802db54c654bc058fbc3c604", func := "loop.example/g00960/laws.FnExactParRow", spec := "fnExactParRow", apart := false }
def FnExactParRowSaid : Prop := fnExactParRowRow.holds Try.pinned (OpenSpec.ofChange fnExactParRowSpec)

/-- ITS FALSE NEIGHBOUR: 'it returns false'. Refute it at one input. -/
def fnExactParRowWrong : ChangeSpec := { name := "fnExactParRow", fn := fun _ => fun
  | [d] => { results := [.lit (.bool false)], args := [d] }
  | _ => none }
def FnExactParRowWrongFalsely : Prop := fnExactParRowRow.holds Try.pinned (OpenSpec.ofChange fnExactParRowWrong)

/-- 'laws.FnExactLargeLevel': WHATEVER THE INPUT: true; the input reads as it did. -/
def fnExactLargeLevelSpec : ChangeSpec := { name := "fnExactLargeLevel", fn := fun _ => fun
  | [d1, d2] => { results := [.lit (.bool true)], args := [d1, d2] }
  | _ => none }
def fnExactLargeLevelRow : OpenClaim := { program := "ytibnnodjockcbaa", sum := "837c8456d756202b3e671f9d477b17a5561956ec802db54c654bc058fbc3c604", func := "loop.example/g00960/laws.FnExactLargeLevel", spec := "fnExactLargeLevel", apart := false }
def FnExactLargeLevelSaid : Prop := fnExactLargeLevelRow.holds Try.pinned (OpenSpec.ofChange fnExactLargeLevelSpec)

/-- ITS FALSE NEIGHBOUR: 'it returns false'. Refute it at one input. -/
def fnExactLargeLevelWrong : ChangeSpec := { name := "fnExactLargeLevel", fn := fun _ => fun
  | [d1, d2] => { results := [.lit (.bool false)], args := [d1, d2] }
  | _ => none }
def FnExactLargeLevelWrongFalsely : Prop := fnExactLargeLevelRow.holds Try.pinned (OpenSpec.ofChange fnExactLargeLevelWrong)

/- THE SECOND FORM. 'bulk': how many values and letters a reading holds, each counted each time it is reached (what is shared counts as often as it is met; a slice's spare places count too). A statement '..UptoSaid' is the law's where the arguments, and the package variables that the reading takes, are together of bulk at most 1048576: NARROWER than '..Said'. Prove '..Said' where nothing that the law and all that it calls make is longer than what came in: it says more and counts as full. Else prove '..UptoSaid'. A law counts once. -/
mutual
def uptoBulk {H : Type} : DataW H → Nat
  | .lit (.string bytes) => bytes.length + 1
  | .lit _ => 1
  | .nil => 1
  | .ptr d => uptoBulk d + 1
  | .slice elems spare => uptoBulkAll elems + uptoBulkAll spare + 1
  | .agg parts => uptoBulkAll parts + 1
  | .iface _ d => uptoBulk d + 1
  | .map entries => uptoBulkEntries entries + 1
  | .held _ => 1
def uptoBulkAll {H : Type} : List (DataW H) → Nat
  | [] => 0
  | d :: r => uptoBulk d + uptoBulkAll r
def uptoBulkEntries {H : Type} : List (Lit × DataW H) → Nat
  | [] => 0
  | x :: r => uptoBulkEntry x + uptoBulkEntries r
def uptoBulkEntry {H : Type} : Lit × DataW H → Nat
  | (.string bytes, d) => bytes.length + uptoBulk d + 1
  | (_, d) => uptoBulk d + 1
 end
def uptoSmall : (H : Type) → List (DataW H) → Bool := fun _ ds => decide (uptoBulkAll ds ≤ 1048576)
def OpenSpec.upto (s : _root_.Go.ChangeSpec) : _root_.Go.OpenSpec := { _root_.Go.OpenSpec.ofChange s with cond := some uptoSmall }

/-- 'laws.FnExactEscaped', WHERE WHAT IT READS IS OF BULK AT MOST 1048576: true; the input reads as it did. -/
def fnExactEscapedUptoRow : OpenClaim := { program := "ytibnnodjockcbaa", sum := "837c8456d756202b3e671f9d477b17a5561956ec802db54c654bc058fbc3c604", func := "loop.example/g00960/laws.FnExactEscaped", spec := "fnExactEscaped", apart := false, narrowed := true }
def FnExactEscapedUptoSaid : Prop := fnExactEscapedUptoRow.holds Try.pinned (OpenSpec.upto fnExactEscapedSpec)

/-- 'laws.FnExactDecimal', WHERE WHAT IT READS IS OF BULK AT MOST 1048576: true; the input reads as it did. -/
def fnExactDecimalUptoRow : OpenClaim := { program := "ytibnnodjockcbaa", sum := "837c8456d756202b3e671f9d477b17a5561956ec802db54c654bc058fbc3c604", func := "loop.example/g00960/laws.FnExactDecimal", spec := "fnExactDecimal", apart := false, narrowed := true }
def FnExactDecimalUptoSaid : Prop := fnExactDecimalUptoRow.holds Try.pinned (OpenSpec.upto fnExactDecimalSpec)

/-- 'laws.FnExactReadHead', WHERE WHAT IT READS IS OF BULK AT MOST 1048576: true; the input reads as it did. -/
def fnExactReadHeadUptoRow : OpenClaim := { program := "ytibnnodjockcbaa", sum := "837c8456d756202b3e671f9d477b17a5561956ec802db54c654bc058fbc3c604", func := "loop.example/g00960/laws.FnExactReadHead", spec := "fnExactReadHead", apart := false, narrowed := true }
def FnExactReadHeadUptoSaid : Prop := fnExactReadHeadUptoRow.holds Try.pinned (OpenSpec.upto fnExactReadHeadSpec)

/-- 'laws.FnExactBytesRow', WHERE WHAT IT READS IS OF BULK AT MOST 1048576: true; the input reads as it did. -/
def fnExactBytesRowUptoRow : OpenClaim := { program := "ytibnnodjockcbaa", sum := "837c8456d756202b3e671f9d477b17a5561956ec802db54c654bc058fbc3c604", func := "loop.example/g00960/laws.FnExactBytesRow", spec := "fnExactBytesRow", apart := false, narrowed := true }
def FnExactBytesRowUptoSaid : Prop := fnExactBytesRowUptoRow.holds Try.pinned (OpenSpec.upto fnExactBytesRowSpec)

/-- 'laws.FnExactLargeBack', WHERE WHAT IT READS IS OF BULK AT MOST 1048576: true; the input reads as it did. -/
def fnExactLargeBackUptoRow : OpenClaim := { program := "ytibnnodjockcbaa", sum := "837c8456d756202b3e671f9d477b17a5561956ec802db54c654bc058fbc3c604", func := "loop.example/g00960/laws.FnExactLargeBack", spec := "fnExactLargeBack", apart := false, narrowed := true }
def FnExactLargeBackUptoSaid : Prop := fnExactLargeBackUptoRow.holds Try.pinned (OpenSpec.upto fnExactLargeBackSpec)

/-- 'laws.FnExactUeRow', WHERE WHAT IT READS IS OF BULK AT MOST 1048576: true; the input reads as it did. -/
def fnExactUeRowUptoRow : OpenClaim := { program := "ytibnnodjockcbaa", sum := "837c8456d756202b3e671f9d477b17a5561956ec802db54c654bc058fbc3c604", func := "loop.example/g00960/laws.FnExactUeRow", spec := "fnExactUeRow", apart := false, narrowed := true }
def FnExactUeRowUptoSaid : Prop := fnExactUeRowUptoRow.holds Try.pinned (OpenSpec.upto fnExactUeRowSpec)

/-- 'laws.FnExactUnhex', WHERE WHAT IT READS IS OF BULK AT MOST 1048576: true; the input reads as it did. -/
def fnExactUnhexUptoRow : OpenClaim := { program := "ytibnnodjockcbaa", sum := "837c8456d756202b3e671f9d477b17a5561956ec802db54c654bc058fbc3c604", func := "loop.example/g00960/laws.FnExactUnhex", spec := "fnExactUnhex", apart := false, narrowed := true }
def FnExactUnhexUptoSaid : Prop := fnExactUnhexUptoRow.holds Try.pinned (OpenSpec.upto fnExactUnhexSpec)

/-- 'laws.FnExactRowBytes', WHERE WHAT IT READS IS OF BULK AT MOST 1048576: true; the input reads as it did. -/
def fnExactRowBytesUptoRow : OpenClaim := { program := "ytibnnodjockcbaa", sum := "837c8456d756202b3e671f9d477b17a5561956ec802db54c654bc058fbc3c604", func := "loop.example/g00960/laws.FnExactRowBytes", spec := "fnExactRowBytes", apart := false, narrowed := true }
def FnExactRowBytesUptoSaid : Prop := fnExactRowBytesUptoRow.holds Try.pinned (OpenSpec.upto fnExactRowBytesSpec)

/-- 'laws.FnExactUeSize', WHERE WHAT IT READS IS OF BULK AT MOST 1048576: true; the input reads as it did. -/
def fnExactUeSizeUptoRow : OpenClaim := { program := "ytibnnodjockcbaa", sum := "837c8456d756202b3e671f9d477b17a5561956ec802db54c654bc058fbc3c604", func := "loop.example/g00960/laws.FnExactUeSize", spec := "fnExactUeSize", apart := false, narrowed := true }
def FnExactUeSizeUptoSaid : Prop := fnExactUeSizeUptoRow.holds Try.pinned (OpenSpec.upto fnExactUeSizeSpec)

/-- 'laws.FnHeads', WHERE WHAT IT READS IS OF BULK AT MOST 1048576: true; the input reads as it did. -/
def fnHeadsUptoRow : OpenClaim := { program := "ytibnnodjockcbaa", sum := "837c8456d756202b3e671f9d477b17a5561956ec802db54c654bc058fbc3c604", func := "loop.example/g00960/laws.FnHeads", spec := "fnHeads", apart := false, narrowed := true }
def FnHeadsUptoSaid : Prop := fnHeadsUptoRow.holds Try.pinned (OpenSpec.upto fnHeadsSpec)

/-- 'laws.FnExactParRow', WHERE WHAT IT READS IS OF BULK AT MOST 1048576: true; the input reads as it did. -/
def fnExactParRowUptoRow : OpenClaim := { program := "ytibnnodjockcbaa", sum := "837c8456d756202b3e671f9d477b17a5561956ec802db54c654bc058fbc3c604", func := "loop.example/g00960/laws.FnExactParRow", spec := "fnExactParRow", apart := false, narrowed := true }
def FnExactParRowUptoSaid : Prop := fnExactParRowUptoRow.holds Try.pinned (OpenSpec.upto fnExactParRowSpec)

/-- 'laws.FnExactLargeLevel', WHERE WHAT IT READS IS OF BULK AT MOST 1048576: true; the input reads as it did. -/
def fnExactLargeLevelUptoRow : OpenClaim := { program := "ytibnnodjockcbaa", sum := "837c8456d756202b3e671f9d477b17a5561956ec802db54c654bc058fbc3c604", func := "loop.example/g00960/laws.FnExactLargeLevel", spec := "fnExactLargeLevel", apart := false, narrowed := true }
def FnExactLargeLevelUptoSaid : Prop := fnExactLargeLevelUptoRow.holds Try.pinned (OpenSpec.upto fnExactLargeLevelSpec)

end Rows
end Go.Proofs.Ytibnnodjockcbaa
