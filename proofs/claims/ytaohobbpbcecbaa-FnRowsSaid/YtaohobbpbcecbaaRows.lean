/-
  No cell of these rows narrows 'for every input' (looked for: loops, veiled, ifaces, maps, wideKeys, modest, calm, conditions, laid).
  DERIVED. THE GIVEN ROWS OF THIS SEAT. 12 by the template 'for every input the law returns true; each argument reads behind the call as it read before'; 0 by the template 'total and deterministic' (their statements: YtaohobbpbcecbaaTotals.lean).
  GIVEN WITH THE SEED: the statements are not yours to turn. If you find one false, say at which input.
  Laid BY PROGRAM, IN A SANDBOX (cutbox-rows.mjs): the forced cells as the released guide's own fill.sh prints them over the translation 7444d02f2b33caf6… (all of the seat's roots in one cut). By AI agents, Wed Nov 11 2026. No macro, syntax, notation, axiom, sorry.
-/
import Derived.Test.YtaohobbpbcecbaaChecked
import GoSem.Claim
import GoSem.ClaimJoined
import GoSem.ClaimMapViews
import Derived.JoinedTies
import Derived.KernelRfl
namespace Go.Proofs.Ytaohobbpbcecbaa
/- THE CELL 'sum', in the pinned program and in every row, IS THE sha256 OF THE DUMP (.gsa) THAT YtaohobbpbcecbaaProg.lean LOADS. Nothing in Lean hashes anything: it is a label: what it is worth is what the hold of that sum in a sandbox is worth. -/
noncomputable def Try.pinned : Pinned := { name := "ytaohobbpbcecbaa", sum := "7444d02f2b33caf65045cccb785913a239920174110d75ef83e9785aab67e6d5", checked := Try.checked }
namespace Rows
def none {H : Type} : Left H := { results := [], args := [] }

/-- 'laws.FnExactReadFix': WHATEVER THE INPUT: true; the input reads as it did. -/
def fnExactReadFixSpec : ChangeSpec := { name := "fnExactReadFix", fn := fun _ => fun
  | [d1, d2, d3] => { results := [.lit (.bool true)], args := [d1, d2, d3] }
  | _ => none }
def fnExactReadFixRow : OpenClaim := { program := "ytaohobbpbcecbaa", sum := "7444d02f2b33caf65045cccb785913a239920174110d75ef83e9785aab67e6d5", func := "loop.example/g00960/laws.FnExactReadFix", spec := "fnExactReadFix", apart := false }
def FnExactReadFixSaid : Prop := fnExactReadFixRow.holds Try.pinned (OpenSpec.ofChange fnExactReadFixSpec)

/-- ITS FALSE NEIGHBOUR: 'it returns false'. Refute it at one input. -/
def fnExactReadFixWrong : ChangeSpec := { name := "fnExactReadFix", fn := fun _ => fun
  | [d1, d2, d3] => { results := [.lit (.bool false)], args := [d1, d2, d3] }
  | _ => none }
def FnExactReadFixWrongFalsely : Prop := fnExactReadFixRow.holds Try.pinned (OpenSpec.ofChange fnExactReadFixWrong)

/-- 'laws.FnExactUnitOf': WHATEVER THE INPUT: true; the input reads as it did. -/
def fnExactUnitOfSpec : ChangeSpec := { name := "fnExactUnitOf", fn := fun _ => fun
  | [d1, d2] => { results := [.lit (.bool true)], args := [d1, d2] }
  | _ => none }
def fnExactUnitOfRow : OpenClaim := { program := "ytaohobbpbcecbaa", sum := "7444d02f2b33caf65045cccb785913a239920174110d75ef83e9785aab67e6d5", func := "loop.example/g00960/laws.FnExactUnitOf", spec := "fnExactUnitOf", apart := false }
def FnExactUnitOfSaid : Prop := fnExactUnitOfRow.holds Try.pinned (OpenSpec.ofChange fnExactUnitOfSpec)

/-- ITS FALSE NEIGHBOUR: 'it returns false'. Refute it at one input. -/
def fnExactUnitOfWrong : ChangeSpec := { name := "fnExactUnitOf", fn := fun _ => fun
  | [d1, d2] => { results := [.lit (.bool false)], args := [d1, d2] }
  | _ => none }
def FnExactUnitOfWrongFalsely : Prop := fnExactUnitOfRow.holds Try.pinned (OpenSpec.ofChange fnExactUnitOfWrong)

/-- 'laws.FnExactUnitIn': WHATEVER THE INPUT: true; the input reads as it did. -/
def fnExactUnitInSpec : ChangeSpec := { name := "fnExactUnitIn", fn := fun _ => fun
  | [d] => { results := [.lit (.bool true)], args := [d] }
  | _ => none }
def fnExactUnitInRow : OpenClaim := { program := "ytaohobbpbcecbaa", sum := "7444d02f2b33caf65045cccb785913a239920174110d75ef83e9785aab67e6d5", func := "loop.example/g00960/laws.FnExactUnitIn", spec := "fnExactUnitIn", apart := false }
def FnExactUnitInSaid : Prop := fnExactUnitInRow.holds Try.pinned (OpenSpec.ofChange fnExactUnitInSpec)

/-- ITS FALSE NEIGHBOUR: 'it returns false'. Refute it at one input. -/
def fnExactUnitInWrong : ChangeSpec := { name := "fnExactUnitIn", fn := fun _ => fun
  | [d] => { results := [.lit (.bool false)], args := [d] }
  | _ => none }
def FnExactUnitInWrongFalsely : Prop := fnExactUnitInRow.holds Try.pinned (OpenSpec.ofChange fnExactUnitInWrong)

/-- 'laws.FnExactReadDecimal': WHATEVER THE INPUT: true; the input reads as it did. -/
def fnExactReadDecimalSpec : ChangeSpec := { name := "fnExactReadDecimal", fn := fun _ => fun
  | [d] => { results := [.lit (.bool true)], args := [d] }
  | _ => none }
def fnExactReadDecimalRow : OpenClaim := { program := "ytaohobbpbcecbaa", sum := "7444d02f2b33caf65045cccb785913a239920174110d75ef83e9785aab67e6d5", func := "loop.example/g00960/laws.FnExactReadDecimal", spec := "fnExactReadDecimal", apart := false }
def FnExactReadDecimalSaid : Prop := fnExactReadDecimalRow.holds Try.pinned (OpenSpec.ofChange fnExactReadDecimalSpec)

/-- ITS FALSE NEIGHBOUR: 'it returns false'. Refute it at one input. -/
def fnExactReadDecimalWrong : ChangeSpec := { name := "fnExactReadDecimal", fn := fun _ => fun
  | [d] => { results := [.lit (.bool false)], args := [d] }
  | _ => none }
def FnExactReadDecimalWrongFalsely : Prop := fnExactReadDecimalRow.holds Try.pinned (OpenSpec.ofChange fnExactReadDecimalWrong)

/-- 'laws.FnExactUnescaped': WHATEVER THE INPUT: true; the input reads as it did. -/
def fnExactUnescapedSpec : ChangeSpec := { name := "fnExactUnescaped", fn := fun _ => fun
  | [d] => { results := [.lit (.bool true)], args := [d] }
  | _ => none }
def fnExactUnescapedRow : OpenClaim := { program := "ytaohobbpbcecbaa", sum := "7444d02f2b33caf65045cccb785913a239920174110d75ef83e9785aab67e6d5", func := "loop.example/g00960/laws.FnExactUnescaped", spec := "fnExactUnescaped", apart := false }
def FnExactUnescapedSaid : Prop := fnExactUnescapedRow.holds Try.pinned (OpenSpec.ofChange fnExactUnescapedSpec)

/-- ITS FALSE NEIGHBOUR: 'it returns false'. Refute it at one input. -/
def fnExactUnescapedWrong : ChangeSpec := { name := "fnExactUnescaped", fn := fun _ => fun
  | [d] => { results := [.lit (.bool false)], args := [d] }
  | _ => none }
def FnExactUnescapedWrongFalsely : Prop := fnExactUnescapedRow.holds Try.pinned (OpenSpec.ofChange fnExactUnescapedWrong)

/-- 'laws.FnExactSeRow': WHATEVER THE INPUT: true; the input reads as it did. -/
def fnExactSeRowSpec : ChangeSpec := { name := "fnExactSeRow", fn := fun _ => fun
  | [d] => { results := [.lit (.bool true)], args := [d] }
  | _ => none }
def fnExactSeRowRow : OpenClaim := { program := "ytaohobbpbcecbaa", sum := "7444d02f2b33caf65045cccb785913a239920174110d75ef83e9785aab67e6d5", func := "loop.example/g00960/laws.FnExactSeRow", spec := "fnExactSeRow", apart := false }
def FnExactSeRowSaid : Prop := fnExactSeRowRow.holds Try.pinned (OpenSpec.ofChange fnExactSeRowSpec)

/-- ITS FALSE NEIGHBOUR: 'it returns false'. Refute it at one input. -/
def fnExactSeRowWrong : ChangeSpec := { name := "fnExactSeRow", fn := fun _ => fun
  | [d] => { results := [.lit (.bool false)], args := [d] }
  | _ => none }
def FnExactSeRowWrongFalsely : Prop := fnExactSeRowRow.holds Try.pinned (OpenSpec.ofChange fnExactSeRowWrong)

/-- 'laws.FnRows': WHATEVER THE INPUT: true; the input reads as it did. -/
def fnRowsSpec : ChangeSpec := { name := "fnRows", fn := fun _ => fun
  | [d] => { results := [.lit (.bool true)], args := [d] }
  | _ => none }
def fnRowsRow : OpenClaim := { program := "ytaohobbpbcecbaa", sum := "7444d02f2b33caf65045cccb785913a239920174110d75ef83e9785aab67e6d5", func := "loop.example/g00960/laws.FnRows", spec := "fnRows", apart := false }
def FnRowsSaid : Prop := fnRowsRow.holds Try.pinned (OpenSpec.ofChange fnRowsSpec)

/-- ITS FALSE NEIGHBOUR: 'it returns false'. Refute it at one input. -/
def fnRowsWrong : ChangeSpec := { name := "fnRows", fn := fun _ => fun
  | [d] => { results := [.lit (.bool false)], args := [d] }
  | _ => none }
def FnRowsWrongFalsely : Prop := fnRowsRow.holds Try.pinned (OpenSpec.ofChange fnRowsWrong)

/-- 'laws.FnExactSeSize': WHATEVER THE INPUT: true; the input reads as it did. -/
def fnExactSeSizeSpec : ChangeSpec := { name := "fnExactSeSize", fn := fun _ => fun
  | [d] => { results := [.lit (.bool true)], args := [d] }
  | _ => none }
def fnExactSeSizeRow : OpenClaim := { program := "ytaohobbpbcecbaa", sum := "7444d02f2b33caf65045cccb785913a239920174110d75ef83e9785aab67e6d5", func := "loop.example/g00960/laws.FnExactSeSize", spec := "fnExactSeSize", apart := false }
def FnExactSeSizeSaid : Prop := fnExactSeSizeRow.holds Try.pinned (OpenSpec.ofChange fnExactSeSizeSpec)

/-- ITS FALSE NEIGHBOUR: 'it returns false'. Refute it at one input. -/
def fnExactSeSizeWrong : ChangeSpec := { name := "fnExactSeSize", fn := fun _ => fun
  | [d] => { results := [.lit (.bool false)], args := [d] }
  | _ => none }
def FnExactSeSizeWrongFalsely : Prop := fnExactSeSizeRow.holds Try.pinned (OpenSpec.ofChange fnExactSeSizeWrong)

/-- 'laws.FnExactPartsOf': WHATEVER THE INPUT: true; the input reads as it did. -/
def fnExactPartsOfSpec : ChangeSpec := { name := "fnExactPartsOf", fn := fun _ => fun
  | [d] => { results := [.lit (.bool true)], args := [d] }
  | _ => none }
def fnExactPartsOfRow : OpenClaim := { program := "ytaohobbpbcecbaa", sum := "7444d02f2b33caf65045cccb785913a239920174110d75ef83e9785aab67e6d5", func := "loop.example/g00960/laws.FnExactPartsOf", spec := "fnExactPartsOf", apart := false }
def FnExactPartsOfSaid : Prop := fnExactPartsOfRow.holds Try.pinned (OpenSpec.ofChange fnExactPartsOfSpec)

/-- ITS FALSE NEIGHBOUR: 'it returns false'. Refute it at one input. -/
def fnExactPartsOfWrong : ChangeSpec := { name := "fnExactPartsOf", fn := fun _ => fun
  | [d] => { results := [.lit (.bool false)], args := [d] }
  | _ => none }
def FnExactPartsOfWrongFalsely : Prop := fnExactPartsOfRow.holds Try.pinned (OpenSpec.ofChange fnExactPartsOfWrong)

/-- 'laws.FnNoStart': WHATEVER THE INPUT: true; the input reads as it did. -/
def fnNoStartSpec : ChangeSpec := { name := "fnNoStart", fn := fun _ => fun
  | [d] => { results := [.lit (.bool true)], args := [d] }
  | _ => none }
def fnNoStartRow : OpenClaim := { program := "ytaohobbpbcecbaa", sum := "7444d02f2b33caf65045cccb785913a239920174110d75ef83e9785aab67e6d5", func := "loop.example/g00960/laws.FnNoStart", spec := "fnNoStart", apart := false }
def FnNoStartSaid : Prop := fnNoStartRow.holds Try.pinned (OpenSpec.ofChange fnNoStartSpec)

/-- ITS FALSE NEIGHBOUR: 'it returns false'. Refute it at one input. -/
def fnNoStartWrong : ChangeSpec := { name := "fnNoStart", fn := fun _ => fun
  | [d] => { results := [.lit (.bool false)], args := [d] }
  | _ => none }
def FnNoStartWrongFalsely : Prop := fnNoStartRow.holds Try.pinned (OpenSpec.ofChange fnNoStartWrong)

/-- 'laws.FnExactReadUe': WHATEVER THE INPUT: true; the input reads as it did. -/
def fnExactReadUeSpec : ChangeSpec := { name := "fnExactReadUe", fn := fun _ => fun
  | [d1, d2] => { results := [.lit (.bool true)], args := [d1, d2] }
  | _ => none }
def fnExactReadUeRow : OpenClaim := { program := "ytaohobbpbcecbaa", sum := "7444d02f2b33caf65045cccb785913a239920174110d75ef83e9785aab67e6d5", func := "loop.example/g00960/laws.FnExactReadUe", spec := "fnExactReadUe", apart := false }
def FnExactReadUeSaid : Prop := fnExactReadUeRow.holds Try.pinned (OpenSpec.ofChange fnExactReadUeSpec)

/-- ITS FALSE NEIGHBOUR: 'it returns false'. Refute it at one input. -/
def fnExactReadUeWrong : ChangeSpec := { name := "fnExactReadUe", fn := fun _ => fun
  | [d1, d2] => { results := [.lit (.bool false)], args := [d1, d2] }
  | _ => none }
def FnExactReadUeWrongFalsely : Prop := fnExactReadUeRow.holds Try.pinned (OpenSpec.ofChange fnExactReadUeWrong)

/-- 'laws.FnExactReadPar': WHATEVER THE INPUT: true; the input reads as it did. -/
def fnExactReadParSpec : ChangeSpec := { name := "fnExactReadPar", fn := fun _ => fun
  | [d1, d2] => { results := [.lit (.bool true)], args := [d1, d2] }
  | _ => none }
def fnExactReadParRow : OpenClaim := { program := "ytaohobbpbcecbaa", sum := "7444d02f2b33caf65045cccb785913a239920174110d75ef83e9785aab67e6d5", func := "loop.example/g00960/laws.FnExactReadPar", spec := "fnExactReadPar", apart := false }
def FnExactReadParSaid : Prop := fnExactReadParRow.holds Try.pinned (OpenSpec.ofChange fnExactReadParSpec)

/-- ITS FALSE NEIGHBOUR: 'it returns false'. Refute it at one input. -/
def fnExactReadParWrong : ChangeSpec := { name := "fnExactReadPar", fn := fun _ => fun
  | [d1, d2] => { results := [.lit (.bool false)], args := [d1, d2] }
  | _ => none }
def FnExactReadParWrongFalsely : Prop := fnExactReadParRow.holds Try.pinned (OpenSpec.ofChange fnExactReadParWrong)

/- THE SECOND FORM. 'bulk': how many values and letters a reading holds, each counted each time it is reached (what is shared counts as often as it is met; a slice's spare places count too). A statement '..UptoSaid' is the law's where the arguments, and the package variables that the reading takes, are together of bulk at most 1048576: NARROWER than '..Said'. Prove '..Said' where nothing that the law and all that it calls make is longer than what came in: it says more and counts as full. Else prove '..UptoSaid'. A law counts once. -/
mutual
def uptoBulk {H : Type} : DataW H → Nat
  | .lit (.string bytes) => bytes.length + 1
  | .lit _ => 1
  | .nil => 1
  | .ptr d => uptoBulk d + 1
  | .slice elems spare => uptoBulkAll elems + uptoBulkAll spare + 1
  | .agg parts => uptoBulkAll parts + 1
  | .iface _ d => uptoBulk d + 1
  | .map entries => uptoBulkEntries entries + 1
  | .held _ => 1
def uptoBulkAll {H : Type} : List (DataW H) → Nat
  | [] => 0
  | d :: r => uptoBulk d + uptoBulkAll r
def uptoBulkEntries {H : Type} : List (Lit × DataW H) → Nat
  | [] => 0
  | x :: r => uptoBulkEntry x + uptoBulkEntries r
def uptoBulkEntry {H : Type} : Lit × DataW H → Nat
  | (.string bytes, d) => bytes.length + uptoBulk d + 1
  | (_, d) => uptoBulk d + 1
 end
def uptoSmall : (H : Type) → List (DataW H) → Bool := fun _ ds => decide (uptoBulkAll ds ≤ 1048576)
def OpenSpec.upto (s : _root_.Go.ChangeSpec) : _root_.Go.OpenSpec := { _root_.Go.OpenSpec.ofChange s with cond := some uptoSmall }

/-- 'laws.FnExactReadFix', WHERE WHAT IT READS IS OF BULK AT MOST 1048576: true; the input reads as it did. -/
def fnExactReadFixUptoRow : OpenClaim := { program := "ytaohobbpbcecbaa", sum := "7444d02f2b33caf65045cccb785913a239920174110d75ef83e9785aab67e6d5", func := "loop.example/g00960/laws.FnExactReadFix", spec := "fnExactReadFix", apart := false, narrowed := true }
def FnExactReadFixUptoSaid : Prop := fnExactReadFixUptoRow.holds Try.pinned (OpenSpec.upto fnExactReadFixSpec)

/-- 'laws.FnExactUnitOf', WHERE WHAT IT READS IS OF BULK AT MOST 1048576: true; the input reads as it did. -/
def fnExactUnitOfUptoRow : OpenClaim := { program := "ytaohobbpbcecbaa", sum := "7444d02f2b33caf65045cccb785913a239920174110d75ef83e9785aab67e6d5", func := "loop.example/g00960/laws.FnExactUnitOf", spec := "fnExactUnitOf", apart := false, narrowed := true }
def FnExactUnitOfUptoSaid : Prop := fnExactUnitOfUptoRow.holds Try.pinned (OpenSpec.upto fnExactUnitOfSpec)

/-- 'laws.FnExactUnitIn', WHERE WHAT IT READS IS OF BULK AT MOST 1048576: true; the input reads as it did. -/
def fnExactUnitInUptoRow : OpenClaim := { program := "ytaohobbpbcecbaa", sum := "7444d02f2b33caf65045cccb785913a239920174110d75ef83e9785aab67e6d5", func := "loop.example/g00960/laws.FnExactUnitIn", spec := "fnExactUnitIn", apart := false, narrowed := true }
def FnExactUnitInUptoSaid : Prop := fnExactUnitInUptoRow.holds Try.pinned (OpenSpec.upto fnExactUnitInSpec)

/-- 'laws.FnExactReadDecimal', WHERE WHAT IT READS IS OF BULK AT MOST 1048576: true; the input reads as it did. -/
def fnExactReadDecimalUptoRow : OpenClaim := { program := "ytaohobbpbcecbaa", sum := "7444d02f2b33caf65045cccb785913a239920174110d75ef83e9785aab67e6d5", func := "loop.example/g00960/laws.FnExactReadDecimal", spec := "fnExactReadDecimal", apart := false, narrowed := true }
def FnExactReadDecimalUptoSaid : Prop := fnExactReadDecimalUptoRow.holds Try.pinned (OpenSpec.upto fnExactReadDecimalSpec)

/-- 'laws.FnExactUnescaped', WHERE WHAT IT READS IS OF BULK AT MOST 1048576: true; the input reads as it did. -/
def fnExactUnescapedUptoRow : OpenClaim := { program := "ytaohobbpbcecbaa", sum := "7444d02f2b33caf65045cccb785913a239920174110d75ef83e9785aab67e6d5", func := "loop.example/g00960/laws.FnExactUnescaped", spec := "fnExactUnescaped", apart := false, narrowed := true }
def FnExactUnescapedUptoSaid : Prop := fnExactUnescapedUptoRow.holds Try.pinned (OpenSpec.upto fnExactUnescapedSpec)

/-- 'laws.FnExactSeRow', WHERE WHAT IT READS IS OF BULK AT MOST 1048576: true; the input reads as it did. -/
def fnExactSeRowUptoRow : OpenClaim := { program := "ytaohobbpbcecbaa", sum := "7444d02f2b33caf65045cccb785913a239920174110d75ef83e9785aab67e6d5", func := "loop.example/g00960/laws.FnExactSeRow", spec := "fnExactSeRow", apart := false, narrowed := true }
def FnExactSeRowUptoSaid : Prop := fnExactSeRowUptoRow.holds Try.pinned (OpenSpec.upto fnExactSeRowSpec)

/-- 'laws.FnRows', WHERE WHAT IT READS IS OF BULK AT MOST 1048576: true; the input reads as it did. -/
def fnRowsUptoRow : OpenClaim := { program := "ytaohobbpbcecbaa", sum := "7444d02f2b33caf65045cccb785913a239920174110d75ef83e9785aab67e6d5", func := "loop.example/g00960/laws.FnRows", spec := "fnRows", apart := false, narrowed := true }
def FnRowsUptoSaid : Prop := fnRowsUptoRow.holds Try.pinned (OpenSpec.upto fnRowsSpec)

/-- 'laws.FnExactSeSize', WHERE WHAT IT READS IS OF BULK AT MOST 1048576: true; the input reads as it did. -/
def fnExactSeSizeUptoRow : OpenClaim := { program := "ytaohobbpbcecbaa", sum := "7444d02f2b33caf65045cccb785913a239920174110d75ef83e9785aab67e6d5", func := "loop.example/g00960/laws.FnExactSeSize", spec := "fnExactSeSize", apart := false, narrowed := true }
def FnExactSeSizeUptoSaid : Prop := fnExactSeSizeUptoRow.holds Try.pinned (OpenSpec.upto fnExactSeSizeSpec)

/-- 'laws.FnExactPartsOf', WHERE WHAT IT READS IS OF BULK AT MOST 1048576: true; the input reads as it did. -/
def fnExactPartsOfUptoRow : OpenClaim := { program := "ytaohobbpbcecbaa", sum := "7444d02f2b33caf65045cccb785913a239920174110d75ef83e9785aab67e6d5", func := "loop.example/g00960/laws.FnExactPartsOf", spec := "fnExactPartsOf", apart := false, narrowed := true }
def FnExactPartsOfUptoSaid : Prop := fnExactPartsOfUptoRow.holds Try.pinned (OpenSpec.upto fnExactPartsOfSpec)

/-- 'laws.FnNoStart', WHERE WHAT IT READS IS OF BULK AT MOST 1048576: true; the input reads as it did. -/
def fnNoStartUptoRow : OpenClaim := { program := "ytaohobbpbcecbaa", sum := "7444d02f2b33caf65045cccb785913a239920174110d75ef83e9785aab67e6d5", func := "loop.example/g00960/laws.FnNoStart", spec := "fnNoStart", apart := false, narrowed := true }
def FnNoStartUptoSaid : Prop := fnNoStartUptoRow.holds Try.pinned (OpenSpec.upto fnNoStartSpec)

/-- 'laws.FnExactReadUe', WHERE WHAT IT READS IS OF BULK AT MOST 1048576: true; the input reads as it did. -/
def fnExactReadUeUptoRow : OpenClaim := { program := "ytaohobbpbcecbaa", sum := "7444d02f2b33caf65045cccb785913a239920174110d75ef83e9785aab67e6d5", func := "loop.example/g00960/laws.FnExactReadUe", spec := "fnExactReadUe", apart := false, narrowed := true }
def FnExactReadUeUptoSaid : Prop := fnExactReadUeUptoRow.holds Try.pinned (OpenSpec.upto fnExactReadUeSpec)

/-- 'laws.FnExactReadPar', WHERE WHAT IT READS IS OF BULK AT MOST 1048576: true; the input reads as it did. -/
def fnExactReadParUptoRow : OpenClaim := { program := "ytaohobbpbcecbaa", sum := "7444d02f2b33caf65045cccb785913a239920174110d75ef83e9785aab67e6d5", func := "loop.example/g00960/laws.FnExactReadPar", spec := "fnExactReadPar", apart := false, narrowed := true }
def FnExactReadParUptoSaid : Prop := fnExactReadParUptoRow.holds Try.pinned (OpenSpec.upto fnExactReadParSpec)

end Rows
end Go.Proofs.Ytaohobbpbcecbaa
