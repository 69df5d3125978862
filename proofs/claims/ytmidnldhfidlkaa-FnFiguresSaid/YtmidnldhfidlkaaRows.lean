/-
  No cell of these rows narrows 'for every input' (looked for: loops, veiled, ifaces, maps, wideKeys, modest, calm, conditions, laid).
  DERIVED. THE GIVEN ROWS OF THIS SEAT. 12 by the template 'for every input the law returns true; each argument reads behind the call as it read before'; 0 by the template 'total and deterministic' (their statements: YtmidnldhfidlkaaTotals.lean).
  GIVEN WITH THE SEED: the statements are not yours to turn. If you find one false, say at which input.
  Laid BY PROGRAM, IN A SANDBOX (cutbox-rows.mjs): the forced cells as the released guide's own fill.sh prints them over the translation 704a73117d3b7324… (all of the seat's roots in one cut). By AI agents, Wed Nov 11 2026. No macro, syntax, notation, axiom, sorry.
-/
import Derived.Test.YtmidnldhfidlkaaChecked
import GoSem.Claim
import GoSem.ClaimJoined
import GoSem.ClaimMapViews
import Derived.JoinedTies
import Derived.KernelRfl
namespace Go.Proofs.Ytmidnldhfidlkaa
/- THE CELL 'sum', in the pinned program and in every row, IS THE sha256 OF THE DUMP (.gsa) THAT YtmidnldhfidlkaaProg.lean LOADS. Nothing in Lean hashes anything: it is a label: what it is worth is what the hold of that sum in a sandbox is worth. -/
noncomputable def Try.pinned : Pinned := { name := "ytmidnldhfidlkaa", sum := "704a73117d3b73249f93eda492356e8074fbcecb0e4bff1ca860893596d55ef4", checked := Try.checked }
namespace Rows
def none {H : Type} : Left H := { results := [], args := [] }

/-- 'laws.FnExactLevelFor': WHATEVER THE INPUT: true; the input reads as it did. -/
def fnExactLevelForSpec : ChangeSpec := { name := "fnExactLevelFor", fn := fun _ => fun
  | [d1, d2] => { results := [.lit (.bool true)], args := [d1, d2] }
  | _ => none }
def fnExactLevelForRow : OpenClaim := { program := "ytmidnldhfidlkaa", sum := "704a73117d3b73249f93eda492356e8074fbcecb0e4bff1ca860893596d55ef4", func := "loop.example/g00960/laws.FnExactLevelFor", spec := "fnExactLevelFor", apart := false }
def FnExactLevelForSaid : Prop := fnExactLevelForRow.holds Try.pinned (OpenSpec.ofChange fnExactLevelForSpec)

/-- ITS FALSE NEIGHBOUR: 'it returns false'. Refute it at one input. -/
def fnExactLevelForWrong : ChangeSpec := { name := "fnExactLevelFor", fn := fun _ => fun
  | [d1, d2] => { results := [.lit (.bool false)], args := [d1, d2] }
  | _ => none }
def FnExactLevelForWrongFalsely : Prop := fnExactLevelForRow.holds Try.pinned (OpenSpec.ofChange fnExactLevelForWrong)

/-- 'laws.FnExactSquaresOf': WHATEVER THE INPUT: true; the input reads as it did. -/
def fnExactSquaresOfSpec : ChangeSpec := { name := "fnExactSquaresOf", fn := fun _ => fun
  | [d] => { results := [.lit (.bool true)], args := [d] }
  | _ => none }
def fnExactSquaresOfRow : OpenClaim := { program := "ytmidnldhfidlkaa", sum := "704a73117d3b73249f93eda492356e8074fbcecb0e4bff1ca860893596d55ef4", func := "loop.example/g00960/laws.FnExactSquaresOf", spec := "fnExactSquaresOf", apart := false }
def FnExactSquaresOfSaid : Prop := fnExactSquaresOfRow.holds Try.pinned (OpenSpec.ofChange fnExactSquaresOfSpec)

/-- ITS FALSE NEIGHBOUR: 'it returns false'. Refute it at one input. -/
def fnExactSquaresOfWrong : ChangeSpec := { name := "fnExactSquaresOf", fn := fun _ => fun
  | [d] => { results := [.lit (.bool false)], args := [d] }
  | _ => none }
def FnExactSquaresOfWrongFalsely : Prop := fnExactSquaresOfRow.holds Try.pinned (OpenSpec.ofChange fnExactSquaresOfWrong)

/-- 'laws.FnExactFramed': WHATEVER THE INPUT: true; the input reads as it did. -/
def fnExactFramedSpec : ChangeSpec := { name := "fnExactFramed", fn := fun _ => fun
  | [d] => { results := [.lit (.bool true)], args := [d] }
  | _ => none }
def fnExactFramedRow : OpenClaim := { program := "ytmidnldhfidlkaa", sum := "704a73117d3b73249f93eda492356e8074fbcecb0e4bff1ca860893596d55ef4", func := "loop.example/g00960/laws.FnExactFramed", spec := "fnExactFramed", apart := false }
def FnExactFramedSaid : Prop := fnExactFramedRow.holds Try.pinned (OpenSpec.ofChange fnExactFramedSpec)

/-- ITS FALSE NEIGHBOUR: 'it returns false'. Refute it at one input. -/
def fnExactFramedWrong : ChangeSpec := { name := "fnExactFramed", fn := fun _ => fun
  | [d] => { results := [.lit (.bool false)], args := [d] }
  | _ => none }
def FnExactFramedWrongFalsely : Prop := fnExactFramedRow.holds Try.pinned (OpenSpec.ofChange fnExactFramedWrong)

/-- 'laws.FnFixed': WHATEVER THE INPUT: true; the input reads as it did. -/
def fnFixedSpec : ChangeSpec := { name := "fnFixed", fn := fun _ => fun
  | [d] => { results := [.lit (.bool true)], args := [d] }
  | _ => none }
def fnFixedRow : OpenClaim := { program := "ytmidnldhfidlkaa", sum := "704a73117d3b73249f93eda492356e8074fbcecb0e4bff1ca860893596d55ef4", func := "loop.example/g00960/laws.FnFixed", spec := "fnFixed", apart := false }
def FnFixedSaid : Prop := fnFixedRow.holds Try.pinned (OpenSpec.ofChange fnFixedSpec)

/-- ITS FALSE NEIGHBOUR: 'it returns false'. Refute it at one input. -/
def fnFixedWrong : ChangeSpec := { name := "fnFixed", fn := fun _ => fun
  | [d] => { results := [.lit (.bool false)], args := [d] }
  | _ => none }
def FnFixedWrongFalsely : Prop := fnFixedRow.holds Try.pinned (OpenSpec.ofChange fnFixedWrong)

/-- 'laws.FnFigures': WHATEVER THE INPUT: true; the input reads as it did. -/
def fnFiguresSpec : ChangeSpec := { name := "fnFigures", fn := fun _ => fun
  | [d] => { results := [.lit (.bool true)], args := [d] }
  | _ => none }
def fnFiguresRow : OpenClaim := { program := "ytmidnldhfidlkaa", sum := "704a73117d3b73249f93eda492356e8074fbcecb0e4bff1ca860893596d55ef4", func := "loop.example/g00960/laws.FnFigures", spec := "fnFigures", apart := false }
def FnFiguresSaid : Prop := fnFiguresRow.holds Try.pinned (OpenSpec.ofChange fnFiguresSpec)

/-- ITS FALSE NEIGHBOUR: 'it returns false'. Refute it at one input. -/
def fnFiguresWrong : ChangeSpec := { name := "fnFigures", fn := fun _ => fun
  | [d] => { results := [.lit (.bool false)], args := [d] }
  | _ => none }
def FnFiguresWrongFalsely : Prop := fnFiguresRow.holds Try.pinned (OpenSpec.ofChange fnFiguresWrong)

/-- 'laws.FnExactSeqOk': WHATEVER THE INPUT: true; the input reads as it did. -/
def fnExactSeqOkSpec : ChangeSpec := { name := "fnExactSeqOk", fn := fun _ => fun
  | [d] => { results := [.lit (.bool true)], args := [d] }
  | _ => none }
def fnExactSeqOkRow : OpenClaim := { program := "ytmidnldhfidlkaa", sum := "704a73117d3b73249f93eda492356e8074fbcecb0e4bff1ca860893596d55ef4", func := "loop.example/g00960/laws.FnExactSeqOk", spec := "fnExactSeqOk", apart := false }
def FnExactSeqOkSaid : Prop := fnExactSeqOkRow.holds Try.pinned (OpenSpec.ofChange fnExactSeqOkSpec)

/-- ITS FALSE NEIGHBOUR: 'it returns false'. Refute it at one input. -/
def fnExactSeqOkWrong : ChangeSpec := { name := "fnExactSeqOk", fn := fun _ => fun
  | [d] => { results := [.lit (.bool false)], args := [d] }
  | _ => none }
def FnExactSeqOkWrongFalsely : Prop := fnExactSeqOkRow.holds Try.pinned (OpenSpec.ofChange fnExactSeqOkWrong)

/-- 'laws.FnExactReadSe': WHATEVER THE INPUT: true; the input reads as it did. -/
def fnExactReadSeSpec : ChangeSpec := { name := "fnExactReadSe", fn := fun _ => fun
  | [d1, d2] => { results := [.lit (.bool true)], args := [d1, d2] }
  | _ => none }
def fnExactReadSeRow : OpenClaim := { program := "ytmidnldhfidlkaa", sum := "704a73117d3b73249f93eda492356e8074fbcecb0e4bff1ca860893596d55ef4", func := "loop.example/g00960/laws.FnExactReadSe", spec := "fnExactReadSe", apart := false }
def FnExactReadSeSaid : Prop := fnExactReadSeRow.holds Try.pinned (OpenSpec.ofChange fnExactReadSeSpec)

/-- ITS FALSE NEIGHBOUR: 'it returns false'. Refute it at one input. -/
def fnExactReadSeWrong : ChangeSpec := { name := "fnExactReadSe", fn := fun _ => fun
  | [d1, d2] => { results := [.lit (.bool false)], args := [d1, d2] }
  | _ => none }
def FnExactReadSeWrongFalsely : Prop := fnExactReadSeRow.holds Try.pinned (OpenSpec.ofChange fnExactReadSeWrong)

/-- 'laws.FnCounts': WHATEVER THE INPUT: true; the input reads as it did. -/
def fnCountsSpec : ChangeSpec := { name := "fnCounts", fn := fun _ => fun
  | [d] => { results := [.lit (.bool true)], args := [d] }
  | _ => none }
def fnCountsRow : OpenClaim := { program := "ytmidnldhfidlkaa", sum := "704a73117d3b73249f93eda492356e8074fbcecb0e4bff1ca860893596d55ef4", func := "loop.example/g00960/laws.FnCounts", spec := "fnCounts", apart := false }
def FnCountsSaid : Prop := fnCountsRow.holds Try.pinned (OpenSpec.ofChange fnCountsSpec)

/-- ITS FALSE NEIGHBOUR: 'it returns false'. Refute it at one input. -/
def fnCountsWrong : ChangeSpec := { name := "fnCounts", fn := fun _ => fun
  | [d] => { results := [.lit (.bool false)], args := [d] }
  | _ => none }
def FnCountsWrongFalsely : Prop := fnCountsRow.holds Try.pinned (OpenSpec.ofChange fnCountsWrong)

/-- 'laws.FnExactSizeOf': WHATEVER THE INPUT: true; the input reads as it did. -/
def fnExactSizeOfSpec : ChangeSpec := { name := "fnExactSizeOf", fn := fun _ => fun
  | [d] => { results := [.lit (.bool true)], args := [d] }
  | _ => none }
def fnExactSizeOfRow : OpenClaim := { program := "ytmidnldhfidlkaa", sum := "704a73117d3b73249f93eda492356e8074fbcecb0e4bff1ca860893596d55ef4", func := "loop.example/g00960/laws.FnExactSizeOf", spec := "fnExactSizeOf", apart := false }
def FnExactSizeOfSaid : Prop := fnExactSizeOfRow.holds Try.pinned (OpenSpec.ofChange fnExactSizeOfSpec)

/-- ITS FALSE NEIGHBOUR: 'it returns false'. Refute it at one input. -/
def fnExactSizeOfWrong : ChangeSpec := { name := "fnExactSizeOf", fn := fun _ => fun
  | [d] => { results := [.lit (.bool false)], args := [d] }
  | _ => none }
def FnExactSizeOfWrongFalsely : Prop := fnExactSizeOfRow.holds Try.pinned (OpenSpec.ofChange fnExactSizeOfWrong)

/-- 'laws.FnExactTilesOf': WHATEVER THE INPUT: true; the input reads as it did. -/
def fnExactTilesOfSpec : ChangeSpec := { name := "fnExactTilesOf", fn := fun _ => fun
  | [d] => { results := [.lit (.bool true)], args := [d] }
  | _ => none }
def fnExactTilesOfRow : OpenClaim := { program := "ytmidnldhfidlkaa", sum := "704a73117d3b73249f93eda492356e8074fbcecb0e4bff1ca860893596d55ef4", func := "loop.example/g00960/laws.FnExactTilesOf", spec := "fnExactTilesOf", apart := false }
def FnExactTilesOfSaid : Prop := fnExactTilesOfRow.holds Try.pinned (OpenSpec.ofChange fnExactTilesOfSpec)

/-- ITS FALSE NEIGHBOUR: 'it returns false'. Refute it at one input. -/
def fnExactTilesOfWrong : ChangeSpec := { name := "fnExactTilesOf", fn := fun _ => fun
  | [d] => { results := [.lit (.bool false)], args := [d] }
  | _ => none }
def FnExactTilesOfWrongFalsely : Prop := fnExactTilesOfRow.holds Try.pinned (OpenSpec.ofChange fnExactTilesOfWrong)

/-- 'laws.FnLevels': WHATEVER THE INPUT: true; the input reads as it did. -/
def fnLevelsSpec : ChangeSpec := { name := "fnLevels", fn := fun _ => fun
  | [d] => { results := [.lit (.bool true)], args := [d] }
  | _ => none }
def fnLevelsRow : OpenClaim := { program := "ytmidnldhfidlkaa", sum := "704a73117d3b73249f93eda492356e8074fbcecb0e4bff1ca860893596d55ef4", func := "loop.example/g00960/laws.FnLevels", spec := "fnLevels", apart := false }
def FnLevelsSaid : Prop := fnLevelsRow.holds Try.pinned (OpenSpec.ofChange fnLevelsSpec)

/-- ITS FALSE NEIGHBOUR: 'it returns false'. Refute it at one input. -/
def fnLevelsWrong : ChangeSpec := { name := "fnLevels", fn := fun _ => fun
  | [d] => { results := [.lit (.bool false)], args := [d] }
  | _ => none }
def FnLevelsWrongFalsely : Prop := fnLevelsRow.holds Try.pinned (OpenSpec.ofChange fnLevelsWrong)

/-- 'laws.FnExactHeadOk': WHATEVER THE INPUT: true; the input reads as it did. -/
def fnExactHeadOkSpec : ChangeSpec := { name := "fnExactHeadOk", fn := fun _ => fun
  | [d1, d2, d3] => { results := [.lit (.bool true)], args := [d1, d2, d3] }
  | _ => none }
def fnExactHeadOkRow : OpenClaim := { program := "ytmidnldhfidlkaa", sum := "704a73117d3b73249f93eda492356e8074fbcecb0e4bff1ca860893596d55ef4", func := "loop.example/g00960/laws.FnExactHeadOk", spec := "fnExactHeadOk", apart := false }
def FnExactHeadOkSaid : Prop := fnExactHeadOkRow.holds Try.pinned (OpenSpec.ofChange fnExactHeadOkSpec)

/-- ITS FALSE NEIGHBOUR: 'it returns false'. Refute it at one input. -/
def fnExactHeadOkWrong : ChangeSpec := { name := "fnExactHeadOk", fn := fun _ => fun
  | [d1, d2, d3] => { results := [.lit (.bool false)], args := [d1, d2, d3] }
  | _ => none }
def FnExactHeadOkWrongFalsely : Prop := fnExactHeadOkRow.holds Try.pinned (OpenSpec.ofChange fnExactHeadOkWrong)

/- THE SECOND FORM. 'bulk': how many values and letters a reading holds, each counted each time it is reached (what is shared counts as often as it is met; a slice's spare places count too). A statement '..UptoSaid' is the law's where the arguments, and the package variables that the reading takes, are together of bulk at most 1048576: NARROWER than '..Said'. Prove '..Said' where nothing that the law and all that it calls make is longer than what came in: it says more and counts as full. Else prove '..UptoSaid'. A law counts once. -/
mutual
def uptoBulk {H : Type} : DataW H → Nat
  | .lit (.string bytes) => bytes.length + 1
  | .lit _ => 1
  | .nil => 1
  | .ptr d => uptoBulk d + 1
  | .slice elems spare => uptoBulkAll elems + uptoBulkAll spare + 1
  | .agg parts => uptoBulkAll parts + 1
  | .iface _ d => uptoBulk d + 1
  | .map entries => uptoBulkEntries entries + 1
  | .held _ => 1
def uptoBulkAll {H : Type} : List (DataW H) → Nat
  | [] => 0
  | d :: r => uptoBulk d + uptoBulkAll r
def uptoBulkEntries {H : Type} : List (Lit × DataW H) → Nat
  | [] => 0
  | x :: r => uptoBulkEntry x + uptoBulkEntries r
def uptoBulkEntry {H : Type} : Lit × DataW H → Nat
  | (.string bytes, d) => bytes.length + uptoBulk d + 1
  | (_, d) => uptoBulk d + 1
 end
def uptoSmall : (H : Type) → List (DataW H) → Bool := fun _ ds => decide (uptoBulkAll ds ≤ 1048576)
def OpenSpec.upto (s : _root_.Go.ChangeSpec) : _root_.Go.OpenSpec := { _root_.Go.OpenSpec.ofChange s with cond := some uptoSmall }

/-- 'laws.FnExactLevelFor', WHERE WHAT IT READS IS OF BULK AT MOST 1048576: true; the input reads as it did. -/
def fnExactLevelForUptoRow : OpenClaim := { program := "ytmidnldhfidlkaa", sum := "704a73117d3b73249f93eda492356e8074fbcecb0e4bff1ca860893596d55ef4", func := "loop.example/g00960/laws.FnExactLevelFor", spec := "fnExactLevelFor", apart := false, narrowed := true }
def FnExactLevelForUptoSaid : Prop := fnExactLevelForUptoRow.holds Try.pinned (OpenSpec.upto fnExactLevelForSpec)

/-- 'laws.FnExactSquaresOf', WHERE WHAT IT READS IS OF BULK AT MOST 1048576: true; the input reads as it did. -/
def fnExactSquaresOfUptoRow : OpenClaim := { program := "ytmidnldhfidlkaa", sum := "704a73117d3b73249f93eda492356e8074fbcecb0e4bff1ca860893596d55ef4", func := "loop.example/g00960/laws.FnExactSquaresOf", spec := "fnExactSquaresOf", apart := false, narrowed := true }
def FnExactSquaresOfUptoSaid : Prop := fnExactSquaresOfUptoRow.holds Try.pinned (OpenSpec.upto fnExactSquaresOfSpec)

/-- 'laws.FnExactFramed', WHERE WHAT IT READS IS OF BULK AT MOST 1048576: true; the input reads as it did. -/
def fnExactFramedUptoRow : OpenClaim := { program := "ytmidnldhfidlkaa", sum := "704a73117d3b73249f93eda492356e8074fbcecb0e4bff1ca860893596d55ef4", func := "loop.example/g00960/laws.FnExactFramed", spec := "fnExactFramed", apart := false, narrowed := true }
def FnExactFramedUptoSaid : Prop := fnExactFramedUptoRow.holds Try.pinned (OpenSpec.upto fnExactFramedSpec)

/-- 'laws.FnFixed', WHERE WHAT IT READS IS OF BULK AT MOST 1048576: true; the input reads as it did. -/
def fnFixedUptoRow : OpenClaim := { program := "ytmidnldhfidlkaa", sum := "704a73117d3b73249f93eda492356e8074fbcecb0e4bff1ca860893596d55ef4", func := "loop.example/g00960/laws.FnFixed", spec := "fnFixed", apart := false, narrowed := true }
def FnFixedUptoSaid : Prop := fnFixedUptoRow.holds Try.pinned (OpenSpec.upto fnFixedSpec)

/-- 'laws.FnFigures', WHERE WHAT IT READS IS OF BULK AT MOST 1048576: true; the input reads as it did. -/
def fnFiguresUptoRow : OpenClaim := { program := "ytmidnldhfidlkaa", sum := "704a73117d3b73249f93eda492356e8074fbcecb0e4bff1ca860893596d55ef4", func := "loop.example/g00960/laws.FnFigures", spec := "fnFigures", apart := false, narrowed := true }
def FnFiguresUptoSaid : Prop := fnFiguresUptoRow.holds Try.pinned (OpenSpec.upto fnFiguresSpec)

/-- 'laws.FnExactSeqOk', WHERE WHAT IT READS IS OF BULK AT MOST 1048576: true; the input reads as it did. -/
def fnExactSeqOkUptoRow : OpenClaim := { program := "ytmidnldhfidlkaa", sum := "704a73117d3b73249f93eda492356e8074fbcecb0e4bff1ca860893596d55ef4", func := "loop.example/g00960/laws.FnExactSeqOk", spec := "fnExactSeqOk", apart := false, narrowed := true }
def FnExactSeqOkUptoSaid : Prop := fnExactSeqOkUptoRow.holds Try.pinned (OpenSpec.upto fnExactSeqOkSpec)

/-- 'laws.FnExactReadSe', WHERE WHAT IT READS IS OF BULK AT MOST 1048576: true; the input reads as it did. -/
def fnExactReadSeUptoRow : OpenClaim := { program := "ytmidnldhfidlkaa", sum := "704a73117d3b73249f93eda492356e8074fbcecb0e4bff1ca860893596d55ef4", func := "loop.example/g00960/laws.FnExactReadSe", spec := "fnExactReadSe", apart := false, narrowed := true }
def FnExactReadSeUptoSaid : Prop := fnExactReadSeUptoRow.holds Try.pinned (OpenSpec.upto fnExactReadSeSpec)

/-- 'laws.FnCounts', WHERE WHAT IT READS IS OF BULK AT MOST 1048576: true; the input reads as it did. -/
def fnCountsUptoRow : OpenClaim := { program := "ytmidnldhfidlkaa", sum := "704a73117d3b73249f93eda492356e8074fbcecb0e4bff1ca860893596d55ef4", func := "loop.example/g00960/laws.FnCounts", spec := "fnCounts", apart := false, narrowed := true }
def FnCountsUptoSaid : Prop := fnCountsUptoRow.holds Try.pinned (OpenSpec.upto fnCountsSpec)

/-- 'laws.FnExactSizeOf', WHERE WHAT IT READS IS OF BULK AT MOST 1048576: true; the input reads as it did. -/
def fnExactSizeOfUptoRow : OpenClaim := { program := "ytmidnldhfidlkaa", sum := "704a73117d3b73249f93eda492356e8074fbcecb0e4bff1ca860893596d55ef4", func := "loop.example/g00960/laws.FnExactSizeOf", spec := "fnExactSizeOf", apart := false, narrowed := true }
def FnExactSizeOfUptoSaid : Prop := fnExactSizeOfUptoRow.holds Try.pinned (OpenSpec.upto fnExactSizeOfSpec)

/-- 'laws.FnExactTilesOf', WHERE WHAT IT READS IS OF BULK AT MOST 1048576: true; the input reads as it did. -/
def fnExactTilesOfUptoRow : OpenClaim := { program := "ytmidnldhfidlkaa", sum := "704a73117d3b73249f93eda492356e8074fbcecb0e4bff1ca860893596d55ef4", func := "loop.example/g00960/laws.FnExactTilesOf", spec := "fnExactTilesOf", apart := false, narrowed := true }
def FnExactTilesOfUptoSaid : Prop := fnExactTilesOfUptoRow.holds Try.pinned (OpenSpec.upto fnExactTilesOfSpec)

/-- 'laws.FnLevels', WHERE WHAT IT READS IS OF BULK AT MOST 1048576: true; the input reads as it did. -/
def fnLevelsUptoRow : OpenClaim := { program := "ytmidnldhfidlkaa", sum := "704a73117d3b73249f93eda492356e8074fbcecb0e4bff1ca860893596d55ef4", func := "loop.example/g00960/laws.FnLevels", spec := "fnLevels", apart := false, narrowed := true }
def FnLevelsUptoSaid : Prop := fnLevelsUptoRow.holds Try.pinned (OpenSpec.upto fnLevelsSpec)

/-- 'laws.FnExactHeadOk', WHERE WHAT IT READS IS OF BULK AT MOST 1048576: true; the input reads as it did. -/
def fnExactHeadOkUptoRow : OpenClaim := { program := "ytmidnldhfidlkaa", sum := "704a73117d3b73249f93eda492356e8074fbcecb0e4bff1ca860893596d55ef4", func := "loop.example/g00960/laws.FnExactHeadOk", spec := "fnExactHeadOk", apart := false, narrowed := true }
def FnExactHeadOkUptoSaid : Prop := fnExactHeadOkUptoRow.holds Try.pinned (OpenSpec.upto fnExactHeadOkSpec)

end Rows
end Go.Proofs.Ytmidnldhfidlkaa
