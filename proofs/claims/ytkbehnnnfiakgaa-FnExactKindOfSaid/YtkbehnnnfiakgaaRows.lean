/-
  No cell of these rows narrows 'for every input' (looked for: loops, veiled, ifaces, maps, wideKeys, modest, calm, conditions, laid).
  DERIVED. THE GIVEN ROWS OF THIS SEAT. 12 by the template 'for every input the law returns true; each argument reads behind the call as it read before'; 0 by the template 'total and deterministic' (their statements: YtkbehnnnfiakgaaTotals.lean).
  GIVEN WITH THE SEED: the statements are not yours to turn. If you find one false, say at which input.
  Laid BY PROGRAM, IN A SANDBOX (cutbox-rows.mjs): the forced cells as the released guide's own fill.sh prints them over the translation 8748916274396dd8… (all of the seat's roots in one cut). By AI agents, Wed Nov 11 2026. No macro, syntax, notation, axiom, sorry.
-/
import Derived.Test.YtkbehnnnfiakgaaChecked
import GoSem.Claim
import GoSem.ClaimJoined
import GoSem.ClaimMapViews
import Derived.JoinedTies
import Derived.KernelRfl
namespace Go.Proofs.Ytkbehnnnfiakgaa
/- THE CELL 'sum', in the pinned program and in every row, IS THE sha256 OF THE DUMP (.gsa) THAT YtkbehnnnfiakgaaProg.lean LOADS. Nothing in Lean hashes anything: it is a label: what it is worth is what the hold of that sum in a sandbox is worth. -/
noncomputable def Try.pinned : Pinned := { name := "ytkbehnnnfiakgaa", sum := "8748916274396dd807c1d430012a1eaed05eaa5e86ce0fc910049f0cdd09e5a8", checked := Try.checked }
namespace Rows
def none {H : Type} : Left H := { results := [], args := [] }

/-- 'laws.FnExactConstants': WHATEVER THE INPUT: true; the input reads as it did. -/
def fnExactConstantsSpec : ChangeSpec := { name := "fnExactConstants", fn := fun _ => fun
  | [] => { results := [.lit (.bool true)], args := [] }
  | _ => none }
def fnExactConstantsRow : OpenClaim := { program := "ytkbehnnnfiakgaa", sum := "8748916274396dd807c1d430012a1eaed05eaa5e86ce0fc910049f0cdd09e5a8", func := "loop.example/g00960/laws.FnExactConstants", spec := "fnExactConstants", apart := false }
def FnExactConstantsSaid : Prop := fnExactConstantsRow.holds Try.pinned (OpenSpec.ofChange fnExactConstantsSpec)

/-- ITS FALSE NEIGHBOUR: 'it returns false'. Refute it at one input. -/
def fnExactConstantsWrong : ChangeSpec := { name := "fnExactConstants", fn := fun _ => fun
  | [] => { results := [.lit (.bool false)], args := [] }
  | _ => none }
def FnExactConstantsWrongFalsely : Prop := fnExactConstantsRow.holds Try.pinned (OpenSpec.ofChange fnExactConstantsWrong)

/-- 'laws.FnExactBrought': WHATEVER THE INPUT: true; the input reads as it did. -/
def fnExactBroughtSpec : ChangeSpec := { name := "fnExactBrought", fn := fun _ => fun
  | [d1, d2, d3] => { results := [.lit (.bool true)], args := [d1, d2, d3] }
  | _ => none }
def fnExactBroughtRow : OpenClaim := { program := "ytkbehnnnfiakgaa", sum := "8748916274396dd807c1d430012a1eaed05eaa5e86ce0fc910049f0cdd09e5a8", func := "loop.example/g00960/laws.FnExactBrought", spec := "fnExactBrought", apart := false }
def FnExactBroughtSaid : Prop := fnExactBroughtRow.holds Try.pinned (OpenSpec.ofChange fnExactBroughtSpec)

/-- ITS FALSE NEIGHBOUR: 'it returns false'. Refute it at one input. -/
def fnExactBroughtWrong : ChangeSpec := { name := "fnExactBrought", fn := fun _ => fun
  | [d1, d2, d3] => { results := [.lit (.bool false)], args := [d1, d2, d3] }
  | _ => none }
def FnExactBroughtWrongFalsely : Prop := fnExactBroughtRow.holds Try.pinned (OpenSpec.ofChange fnExactBroughtWrong)

/-- 'laws.FnExactParOk': WHATEVER THE INPUT: true; the input reads as it did. -/
def fnExactParOkSpec : ChangeSpec := { name := "fnExactParOk", fn := fun _ => fun
  | [d] => { results := [.lit (.bool true)], args := [d] }
  | _ => none }
def fnExactParOkRow : OpenClaim := { program := "ytkbehnnnfiakgaa", sum := "8748916274396dd807c1d430012a1eaed05eaa5e86ce0fc910049f0cdd09e5a8", func := "loop.example/g00960/laws.FnExactParOk", spec := "fnExactParOk", apart := false }
def FnExactParOkSaid : Prop := fnExactParOkRow.holds Try.pinned (OpenSpec.ofChange fnExactParOkSpec)

/-- ITS FALSE NEIGHBOUR: 'it returns false'. Refute it at one input. -/
def fnExactParOkWrong : ChangeSpec := { name := "fnExactParOk", fn := fun _ => fun
  | [d] => { results := [.lit (.bool false)], args := [d] }
  | _ => none }
def FnExactParOkWrongFalsely : Prop := fnExactParOkRow.holds Try.pinned (OpenSpec.ofChange fnExactParOkWrong)

/-- 'laws.FnExactLevelSquares': WHATEVER THE INPUT: true; the input reads as it did. -/
def fnExactLevelSquaresSpec : ChangeSpec := { name := "fnExactLevelSquares", fn := fun _ => fun
  | [d] => { results := [.lit (.bool true)], args := [d] }
  | _ => none }
def fnExactLevelSquaresRow : OpenClaim := { program := "ytkbehnnnfiakgaa", sum := "8748916274396dd807c1d430012a1eaed05eaa5e86ce0fc910049f0cdd09e5a8", func := "loop.example/g00960/laws.FnExactLevelSquares", spec := "fnExactLevelSquares", apart := false }
def FnExactLevelSquaresSaid : Prop := fnExactLevelSquaresRow.holds Try.pinned (OpenSpec.ofChange fnExactLevelSquaresSpec)

/-- ITS FALSE NEIGHBOUR: 'it returns false'. Refute it at one input. -/
def fnExactLevelSquaresWrong : ChangeSpec := { name := "fnExactLevelSquares", fn := fun _ => fun
  | [d] => { results := [.lit (.bool false)], args := [d] }
  | _ => none }
def FnExactLevelSquaresWrongFalsely : Prop := fnExactLevelSquaresRow.holds Try.pinned (OpenSpec.ofChange fnExactLevelSquaresWrong)

/-- 'laws.FnExactRowOk': WHATEVER THE INPUT: true; the input reads as it did. -/
def fnExactRowOkSpec : ChangeSpec := { name := "fnExactRowOk", fn := fun _ => fun
  | [d] => { results := [.lit (.bool true)], args := [d] }
  | _ => none }
def fnExactRowOkRow : OpenClaim := { program := "ytkbehnnnfiakgaa", sum := "8748916274396dd807c1d430012a1eaed05eaa5e86ce0fc910049f0cdd09e5a8", func := "loop.example/g00960/laws.FnExactRowOk", spec := "fnExactRowOk", apart := false }
def FnExactRowOkSaid : Prop := fnExactRowOkRow.holds Try.pinned (OpenSpec.ofChange fnExactRowOkSpec)

/-- ITS FALSE NEIGHBOUR: 'it returns false'. Refute it at one input. -/
def fnExactRowOkWrong : ChangeSpec := { name := "fnExactRowOk", fn := fun _ => fun
  | [d] => { results := [.lit (.bool false)], args := [d] }
  | _ => none }
def FnExactRowOkWrongFalsely : Prop := fnExactRowOkRow.holds Try.pinned (OpenSpec.ofChange fnExactRowOkWrong)

/-- 'laws.FnExactFoldSe': WHATEVER THE INPUT: true; the input reads as it did. -/
def fnExactFoldSeSpec : ChangeSpec := { name := "fnExactFoldSe", fn := fun _ => fun
  | [d] => { results := [.lit (.bool true)], args := [d] }
  | _ => none }
def fnExactFoldSeRow : OpenClaim := { program := "ytkbehnnnfiakgaa", sum := "8748916274396dd807c1d430012a1eaed05eaa5e86ce0fc910049f0cdd09e5a8", func := "loop.example/g00960/laws.FnExactFoldSe", spec := "fnExactFoldSe", apart := false }
def FnExactFoldSeSaid : Prop := fnExactFoldSeRow.holds Try.pinned (OpenSpec.ofChange fnExactFoldSeSpec)

/-- ITS FALSE NEIGHBOUR: 'it returns false'. Refute it at one input. -/
def fnExactFoldSeWrong : ChangeSpec := { name := "fnExactFoldSe", fn := fun _ => fun
  | [d] => { results := [.lit (.bool false)], args := [d] }
  | _ => none }
def FnExactFoldSeWrongFalsely : Prop := fnExactFoldSeRow.holds Try.pinned (OpenSpec.ofChange fnExactFoldSeWrong)

/-- 'laws.FnExactOpenSe': WHATEVER THE INPUT: true; the input reads as it did. -/
def fnExactOpenSeSpec : ChangeSpec := { name := "fnExactOpenSe", fn := fun _ => fun
  | [d] => { results := [.lit (.bool true)], args := [d] }
  | _ => none }
def fnExactOpenSeRow : OpenClaim := { program := "ytkbehnnnfiakgaa", sum := "8748916274396dd807c1d430012a1eaed05eaa5e86ce0fc910049f0cdd09e5a8", func := "loop.example/g00960/laws.FnExactOpenSe", spec := "fnExactOpenSe", apart := false }
def FnExactOpenSeSaid : Prop := fnExactOpenSeRow.holds Try.pinned (OpenSpec.ofChange fnExactOpenSeSpec)

/-- ITS FALSE NEIGHBOUR: 'it returns false'. Refute it at one input. -/
def fnExactOpenSeWrong : ChangeSpec := { name := "fnExactOpenSe", fn := fun _ => fun
  | [d] => { results := [.lit (.bool false)], args := [d] }
  | _ => none }
def FnExactOpenSeWrongFalsely : Prop := fnExactOpenSeRow.holds Try.pinned (OpenSpec.ofChange fnExactOpenSeWrong)

/-- 'laws.FnSets': WHATEVER THE INPUT: true; the input reads as it did. -/
def fnSetsSpec : ChangeSpec := { name := "fnSets", fn := fun _ => fun
  | [d] => { results := [.lit (.bool true)], args := [d] }
  | _ => none }
def fnSetsRow : OpenClaim := { program := "ytkbehnnnfiakgaa", sum := "8748916274396dd807c1d430012a1eaed05eaa5e86ce0fc910049f0cdd09e5a8", func := "loop.example/g00960/laws.FnSets", spec := "fnSets", apart := false }
def FnSetsSaid : Prop := fnSetsRow.holds Try.pinned (OpenSpec.ofChange fnSetsSpec)

/-- ITS FALSE NEIGHBOUR: 'it returns false'. Refute it at one input. -/
def fnSetsWrong : ChangeSpec := { name := "fnSets", fn := fun _ => fun
  | [d] => { results := [.lit (.bool false)], args := [d] }
  | _ => none }
def FnSetsWrongFalsely : Prop := fnSetsRow.holds Try.pinned (OpenSpec.ofChange fnSetsWrong)

/-- 'laws.FnExactHex': WHATEVER THE INPUT: true; the input reads as it did. -/
def fnExactHexSpec : ChangeSpec := { name := "fnExactHex", fn := fun _ => fun
  | [d] => { results := [.lit (.bool true)], args := [d] }
  | _ => none }
def fnExactHexRow : OpenClaim := { program := "ytkbehnnnfiakgaa", sum := "8748916274396dd807c1d430012a1eaed05eaa5e86ce0fc910049f0cdd09e5a8", func := "loop.example/g00960/laws.FnExactHex", spec := "fnExactHex", apart := false }
def FnExactHexSaid : Prop := fnExactHexRow.holds Try.pinned (OpenSpec.ofChange fnExactHexSpec)

/-- ITS FALSE NEIGHBOUR: 'it returns false'. Refute it at one input. -/
def fnExactHexWrong : ChangeSpec := { name := "fnExactHex", fn := fun _ => fun
  | [d] => { results := [.lit (.bool false)], args := [d] }
  | _ => none }
def FnExactHexWrongFalsely : Prop := fnExactHexRow.holds Try.pinned (OpenSpec.ofChange fnExactHexWrong)

/-- 'laws.FnExactKindOf': WHATEVER THE INPUT: true; the input reads as it did. -/
def fnExactKindOfSpec : ChangeSpec := { name := "fnExactKindOf", fn := fun _ => fun
  | [d] => { results := [.lit (.bool true)], args := [d] }
  | _ => none }
def fnExactKindOfRow : OpenClaim := { program := "ytkbehnnnfiakgaa", sum := "8748916274396dd807c1d430012a1eaed05eaa5e86ce0fc910049f0cdd09e5a8", func := "loop.example/g00960/laws.FnExactKindOf", spec := "fnExactKindOf", apart := false }
def FnExactKindOfSaid : Prop := fnExactKindOfRow.holds Try.pinned (OpenSpec.ofChange fnExactKindOfSpec)

/-- ITS FALSE NEIGHBOUR: 'it returns false'. Refute it at one input. -/
def fnExactKindOfWrong : ChangeSpec := { name := "fnExactKindOf", fn := fun _ => fun
  | [d] => { results := [.lit (.bool false)], args := [d] }
  | _ => none }
def FnExactKindOfWrongFalsely : Prop := fnExactKindOfRow.holds Try.pinned (OpenSpec.ofChange fnExactKindOfWrong)

/-- 'laws.FnExactStepOf': WHATEVER THE INPUT: true; the input reads as it did. -/
def fnExactStepOfSpec : ChangeSpec := { name := "fnExactStepOf", fn := fun _ => fun
  | [d] => { results := [.lit (.bool true)], args := [d] }
  | _ => none }
def fnExactStepOfRow : OpenClaim := { program := "ytkbehnnnfiakgaa", sum := "8748916274396dd807c1d430012a1eaed05eaa5e86ce0fc910049f0cdd09e5a8", func := "loop.example/g00960/laws.FnExactStepOf", spec := "fnExactStepOf", apart := false }
def FnExactStepOfSaid : Prop := fnExactStepOfRow.holds Try.pinned (OpenSpec.ofChange fnExactStepOfSpec)

/-- ITS FALSE NEIGHBOUR: 'it returns false'. Refute it at one input. -/
def fnExactStepOfWrong : ChangeSpec := { name := "fnExactStepOf", fn := fun _ => fun
  | [d] => { results := [.lit (.bool false)], args := [d] }
  | _ => none }
def FnExactStepOfWrongFalsely : Prop := fnExactStepOfRow.holds Try.pinned (OpenSpec.ofChange fnExactStepOfWrong)

/-- 'laws.FnExactFixRow': WHATEVER THE INPUT: true; the input reads as it did. -/
def fnExactFixRowSpec : ChangeSpec := { name := "fnExactFixRow", fn := fun _ => fun
  | [d1, d2] => { results := [.lit (.bool true)], args := [d1, d2] }
  | _ => none }
def fnExactFixRowRow : OpenClaim := { program := "ytkbehnnnfiakgaa", sum := "8748916274396dd807c1d430012a1eaed05eaa5e86ce0fc910049f0cdd09e5a8", func := "loop.example/g00960/laws.FnExactFixRow", spec := "fnExactFixRow", apart := false }
def FnExactFixRowSaid : Prop := fnExactFixRowRow.holds Try.pinned (OpenSpec.ofChange fnExactFixRowSpec)

/-- ITS FALSE NEIGHBOUR: 'it returns false'. Refute it at one input. -/
def fnExactFixRowWrong : ChangeSpec := { name := "fnExactFixRow", fn := fun _ => fun
  | [d1, d2] => { results := [.lit (.bool false)], args := [d1, d2] }
  | _ => none }
def FnExactFixRowWrongFalsely : Prop := fnExactFixRowRow.holds Try.pinned (OpenSpec.ofChange fnExactFixRowWrong)

/- THE SECOND FORM. 'bulk': how many values and letters a reading holds, each counted each time it is reached (what is shared counts as often as it is met; a slice's spare places count too). A statement '..UptoSaid' is the law's where the arguments, and the package variables that the reading takes, are together of bulk at most 1048576: NARROWER than '..Said'. Prove '..Said' where nothing that the law and all that it calls make is longer than what came in: it says more and counts as full. Else prove '..UptoSaid'. A law counts once. -/
mutual
def uptoBulk {H : Type} : DataW H → Nat
  | .lit (.string bytes) => bytes.length + 1
  | .lit _ => 1
  | .nil => 1
  | .ptr d => uptoBulk d + 1
  | .slice elems spare => uptoBulkAll elems + uptoBulkAll spare + 1
  | .agg parts => uptoBulkAll parts + 1
  | .iface _ d => uptoBulk d + 1
  | .map entries => uptoBulkEntries entries + 1
  | .held _ => 1
def uptoBulkAll {H : Type} : List (DataW H) → Nat
  | [] => 0
  | d :: r => uptoBulk d + uptoBulkAll r
def uptoBulkEntries {H : Type} : List (Lit × DataW H) → Nat
  | [] => 0
  | x :: r => uptoBulkEntry x + uptoBulkEntries r
def uptoBulkEntry {H : Type} : Lit × DataW H → Nat
  | (.string bytes, d) => bytes.length + uptoBulk d + 1
  | (_, d) => uptoBulk d + 1
 end
def uptoSmall : (H : Type) → List (DataW H) → Bool := fun _ ds => decide (uptoBulkAll ds ≤ 1048576)
def OpenSpec.upto (s : _root_.Go.ChangeSpec) : _root_.Go.OpenSpec := { _root_.Go.OpenSpec.ofChange s with cond := some uptoSmall }

/-- 'laws.FnExactConstants', WHERE WHAT IT READS IS OF BULK AT MOST 1048576: true; the input reads as it did. -/
def fnExactConstantsUptoRow : OpenClaim := { program := "ytkbehnnnfiakgaa", sum := "8748916274396dd807c1d430012a1eaed05eaa5e86ce0fc910049f0cdd09e5a8", func := "loop.example/g00960/laws.FnExactConstants", spec := "fnExactConstants", apart := false, narrowed := true }
def FnExactConstantsUptoSaid : Prop := fnExactConstantsUptoRow.holds Try.pinned (OpenSpec.upto fnExactConstantsSpec)

/-- 'laws.FnExactBrought', WHERE WHAT IT READS IS OF BULK AT MOST 1048576: true; the input reads as it did. -/
def fnExactBroughtUptoRow : OpenClaim := { program := "ytkbehnnnfiakgaa", sum := "8748916274396dd807c1d430012a1eaed05eaa5e86ce0fc910049f0cdd09e5a8", func := "loop.example/g00960/laws.FnExactBrought", spec := "fnExactBrought", apart := false, narrowed := true }
def FnExactBroughtUptoSaid : Prop := fnExactBroughtUptoRow.holds Try.pinned (OpenSpec.upto fnExactBroughtSpec)

/-- 'laws.FnExactParOk', WHERE WHAT IT READS IS OF BULK AT MOST 1048576: true; the input reads as it did. -/
def fnExactParOkUptoRow : OpenClaim := { program := "ytkbehnnnfiakgaa", sum := "8748916274396dd807c1d430012a1eaed05eaa5e86ce0fc910049f0cdd09e5a8", func := "loop.example/g00960/laws.FnExactParOk", spec := "fnExactParOk", apart := false, narrowed := true }
def FnExactParOkUptoSaid : Prop := fnExactParOkUptoRow.holds Try.pinned (OpenSpec.upto fnExactParOkSpec)

/-- 'laws.FnExactLevelSquares', WHERE WHAT IT READS IS OF BULK AT MOST 1048576: true; the input reads as it did. -/
def fnExactLevelSquaresUptoRow : OpenClaim := { program := "ytkbehnnnfiakgaa", sum := "8748916274396dd807c1d430012a1eaed05eaa5e86ce0fc910049f0cdd09e5a8", func := "loop.example/g00960/laws.FnExactLevelSquares", spec := "fnExactLevelSquares", apart := false, narrowed := true }
def FnExactLevelSquaresUptoSaid : Prop := fnExactLevelSquaresUptoRow.holds Try.pinned (OpenSpec.upto fnExactLevelSquaresSpec)

/-- 'laws.FnExactRowOk', WHERE WHAT IT READS IS OF BULK AT MOST 1048576: true; the input reads as it did. -/
def fnExactRowOkUptoRow : OpenClaim := { program := "ytkbehnnnfiakgaa", sum := "8748916274396dd807c1d430012a1eaed05eaa5e86ce0fc910049f0cdd09e5a8", func := "loop.example/g00960/laws.FnExactRowOk", spec := "fnExactRowOk", apart := false, narrowed := true }
def FnExactRowOkUptoSaid : Prop := fnExactRowOkUptoRow.holds Try.pinned (OpenSpec.upto fnExactRowOkSpec)

/-- 'laws.FnExactFoldSe', WHERE WHAT IT READS IS OF BULK AT MOST 1048576: true; the input reads as it did. -/
def fnExactFoldSeUptoRow : OpenClaim := { program := "ytkbehnnnfiakgaa", sum := "8748916274396dd807c1d430012a1eaed05eaa5e86ce0fc910049f0cdd09e5a8", func := "loop.example/g00960/laws.FnExactFoldSe", spec := "fnExactFoldSe", apart := false, narrowed := true }
def FnExactFoldSeUptoSaid : Prop := fnExactFoldSeUptoRow.holds Try.pinned (OpenSpec.upto fnExactFoldSeSpec)

/-- 'laws.FnExactOpenSe', WHERE WHAT IT READS IS OF BULK AT MOST 1048576: true; the input reads as it did. -/
def fnExactOpenSeUptoRow : OpenClaim := { program := "ytkbehnnnfiakgaa", sum := "8748916274396dd807c1d430012a1eaed05eaa5e86ce0fc910049f0cdd09e5a8", func := "loop.example/g00960/laws.FnExactOpenSe", spec := "fnExactOpenSe", apart := false, narrowed := true }
def FnExactOpenSeUptoSaid : Prop := fnExactOpenSeUptoRow.holds Try.pinned (OpenSpec.upto fnExactOpenSeSpec)

/-- 'laws.FnSets', WHERE WHAT IT READS IS OF BULK AT MOST 1048576: true; the input reads as it did. -/
def fnSetsUptoRow : OpenClaim := { program := "ytkbehnnnfiakgaa", sum := "8748916274396dd807c1d430012a1eaed05eaa5e86ce0fc910049f0cdd09e5a8", func := "loop.example/g00960/laws.FnSets", spec := "fnSets", apart := false, narrowed := true }
def FnSetsUptoSaid : Prop := fnSetsUptoRow.holds Try.pinned (OpenSpec.upto fnSetsSpec)

/-- 'laws.FnExactHex', WHERE WHAT IT READS IS OF BULK AT MOST 1048576: true; the input reads as it did. -/
def fnExactHexUptoRow : OpenClaim := { program := "ytkbehnnnfiakgaa", sum := "8748916274396dd807c1d430012a1eaed05eaa5e86ce0fc910049f0cdd09e5a8", func := "loop.example/g00960/laws.FnExactHex", spec := "fnExactHex", apart := false, narrowed := true }
def FnExactHexUptoSaid : Prop := fnExactHexUptoRow.holds Try.pinned (OpenSpec.upto fnExactHexSpec)

/-- 'laws.FnExactKindOf', WHERE WHAT IT READS IS OF BULK AT MOST 1048576: true; the input reads as it did. -/
def fnExactKindOfUptoRow : OpenClaim := { program := "ytkbehnnnfiakgaa", sum := "8748916274396dd807c1d430012a1eaed05eaa5e86ce0fc910049f0cdd09e5a8", func := "loop.example/g00960/laws.FnExactKindOf", spec := "fnExactKindOf", apart := false, narrowed := true }
def FnExactKindOfUptoSaid : Prop := fnExactKindOfUptoRow.holds Try.pinned (OpenSpec.upto fnExactKindOfSpec)

/-- 'laws.FnExactStepOf', WHERE WHAT IT READS IS OF BULK AT MOST 1048576: true; the input reads as it did. -/
def fnExactStepOfUptoRow : OpenClaim := { program := "ytkbehnnnfiakgaa", sum := "8748916274396dd807c1d430012a1eaed05eaa5e86ce0fc910049f0cdd09e5a8", func := "loop.example/g00960/laws.FnExactStepOf", spec := "fnExactStepOf", apart := false, narrowed := true }
def FnExactStepOfUptoSaid : Prop := fnExactStepOfUptoRow.holds Try.pinned (OpenSpec.upto fnExactStepOfSpec)

/-- 'laws.FnExactFixRow', WHERE WHAT IT READS IS OF BULK AT MOST 1048576: true; the input reads as it did. -/
def fnExactFixRowUptoRow : OpenClaim := { program := "ytkbehnnnfiakgaa", sum := "8748916274396dd807c1d430012a1eaed05eaa5e86ce0fc910049f0cdd09e5a8", func := "loop.example/g00960/laws.FnExactFixRow", spec := "fnExactFixRow", apart := false, narrowed := true }
def FnExactFixRowUptoSaid : Prop := fnExactFixRowUptoRow.holds Try.pinned (OpenSpec.upto fnExactFixRowSpec)

end Rows
end Go.Proofs.Ytkbehnnnfiakgaa
