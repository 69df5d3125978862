/- The machine side of a law's functions, written by this session's own program (a variant of the print); Lean checks it. -/
import Derived.Test.YtkbehnnnfiakgaaProg
import Derived.Below
import Derived.Deep.Draws
import Derived.Deep.AppendLies
import Derived.Maps.AppendAt
import Derived.OwnWalk
import Derived.Laws.BytesArg
import Derived.Laws.MakeOwn
import Derived.Laws.OwnMore
import Derived.Deep.OwnRows
import Derived.Tactics
import Derived.Lib.ConvBytes
import Derived.Laws.Slices
import Derived.WalkKit
import Derived.KernelRfl
import Derived.RowKit3
import Derived.Deep.LoopGhost
import Derived.Deep.QuietTactic
import Derived.BigQuiet
import Derived.WideLaws
import Derived.Deep.DeepCutAuto
import Derived.Deep.CutBlock
import Derived.Deep.RegionHeld3
import Derived.Laws.Rows
import Derived.Lib.AppendStr
import Derived.ArgAppend
import Derived.Laws.IdiomCopy
import Derived.OrdersHeld
import Derived.Laws.BitsLemmas
import Derived.RowKit
import Derived.Test.YtkbehnnnfiakgaaWWords
import Derived.Test.YtkbehnnnfiakgaaWLast
import Derived.Test.YtkbehnnnfiakgaaWTab
import Derived.Test.YtkbehnnnfiakgaaWFour
import Derived.Test.YtkbehnnnfiakgaaWQPut
import Derived.Test.YtkbehnnnfiakgaaWApart
import Derived.Test.YtkbehnnnfiakgaaWArr
import Derived.Test.YtkbehnnnfiakgaaWZeros
import Derived.Test.YtkbehnnnfiakgaaWFoot
import Derived.Test.YtkbehnnnfiakgaaWKept
import Derived.Test.YtkbehnnnfiakgaaWShare
import Derived.Test.YtkbehnnnfiakgaaWN
import Derived.Test.YtkbehnnnfiakgaaWFootNe
import Derived.Test.YtkbehnnnfiakgaaWAt
import Derived.Test.YtkbehnnnfiakgaaWEqStruct
import Derived.Test.YtkbehnnnfiakgaaWRepsOne
import Derived.Test.YtkbehnnnfiakgaaWInv
import Derived.Test.YtkbehnnnfiakgaaWInvWords
import Derived.Test.YtkbehnnnfiakgaaWGuard
import Derived.Test.YtkbehnnnfiakgaaWNEv
import Derived.Test.YtkbehnnnfiakgaaWMore
import Derived.Test.YtkbehnnnfiakgaaX
namespace Go.Proofs.Ytkbehnnnfiakgaa.QFnExactKindOf
open Go.RowKit Go.Proofs.YtkbehnnnfiakgaaW.PrintWords Go.Proofs.YtkbehnnnfiakgaaW.PrintLast Go.Proofs.YtkbehnnnfiakgaaW.PrintMore
attribute [local go_sem] max2_int min2_int max_two min_two max_three min_three max_four min_four   -- for this text's walks alone
set_option linter.unusedVariables false
set_option linter.unusedSimpArgs false



def errW : Option Int → Value
  | none => .nilIface
  | some c => .iface 0 (.int .i64 c)
theorem errW_none : errW none = .nilIface := rfl
theorem errW_some (c : Int) : errW (some c) = .iface 0 (.int .i64 c) := rfl

-- the values' own types

end Go.Proofs.Ytkbehnnnfiakgaa.QFnExactKindOf
