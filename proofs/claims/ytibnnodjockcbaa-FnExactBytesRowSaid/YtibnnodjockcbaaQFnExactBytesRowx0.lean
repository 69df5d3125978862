/- The machine side of a law's functions, written by this session's own program (a variant of the print); Lean checks it. -/
import Derived.Test.YtibnnodjockcbaaProg
import Derived.Below
import Derived.Deep.Draws
import Derived.Deep.AppendLies
import Derived.Maps.AppendAt
import Derived.OwnWalk
import Derived.Laws.BytesArg
import Derived.Laws.MakeOwn
import Derived.Laws.OwnMore
import Derived.Deep.OwnRows
import Derived.Tactics
import Derived.Lib.ConvBytes
import Derived.Laws.Slices
import Derived.WalkKit
import Derived.KernelRfl
import Derived.RowKit3
import Derived.Deep.LoopGhost
import Derived.Deep.QuietTactic
import Derived.BigQuiet
import Derived.WideLaws
import Derived.Deep.DeepCutAuto
import Derived.Deep.CutBlock
import Derived.Deep.RegionHeld3
import Derived.Laws.Rows
import Derived.Lib.AppendStr
import Derived.ArgAppend
import Derived.Laws.IdiomCopy
import Derived.OrdersHeld
import Derived.Laws.BitsLemmas
import Derived.RowKit
import Derived.Test.YtibnnodjockcbaaWWords
import Derived.Test.YtibnnodjockcbaaWLast
import Derived.Test.YtibnnodjockcbaaWTab
import Derived.Test.YtibnnodjockcbaaWFour
import Derived.Test.YtibnnodjockcbaaWQPut
import Derived.Test.YtibnnodjockcbaaWApart
import Derived.Test.YtibnnodjockcbaaWArr
import Derived.Test.YtibnnodjockcbaaWZeros
import Derived.Test.YtibnnodjockcbaaWFoot
import Derived.Test.YtibnnodjockcbaaWKept
import Derived.Test.YtibnnodjockcbaaWShare
import Derived.Test.YtibnnodjockcbaaWN
import Derived.Test.YtibnnodjockcbaaWFootNe
import Derived.Test.YtibnnodjockcbaaWAt
import Derived.Test.YtibnnodjockcbaaWEqStruct
import Derived.Test.YtibnnodjockcbaaWRepsOne
import Derived.Test.YtibnnodjockcbaaWInv
import Derived.Test.YtibnnodjockcbaaWInvWords
import Derived.Test.YtibnnodjockcbaaWGuard
import Derived.Test.YtibnnodjockcbaaWNEv
import Derived.Test.YtibnnodjockcbaaWMore
import Derived.Test.YtibnnodjockcbaaX
namespace Go.Proofs.Ytibnnodjockcbaa.QFnExactBytesRow
open Go.RowKit Go.Proofs.YtibnnodjockcbaaW.PrintWords Go.Proofs.YtibnnodjockcbaaW.PrintLast Go.Proofs.YtibnnodjockcbaaW.PrintMore
attribute [local go_sem] max2_int min2_int max_two min_two max_three min_three max_four min_four   -- for this text's walks alone
set_option linter.unusedVariables false
set_option linter.unusedSimpArgs false



def errW : Option Int → Value
  | none => .nilIface
  | some c => .iface 0 (.int .i64 c)
theorem errW_none : errW none = .nilIface := rfl
theorem errW_some (c : Int) : errW (some c) = .iface 0 (.int .i64 c) := rfl

theorem info5 : (Try.prog.info? 5).map (fun i => (i.zero, i.size, i.bytes)) = some (some (.int .u8 0), 1, 1) := by kernel_rfl
-- the values' own types

end Go.Proofs.Ytibnnodjockcbaa.QFnExactBytesRow
