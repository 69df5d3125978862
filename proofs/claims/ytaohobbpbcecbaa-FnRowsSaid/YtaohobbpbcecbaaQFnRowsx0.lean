/- The machine side of a law's functions, written by this session's own program (a variant of the print); Lean checks it. -/
import Derived.Test.YtaohobbpbcecbaaProg
import Derived.Below
import Derived.Deep.Draws
import Derived.Deep.AppendLies
import Derived.Maps.AppendAt
import Derived.OwnWalk
import Derived.Laws.BytesArg
import Derived.Laws.MakeOwn
import Derived.Laws.OwnMore
import Derived.Deep.OwnRows
import Derived.Tactics
import Derived.Lib.ConvBytes
import Derived.Laws.Slices
import Derived.WalkKit
import Derived.KernelRfl
import Derived.RowKit3
import Derived.Deep.LoopGhost
import Derived.Deep.QuietTactic
import Derived.BigQuiet
import Derived.WideLaws
import Derived.Deep.DeepCutAuto
import Derived.Deep.CutBlock
import Derived.Deep.RegionHeld3
import Derived.Laws.Rows
import Derived.Lib.AppendStr
import Derived.ArgAppend
import Derived.Laws.IdiomCopy
import Derived.OrdersHeld
import Derived.Laws.BitsLemmas
import Derived.RowKit
import Derived.Test.YtaohobbpbcecbaaWWords
import Derived.Test.YtaohobbpbcecbaaWLast
import Derived.Test.YtaohobbpbcecbaaWTab
import Derived.Test.YtaohobbpbcecbaaWFour
import Derived.Test.YtaohobbpbcecbaaWQPut
import Derived.Test.YtaohobbpbcecbaaWApart
import Derived.Test.YtaohobbpbcecbaaWArr
import Derived.Test.YtaohobbpbcecbaaWZeros
import Derived.Test.YtaohobbpbcecbaaWFoot
import Derived.Test.YtaohobbpbcecbaaWKept
import Derived.Test.YtaohobbpbcecbaaWShare
import Derived.Test.YtaohobbpbcecbaaWN
import Derived.Test.YtaohobbpbcecbaaWFootNe
import Derived.Test.YtaohobbpbcecbaaWAt
import Derived.Test.YtaohobbpbcecbaaWEqStruct
import Derived.Test.YtaohobbpbcecbaaWRepsOne
import Derived.Test.YtaohobbpbcecbaaWInv
import Derived.Test.YtaohobbpbcecbaaWInvWords
import Derived.Test.YtaohobbpbcecbaaWGuard
import Derived.Test.YtaohobbpbcecbaaWNEv
import Derived.Test.YtaohobbpbcecbaaWMore
import Derived.Test.YtaohobbpbcecbaaX
namespace Go.Proofs.Ytaohobbpbcecbaa.QFnRows
open Go.RowKit Go.Proofs.YtaohobbpbcecbaaW.PrintWords Go.Proofs.YtaohobbpbcecbaaW.PrintLast Go.Proofs.YtaohobbpbcecbaaW.PrintMore
attribute [local go_sem] max2_int min2_int max_two min_two max_three min_three max_four min_four   -- for this text's walks alone
set_option linter.unusedVariables false
set_option linter.unusedSimpArgs false



def errW : Option Int → Value
  | none => .nilIface
  | some c => .iface 0 (.int .i64 c)
theorem errW_none : errW none = .nilIface := rfl
theorem errW_some (c : Int) : errW (some c) = .iface 0 (.int .i64 c) := rfl

theorem info5 : (Try.prog.info? 5).map (fun i => (i.zero, i.size, i.bytes)) = some (some (.int .u8 0), 1, 1) := by kernel_rfl
-- the values' own types

end Go.Proofs.Ytaohobbpbcecbaa.QFnRows
