/- The machine side of a law's functions, written by this session's own program (a variant of the print); Lean checks it. -/
import Derived.Test.YtmidnldhfidlkaaProg
import Derived.Below
import Derived.Deep.Draws
import Derived.Deep.AppendLies
import Derived.Maps.AppendAt
import Derived.OwnWalk
import Derived.Laws.BytesArg
import Derived.Laws.MakeOwn
import Derived.Laws.OwnMore
import Derived.Deep.OwnRows
import Derived.Tactics
import Derived.Lib.ConvBytes
import Derived.Laws.Slices
import Derived.WalkKit
import Derived.KernelRfl
import Derived.RowKit3
import Derived.Deep.LoopGhost
import Derived.Deep.QuietTactic
import Derived.BigQuiet
import Derived.WideLaws
import Derived.Deep.DeepCutAuto
import Derived.Deep.CutBlock
import Derived.Deep.RegionHeld3
import Derived.Laws.Rows
import Derived.Lib.AppendStr
import Derived.ArgAppend
import Derived.Laws.IdiomCopy
import Derived.OrdersHeld
import Derived.Laws.BitsLemmas
import Derived.RowKit
import Derived.Test.YtmidnldhfidlkaaWWords
import Derived.Test.YtmidnldhfidlkaaWLast
import Derived.Test.YtmidnldhfidlkaaWTab
import Derived.Test.YtmidnldhfidlkaaWFour
import Derived.Test.YtmidnldhfidlkaaWQPut
import Derived.Test.YtmidnldhfidlkaaWApart
import Derived.Test.YtmidnldhfidlkaaWArr
import Derived.Test.YtmidnldhfidlkaaWZeros
import Derived.Test.YtmidnldhfidlkaaWFoot
import Derived.Test.YtmidnldhfidlkaaWKept
import Derived.Test.YtmidnldhfidlkaaWShare
import Derived.Test.YtmidnldhfidlkaaWN
import Derived.Test.YtmidnldhfidlkaaWFootNe
import Derived.Test.YtmidnldhfidlkaaWAt
import Derived.Test.YtmidnldhfidlkaaWEqStruct
import Derived.Test.YtmidnldhfidlkaaWRepsOne
import Derived.Test.YtmidnldhfidlkaaWInv
import Derived.Test.YtmidnldhfidlkaaWInvWords
import Derived.Test.YtmidnldhfidlkaaWGuard
import Derived.Test.YtmidnldhfidlkaaWNEv
import Derived.Test.YtmidnldhfidlkaaWMore
import Derived.Test.YtmidnldhfidlkaaX
namespace Go.Proofs.Ytmidnldhfidlkaa.QFnFigures
open Go.RowKit Go.Proofs.YtmidnldhfidlkaaW.PrintWords Go.Proofs.YtmidnldhfidlkaaW.PrintLast Go.Proofs.YtmidnldhfidlkaaW.PrintMore
attribute [local go_sem] max2_int min2_int max_two min_two max_three min_three max_four min_four   -- for this text's walks alone
set_option linter.unusedVariables false
set_option linter.unusedSimpArgs false



def errW : Option Int → Value
  | none => .nilIface
  | some c => .iface 0 (.int .i64 c)
theorem errW_none : errW none = .nilIface := rfl
theorem errW_some (c : Int) : errW (some c) = .iface 0 (.int .i64 c) := rfl

theorem info3 : (Try.prog.info? 3).map (fun i => (i.zero, i.size, i.bytes)) = some (some (.int .i64 0), 1, 8) := by kernel_rfl
theorem info5 : (Try.prog.info? 5).map (fun i => (i.zero, i.size, i.bytes)) = some (some (.int .u8 0), 1, 1) := by kernel_rfl
-- the values' own types

end Go.Proofs.Ytmidnldhfidlkaa.QFnFigures
