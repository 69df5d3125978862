/- The machine side of a law's functions, written by this session's own program (a variant of the print); Lean checks it. -/
import Derived.Test.YtjcpapjochlndaaProg
import Derived.Below
import Derived.Deep.Draws
import Derived.Deep.AppendLies
import Derived.Maps.AppendAt
import Derived.OwnWalk
import Derived.Laws.BytesArg
import Derived.Laws.MakeOwn
import Derived.Laws.OwnMore
import Derived.Deep.OwnRows
import Derived.Tactics
import Derived.Lib.ConvBytes
import Derived.Laws.Slices
import Derived.WalkKit
import Derived.KernelRfl
import Derived.RowKit3
import Derived.Deep.LoopGhost
import Derived.Deep.QuietTactic
import Derived.BigQuiet
import Derived.WideLaws
import Derived.Deep.DeepCutAuto
import Derived.Deep.CutBlock
import Derived.Deep.RegionHeld3
import Derived.Laws.Rows
import Derived.Lib.AppendStr
import Derived.ArgAppend
import Derived.Laws.IdiomCopy
import Derived.OrdersHeld
import Derived.Laws.BitsLemmas
import Derived.RowKit
import Derived.Test.YtjcpapjochlndaaWWords
import Derived.Test.YtjcpapjochlndaaWLast
import Derived.Test.YtjcpapjochlndaaWTab
import Derived.Test.YtjcpapjochlndaaWFour
import Derived.Test.YtjcpapjochlndaaWQPut
import Derived.Test.YtjcpapjochlndaaWApart
import Derived.Test.YtjcpapjochlndaaWArr
import Derived.Test.YtjcpapjochlndaaWZeros
import Derived.Test.YtjcpapjochlndaaWFoot
import Derived.Test.YtjcpapjochlndaaWKept
import Derived.Test.YtjcpapjochlndaaWShare
import Derived.Test.YtjcpapjochlndaaWN
import Derived.Test.YtjcpapjochlndaaWFootNe
import Derived.Test.YtjcpapjochlndaaWAt
import Derived.Test.YtjcpapjochlndaaWEqStruct
import Derived.Test.YtjcpapjochlndaaWRepsOne
import Derived.Test.YtjcpapjochlndaaWInv
import Derived.Test.YtjcpapjochlndaaWInvWords
import Derived.Test.YtjcpapjochlndaaWGuard
import Derived.Test.YtjcpapjochlndaaWNEv
import Derived.Test.YtjcpapjochlndaaWMore
import Derived.Test.YtjcpapjochlndaaX
namespace Go.Proofs.Ytjcpapjochlndaa.QFnExactFramed
open Go.RowKit Go.Proofs.YtjcpapjochlndaaW.PrintWords Go.Proofs.YtjcpapjochlndaaW.PrintLast Go.Proofs.YtjcpapjochlndaaW.PrintMore
attribute [local go_sem] max2_int min2_int max_two min_two max_three min_three max_four min_four   -- for this text's walks alone
set_option linter.unusedVariables false
set_option linter.unusedSimpArgs false



def errW : Option Int → Value
  | none => .nilIface
  | some c => .iface 0 (.int .i64 c)
theorem errW_none : errW none = .nilIface := rfl
theorem errW_some (c : Int) : errW (some c) = .iface 0 (.int .i64 c) := rfl

theorem info5 : (Try.prog.info? 5).map (fun i => (i.zero, i.size, i.bytes)) = some (some (.int .u8 0), 1, 1) := by kernel_rfl
theorem info9 : (Try.prog.info? 9).map (fun i => (i.zero, i.size, i.bytes)) = some (some (.string ⟨#[]⟩), 1, 16) := by kernel_rfl
-- the values' own types

end Go.Proofs.Ytjcpapjochlndaa.QFnExactFramed
