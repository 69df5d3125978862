/- FnExactParRow: the pure statement of the law, told over numbers, lists and texts alone. -/
import Derived.Test.YtibnnodjockcbaaQFnExactParRowx2
namespace Go.Proofs.Ytibnnodjockcbaa.QFnExactParRow
open Go.RowKit Go.Proofs.YtibnnodjockcbaaW.PrintWords
def laws_FnExactParRow.Pure : Prop := ∀ (a0_0 : Int) (a0_1 : Bool) (a0_2 : Bool) (a0_3 : Bool), (Lit.int .i64 a0_0).wf = true → ∃ k, laws_FnExactParRow.f k a0_0 a0_1 a0_2 a0_3 = some true
end Go.Proofs.Ytibnnodjockcbaa.QFnExactParRow
