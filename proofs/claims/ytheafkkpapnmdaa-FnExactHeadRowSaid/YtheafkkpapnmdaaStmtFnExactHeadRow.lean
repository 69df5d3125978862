/- FnExactHeadRow: the pure statement of the law, told over numbers, lists and texts alone. -/
import Derived.Test.YtheafkkpapnmdaaQFnExactHeadRowx9
namespace Go.Proofs.Ytheafkkpapnmdaa.QFnExactHeadRow
open Go.RowKit Go.Proofs.YtheafkkpapnmdaaW.PrintWords
def laws_FnExactHeadRow.Pure : Prop := ∀ (a0_0 : Int) (a0_1 : Int) (l0_2 : List Int) (l0_3 : List Int) (a1_0 : Int) (a1_1 : Bool) (a1_2 : Bool) (a1_3 : Bool) (a2_0 : Int) (a2_1 : Int) (a2_2 : Int), (Lit.int .i64 a0_0).wf = true → (Lit.int .i64 a0_1).wf = true → l0_2.length ≤ maxLen → (∀ x ∈ l0_2, (Lit.int .i64 x).wf = true) → l0_3.length ≤ maxLen → (∀ x ∈ l0_3, (Lit.int .i64 x).wf = true) → (Lit.int .i64 a1_0).wf = true → (Lit.int .i64 a2_0).wf = true → (Lit.int .i64 a2_1).wf = true → (Lit.int .i64 a2_2).wf = true → ∃ k, laws_FnExactHeadRow.f k a0_0 a0_1 l0_2 l0_3 a1_0 a1_1 a1_2 a1_3 a2_0 a2_1 a2_2 = some true
end Go.Proofs.Ytheafkkpapnmdaa.QFnExactHeadRow
