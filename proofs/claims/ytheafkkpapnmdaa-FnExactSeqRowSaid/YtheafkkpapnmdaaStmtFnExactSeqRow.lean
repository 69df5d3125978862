/- FnExactSeqRow: the pure statement of the law, told over numbers, lists and texts alone. -/
import Derived.Test.YtheafkkpapnmdaaQFnExactSeqRowx5
namespace Go.Proofs.Ytheafkkpapnmdaa.QFnExactSeqRow
open Go.RowKit Go.Proofs.YtheafkkpapnmdaaW.PrintWords
def laws_FnExactSeqRow.Pure : Prop := ∀ (a0_0 : Int) (a0_1 : Int) (l0_2 : List Int) (l0_3 : List Int), (Lit.int .i64 a0_0).wf = true → (Lit.int .i64 a0_1).wf = true → l0_2.length ≤ maxLen → (∀ x ∈ l0_2, (Lit.int .i64 x).wf = true) → l0_3.length ≤ maxLen → (∀ x ∈ l0_3, (Lit.int .i64 x).wf = true) → ∃ k, laws_FnExactSeqRow.f k a0_0 a0_1 l0_2 l0_3 = some true
end Go.Proofs.Ytheafkkpapnmdaa.QFnExactSeqRow
