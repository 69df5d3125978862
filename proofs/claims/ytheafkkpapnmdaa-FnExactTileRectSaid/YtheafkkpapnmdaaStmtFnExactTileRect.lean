/- FnExactTileRect: the pure statement of the law, told over numbers, lists and texts alone. -/
import Derived.Test.YtheafkkpapnmdaaQFnExactTileRectx6
namespace Go.Proofs.Ytheafkkpapnmdaa.QFnExactTileRect
open Go.RowKit Go.Proofs.YtheafkkpapnmdaaW.PrintWords
def laws_FnExactTileRect.Pure : Prop := ∀ (a0_0 : Int) (a0_1 : Int) (l0_2 : List Int) (l0_3 : List Int) (a1 : Int), (Lit.int .i64 a0_0).wf = true → (Lit.int .i64 a0_1).wf = true → l0_2.length ≤ maxLen → (∀ x ∈ l0_2, (Lit.int .i64 x).wf = true) → l0_3.length ≤ maxLen → (∀ x ∈ l0_3, (Lit.int .i64 x).wf = true) → (Lit.int .i64 a1).wf = true → ∃ k, laws_FnExactTileRect.f k a0_0 a0_1 l0_2 l0_3 a1 = some true
end Go.Proofs.Ytheafkkpapnmdaa.QFnExactTileRect
