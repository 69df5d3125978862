/- FnExactParOk: the pure statement of the law, told over numbers, lists and texts alone. -/
import Derived.Test.YtkbehnnnfiakgaaQFnExactParOkx1
namespace Go.Proofs.Ytkbehnnnfiakgaa.QFnExactParOk
open Go.RowKit Go.Proofs.YtkbehnnnfiakgaaW.PrintWords
def laws_FnExactParOk.Pure : Prop := ∀ (a0_0 : Int) (a0_1 : Bool) (a0_2 : Bool) (a0_3 : Bool), (Lit.int .i64 a0_0).wf = true → laws_FnExactParOk.f a0_0 a0_1 a0_2 a0_3 = some true
end Go.Proofs.Ytkbehnnnfiakgaa.QFnExactParOk
