/- The machine side of a law's functions, written by this session's own program (a variant of the print) and shortened by it; Lean checks it. -/
import Derived.Test.YtkbehnnnfiakgaaQFnSetsx0
namespace Go.Proofs.Ytkbehnnnfiakgaa.QFnSets
open Go.RowKit Go.Proofs.YtkbehnnnfiakgaaW.PrintWords Go.Proofs.YtkbehnnnfiakgaaW.PrintLast Go.Proofs.YtkbehnnnfiakgaaW.PrintMore
attribute [local go_sem] max2_int min2_int max_two min_two max_three min_three max_four min_four
set_option linter.unusedVariables false
set_option linter.unusedSimpArgs false
theorem eqA28 (d : Nat) (w : World) (x0 y0 : Int) (x1 y1 : Bool) (x2 y2 : Bool) (x3 y3 : Bool) :
    (Op.equalIn (d + 2) 28 (.agg #[.int .i64 x0, .bool x1, .bool x2, .bool x3]) (.agg #[.int .i64 y0, .bool y1, .bool y2, .bool y3])).run Try.prog w = .ok (x0 == y0 && (x1 == y1 && (x2 == y2 && (x3 == y3)))) w := by
  refine eqA_of Try.underlying28 (by kernel_rfl) ?_
  refine eqf_cons (by rfl) (by go_simp; rfl) (by go_simp; rfl) (by go_simp) ?_
  refine eqf_cons (by rfl) (by go_simp; rfl) (by go_simp; rfl) (by go_simp) ?_
  refine eqf_cons (by rfl) (by go_simp; rfl) (by go_simp; rfl) (by go_simp) ?_
  exact eqf_last (by rfl) (by go_simp; rfl) (by go_simp; rfl) (by go_simp)
end Go.Proofs.Ytkbehnnnfiakgaa.QFnSets
