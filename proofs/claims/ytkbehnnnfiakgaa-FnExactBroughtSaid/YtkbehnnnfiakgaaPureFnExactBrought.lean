/- The program's Brought returns what the reference's returns, for all three numbers. -/
import Derived.Test.YtkbehnnnfiakgaaPFnExactBroughtx1
set_option linter.unusedVariables false
set_option linter.unusedSimpArgs false
namespace Go.Proofs.Ytkbehnnnfiakgaa.Pure
open Go.RowKit Go.Proofs.Ytkbehnnnfiakgaa.PFnExactBrought Go.Proofs.YtkbehnnnfiakgaaW.PrintWords Go.Proofs.YtkbehnnnfiakgaaW.PrintLast Go.Proofs.YtkbehnnnfiakgaaW.PrintMore

theorem spec_val (a0 a1 a2 : Int) : spec_Brought.f 1 a0 a1 a2 = some (if a2 < a1 then a1 else if a0 < a1 then a1 else if a0 > a2 then a2 else a0) := by
  unfold spec_Brought.f
  simp only [spec_Brought.j0, decide_eq_true_eq, if_true]
  by_cases h1 : a2 < a1
  · rw [if_pos h1, if_pos h1]
  · rw [if_neg h1, if_neg h1]
    by_cases h2 : a0 < a1
    · rw [if_pos h2, if_pos h2]
    · rw [if_neg h2, if_neg h2]
      by_cases h3 : a0 > a2
      · rw [if_pos h3, if_pos h3]
      · rw [if_neg h3, if_neg h3]
theorem same_val (a0 a1 a2 : Int) : mx a1 (mn a0 a2) = if a2 < a1 then a1 else if a0 < a1 then a1 else if a0 > a2 then a2 else a0 := by
  have hn : (a2 < a0 ∧ mn a0 a2 = a2) ∨ (¬ a2 < a0 ∧ mn a0 a2 = a0) := by
    unfold mn
    by_cases h : a2 < a0
    · exact .inl ⟨h, if_pos h⟩
    · exact .inr ⟨h, if_neg h⟩
  unfold mx
  split <;> split <;> (try split) <;> (try split) <;> omega
theorem FnExactBrought : laws_FnExactBrought.Pure := by
  intro a0 a1 a2 _ _ _
  refine ⟨1, ?_⟩
  unfold laws_FnExactBrought.f impl_Brought.f
  rw [spec_val, same_val]
  simp only [Option.bind_some, if_true]

end Go.Proofs.Ytkbehnnnfiakgaa.Pure
