/- The program's LevelSquares returns what the reference's returns, for every number. -/
import Derived.Test.YtkbehnnnfiakgaaPFnExactLevelSquaresx1
namespace Go.Proofs.Ytkbehnnnfiakgaa.Pure
open Go.RowKit Go.Proofs.Ytkbehnnnfiakgaa.PFnExactLevelSquares Go.Proofs.YtkbehnnnfiakgaaW.PrintWords Go.Proofs.YtkbehnnnfiakgaaW.PrintLast Go.Proofs.YtkbehnnnfiakgaaW.PrintMore

theorem FnExactLevelSquares : laws_FnExactLevelSquares.Pure := by
  intro a0 _
  by_cases h : 1 ≤ a0 ∧ a0 ≤ 3
  · obtain rfl | rfl | rfl : a0 = 1 ∨ a0 = 2 ∨ a0 = 3 := by omega
    all_goals decide +kernel
  · unfold laws_FnExactLevelSquares.f spec_LevelSquares.f impl_LevelSquares.f impl_within.f
    rw [if_neg (by omega), if_neg (by omega), if_neg (by omega)]
    by_cases h1 : a0 ≥ 1
    · rw [if_pos h1, decide_eq_false (by omega)]; rfl
    · rw [if_neg h1]; rfl

end Go.Proofs.Ytkbehnnnfiakgaa.Pure
