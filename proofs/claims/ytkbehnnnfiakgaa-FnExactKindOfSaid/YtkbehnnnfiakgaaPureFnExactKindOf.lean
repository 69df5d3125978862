/- The program's KindOf returns what the reference's returns, for every number. -/
import Derived.Test.YtkbehnnnfiakgaaQFnExactKindOfx1
set_option linter.unusedVariables false
set_option linter.unusedSimpArgs false
namespace Go.Proofs.Ytkbehnnnfiakgaa.Pure
open Go.RowKit Go.Proofs.Ytkbehnnnfiakgaa.QFnExactKindOf Go.Proofs.YtkbehnnnfiakgaaW.PrintWords Go.Proofs.YtkbehnnnfiakgaaW.PrintLast Go.Proofs.YtkbehnnnfiakgaaW.PrintMore

theorem FnExactKindOf : laws_FnExactKindOf.Pure := by
  intro a0 _
  refine ⟨1, ?_⟩
  by_cases h : 0 ≤ a0 ∧ a0 ≤ 15
  · obtain ⟨n, rfl⟩ := Int.eq_ofNat_of_zero_le h.1
    have hn : n < 16 := by omega
    have : ∀ m : Fin 16, laws_FnExactKindOf.f 1 ((m : Nat) : Int) = some true := by decide +kernel
    exact this ⟨n, hn⟩
  · unfold laws_FnExactKindOf.f spec_KindOf.f impl_KindOf.f impl_within.f spec_l01In.f
    by_cases h1 : a0 ≥ 0
    · simp only [if_pos h1, decide_eq_false (show ¬ a0 ≤ 15 by omega)]; rfl
    · simp only [if_neg h1]; rfl

end Go.Proofs.Ytkbehnnnfiakgaa.Pure
