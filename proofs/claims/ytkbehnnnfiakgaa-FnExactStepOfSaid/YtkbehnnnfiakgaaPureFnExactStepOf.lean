/- The program's StepOf returns what the reference's returns, for every number. -/
import Derived.Test.YtkbehnnnfiakgaaPFnExactStepOfx1
namespace Go.Proofs.Ytkbehnnnfiakgaa.Pure
open Go.RowKit Go.Proofs.Ytkbehnnnfiakgaa.PFnExactStepOf Go.Proofs.YtkbehnnnfiakgaaW.PrintWords Go.Proofs.YtkbehnnnfiakgaaW.PrintLast Go.Proofs.YtkbehnnnfiakgaaW.PrintMore

theorem FnExactStepOf : laws_FnExactStepOf.Pure := by
  intro a0 _
  refine ⟨10, ?_⟩
  by_cases h : 0 ≤ a0 ∧ a0 ≤ 40
  · obtain ⟨n, rfl⟩ := Int.eq_ofNat_of_zero_le h.1
    have hn : n < 41 := by omega
    have : ∀ m : Fin 41, laws_FnExactStepOf.f 10 ((m : Nat) : Int) = some true := by decide +kernel
    exact this ⟨n, hn⟩
  · unfold laws_FnExactStepOf.f spec_StepOf.f impl_StepOf.f impl_within.f spec_l01In.f
    by_cases h1 : a0 ≥ 0
    · simp only [if_pos h1, decide_eq_false (show ¬ a0 ≤ 40 by omega)]; rfl
    · simp only [if_neg h1]; rfl

end Go.Proofs.Ytkbehnnnfiakgaa.Pure
