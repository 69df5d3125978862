/- The program's OpenSe returns what the reference's returns, for every number. -/
import Derived.Test.YtkbehnnnfiakgaaPFnExactOpenSex1
namespace Go.Proofs.Ytkbehnnnfiakgaa.Pure
open Go.RowKit Go.Proofs.Ytkbehnnnfiakgaa.PFnExactOpenSe Go.Proofs.YtkbehnnnfiakgaaW.PrintWords Go.Proofs.YtkbehnnnfiakgaaW.PrintLast Go.Proofs.YtkbehnnnfiakgaaW.PrintMore

theorem FnExactOpenSe : laws_FnExactOpenSe.Pure := by
  intro a0 _
  have e : impl_OpenSe.f a0 = spec_OpenSe.f a0 := by
    unfold impl_OpenSe.f spec_OpenSe.f impl_within.f spec_l01In.f
    by_cases h : a0 ≥ 0
    · simp only [if_pos h, Option.bind_some]
      by_cases h2 : a0 ≤ 1000000
      · simp only [decide_eq_true h2, if_true]
        split
        · rfl
        · rename_i h3
          have e1 : wrap64 (-a0) = -a0 := by
            unfold wrap64
            omega
          have e2 : Int.tdiv (-a0) 2 = -(Int.tdiv a0 2) := Int.neg_tdiv _ _
          have e3 : Int.tdiv a0 2 = a0 / 2 := Int.tdiv_eq_ediv_of_nonneg h
          have e4 : wrap64 (a0 / 2) = a0 / 2 := by
            unfold wrap64
            omega
          rw [e1, e2, e3, e4]
      · simp only [decide_eq_false h2]; rfl
    · simp only [if_neg h]; rfl
  unfold laws_FnExactOpenSe.f
  rw [e]
  have h : ∃ r, spec_OpenSe.f a0 = some r := by
    unfold spec_OpenSe.f spec_l01In.f
    split <;> simp only [Option.bind_some] <;> (repeat' split) <;> exact ⟨_, rfl⟩
  obtain ⟨r, hr⟩ := h
  rw [hr]; simp

end Go.Proofs.Ytkbehnnnfiakgaa.Pure
