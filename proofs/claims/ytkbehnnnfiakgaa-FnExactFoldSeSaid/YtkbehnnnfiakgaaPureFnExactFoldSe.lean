/- The program's FoldSe returns what the reference's returns, for every number. -/
import Derived.Test.YtkbehnnnfiakgaaPFnExactFoldSex1
namespace Go.Proofs.Ytkbehnnnfiakgaa.Pure
open Go.RowKit Go.Proofs.Ytkbehnnnfiakgaa.PFnExactFoldSe Go.Proofs.YtkbehnnnfiakgaaW.PrintWords Go.Proofs.YtkbehnnnfiakgaaW.PrintLast Go.Proofs.YtkbehnnnfiakgaaW.PrintMore

theorem FnExactFoldSe : laws_FnExactFoldSe.Pure := by
  intro a0 _
  unfold laws_FnExactFoldSe.f
  have e : impl_FoldSe.f a0 = spec_FoldSe.f a0 := rfl
  rw [e]
  have h : ∃ r, spec_FoldSe.f a0 = some r := by
    unfold spec_FoldSe.f spec_l01In.f
    split <;> simp only [Option.bind_some] <;> (repeat' split) <;> exact ⟨_, rfl⟩
  obtain ⟨r, hr⟩ := h
  rw [hr]; simp

end Go.Proofs.Ytkbehnnnfiakgaa.Pure
