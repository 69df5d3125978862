/- The program's ParOk returns what the reference's returns, for every par. -/
import Derived.Test.YtkbehnnnfiakgaaQFnExactParOkx1
import Derived.Test.YtkbehnnnfiakgaaStmtFnExactParOk
set_option linter.unusedVariables false
set_option linter.unusedSimpArgs false
namespace Go.Proofs.Ytkbehnnnfiakgaa.Pure
open Go.RowKit Go.Proofs.Ytkbehnnnfiakgaa.QFnExactParOk Go.Proofs.YtkbehnnnfiakgaaW.PrintWords Go.Proofs.YtkbehnnnfiakgaaW.PrintLast Go.Proofs.YtkbehnnnfiakgaaW.PrintMore

theorem in_yes {x lo hi : Int} (h0 : lo ≤ x) (h1 : x ≤ hi) : spec_l01In.f x lo hi = some true := by
  unfold spec_l01In.f
  rw [if_pos h0, decide_eq_true h1]
theorem in_no {x lo hi : Int} (h : ¬ (lo ≤ x ∧ x ≤ hi)) : spec_l01In.f x lo hi = some false := by
  unfold spec_l01In.f
  by_cases h0 : lo ≤ x
  · rw [if_pos h0, decide_eq_false (fun h1 => h ⟨h0, h1⟩)]
  · rw [if_neg h0]
theorem in_any (x lo hi : Int) : spec_l01In.f x lo hi = some (decide (lo ≤ x ∧ x ≤ hi)) := by
  by_cases h : lo ≤ x ∧ x ≤ hi
  · rw [in_yes h.1 h.2, decide_eq_true h]
  · rw [in_no h, decide_eq_false h]
theorem FnExactParOk : laws_FnExactParOk.Pure := by
  intro q a b c _
  have h : ∃ r, spec_ParOk.f q a b c = some r := by
    unfold spec_ParOk.f
    rw [in_any]
    simp only [Option.bind_some]
    split
    · split <;> exact ⟨_, rfl⟩
    · exact ⟨_, rfl⟩
  obtain ⟨r, hr⟩ := h
  have e : impl_ParOk.f q a b c = spec_ParOk.f q a b c := rfl
  unfold laws_FnExactParOk.f laws_toPar.f
  simp only [Option.bind_some, e, hr, bne_self_eq_false, Bool.false_eq_true, if_false]

end Go.Proofs.Ytkbehnnnfiakgaa.Pure
