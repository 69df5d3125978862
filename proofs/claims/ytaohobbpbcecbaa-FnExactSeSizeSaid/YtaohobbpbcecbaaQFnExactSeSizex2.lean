/- The machine side of a law's functions, written by this session's own program (a variant of the print); Lean checks it. -/
import Derived.Test.YtaohobbpbcecbaaQFnExactSeSizex0
import Derived.Test.YtaohobbpbcecbaaQFnExactSeSizex1
namespace Go.Proofs.Ytaohobbpbcecbaa.QFnExactSeSize
open Go.RowKit Go.Proofs.YtaohobbpbcecbaaW.PrintWords Go.Proofs.YtaohobbpbcecbaaW.PrintLast Go.Proofs.YtaohobbpbcecbaaW.PrintMore
attribute [local go_sem] max2_int min2_int max_two min_two max_three min_three max_four min_four   -- for this text's walks alone
set_option linter.unusedVariables false
set_option linter.unusedSimpArgs false

/-! ### laws_FnExactSeSize: function 10 -/
def laws_FnExactSeSize.f (k : Nat) (a0 : Int) : Option (Bool) := (spec_SeSize.f k a0).bind fun t132 => ((impl_SeSize.f k a0).bind fun t133 => (if t133 = t132 then (some true) else (some false)))
theorem laws_FnExactSeSize.mono : ∀ a0 k, LeO (laws_FnExactSeSize.f k a0) (laws_FnExactSeSize.f (k + 1) a0) := by
  intro a0 k
  unfold laws_FnExactSeSize.f
  repeat' first
      | (with_reducible exact impl_SeSize.mono _ _)
      | (with_reducible exact spec_SeSize.mono _ _)
      | (with_reducible exact LeO.refl _)
      | (with_reducible exact LeO.none _)
      | (with_reducible refine LeO.ite ?_ ?_)
      | (with_reducible refine LeO.bind ?_ (fun _ => ?_))
      | exact impl_SeSize.mono _ _
      | exact spec_SeSize.mono _ _
      | exact LeO.none _
      | refine LeO.ite ?_ ?_
      | refine LeO.bind ?_ (fun _ => ?_)
set_option maxHeartbeats 8000000 in
set_option maxRecDepth 100000 in
theorem laws_FnExactSeSize.calls (k : Nat) (a0 : Int) (r : Bool) (w : World) (h : laws_FnExactSeSize.f k a0 = some r) (hr_ : Aside0 (r = true)) :
    Calls Try.prog 10 #[.int .i64 a0] w fun e w' => e = .returned (.bool r) ∧ Below w.heap.size w w' := by
  have HB := Aside0.mk (Below.refl w.heap.size w)
  have H : ((spec_SeSize.f k a0).bind fun t132 => ((impl_SeSize.f k a0).bind fun t133 => (if t133 = t132 then (some true) else (some false)))) = some r := h
  clear h
  replace H := Option.bind_eq_some_iff.mp H
  obtain ⟨t132, A20, H⟩ := H
  replace H : ((impl_SeSize.f k a0).bind fun t133 => (if t133 = t132 then (some true) else (some false))) = some r := H
  have A2 := Aside0.mk A20
  clear A20
  replace H := Option.bind_eq_some_iff.mp H
  obtain ⟨t133, A30, H⟩ := H
  replace H : (if t133 = t132 then (some true) else (some false)) = some r := H
  have A3 := Aside0.mk A30
  clear A30
  by_cases c4 : t133 = t132
  · rw [if_pos c4] at H
    have c4b0 : (t133 == t132) = true := beq_iff_eq.mpr c4
    have c4b1 : (t133 != t132) = false := bne_eq_false_iff_eq.mpr c4
    clear c4
    obtain rfl := Option.some.inj H
    go_enter Try.func10, Try.ntmps10
    go_wp2_with (first | ((with_reducible refine gate_callee (f := 31) rfl ?_); refine goesL_ (some 6) rfl rfl Try.func31 (by kernel_rfl) rfl #[.int .i64 a0] rfl (by (try simp only [List.map_toArray, List.map_cons, List.map_nil]); first | done | rfl | (simp only [List.length_drop, List.length_take]; rfl)) ?_; (with_reducible refine (spec_SeSize.calls k a0 t132 _ A2.out).mono ?_); rintro e w5 ⟨rfl, hb⟩; refine ⟨_, rfl, ?_⟩; have n0_ := Aside0.mk (below_step (by repeat (first | (with_reducible first | exact HB.out | apply below_alloc | apply pw_below_drewN | apply below_drew1) | exact HB.out)) hb); clear HB; have HB := n0_; clear n0_; (try clear hb); (try clear hb2); (try clear hk); (try clear hi)) | ((with_reducible refine gate_callee (f := 32) rfl ?_); refine goesL_ (some 8) rfl rfl Try.func32 (by kernel_rfl) rfl #[.int .i64 a0] rfl (by (try simp only [List.map_toArray, List.map_cons, List.map_nil]); first | done | rfl | (simp only [List.length_drop, List.length_take]; rfl)) ?_; (with_reducible refine (impl_SeSize.calls k a0 t133 _ A3.out).mono ?_); rintro e w6 ⟨rfl, hb⟩; refine ⟨_, rfl, ?_⟩; have n0_ := Aside0.mk (below_step (by repeat (first | (with_reducible first | exact HB.out | apply below_alloc | apply pw_below_drewN | apply below_drew1) | exact HB.out)) hb); clear HB; have HB := n0_; clear n0_; (try clear hb); (try clear hb2); (try clear hk); (try clear hi)))
    go_ret
    exact ⟨by first | rfl | (simp [errW_none, errW_some] <;> rfl) | (simp [*, errW_none, errW_some] <;> rfl), by repeat (first | (with_reducible first | exact HB.out | apply below_alloc | apply pw_below_drewN | apply below_drew1) | exact HB.out)⟩
  · rw [if_neg c4] at H
    have c4b0 : (t133 == t132) = false := beq_eq_false_iff_ne.mpr c4
    have c4b1 : (t133 != t132) = true := bne_iff_ne.mpr c4
    exact absurd (H.trans (congrArg some hr_.out)) (by simp)

/-- THE ONE PURE STATEMENT of laws_FnExactSeSize: yours. -/
def laws_FnExactSeSize.Pure : Prop := ∀ (a0 : Int), (Lit.int .i64 a0).wf = true → ∃ k, laws_FnExactSeSize.f k a0 = some true
theorem laws_FnExactSeSize.walk (P : laws_FnExactSeSize.Pure) (a0 : Int) (w : World) (w0 : (Lit.int .i64 a0).wf = true) :
    Calls Try.prog 10 #[.int .i64 a0] w fun e w' => e = .returned (.bool true) ∧ Below w.heap.size w w' := by
  obtain ⟨k, h⟩ := P a0 w0
  refine (laws_FnExactSeSize.calls k a0 true w h ⟨rfl⟩).mono ?_
  rintro e w' ⟨rfl, hd⟩
  exact ⟨rfl, hd⟩

end Go.Proofs.Ytaohobbpbcecbaa.QFnExactSeSize
