/- FnExactParRow: the law returns true for every input, and what it was handed reads as before; the row, out of the pure statement and the machine side of its functions. -/
import Derived.Test.YtibnnodjockcbaaRows
import Derived.Test.YtibnnodjockcbaaQFnExactParRowx2
import Derived.Test.YtibnnodjockcbaaStmtFnExactParRow
import Derived.Test.YtibnnodjockcbaaPureFnExactParRow
import Derived.WalkKit
import Derived.ProofKit
import Derived.OpenShut
import Derived.ShutString
import Derived.ChangeOld
import Derived.Below
import Derived.SizedLaws
import Derived.Lib.SmallJoins
import Derived.SliceStrings
namespace Go.Proofs.Ytibnnodjockcbaa.fnExactParRow
open Go.ChangeShapes Go.WideShapes Go.ChangeAt Go.RowKit Go.Joins
open Go.ChangeMaps (open_string shut_string)
open Go.Proofs.YtibnnodjockcbaaW
set_option linter.unusedVariables false
theorem own : ownKnob Try.prog.godebug = none := by kernel_rfl
theorem laidOut : laidOutB Try.prog = true := by kernel_rfl
open QFnExactParRow in
open PrintWords in
theorem walk (P : QFnExactParRow.laws_FnExactParRow.Pure) (a0_0 : Int) (a0_1 : Bool) (a0_2 : Bool) (a0_3 : Bool) (w : World) (w0_0 : (Lit.int .i64 a0_0).wf = true) :
    Calls Try.prog 13 #[.agg #[.int .i64 a0_0, .bool a0_1, .bool a0_2, .bool a0_3]] w fun e w' => e = .returned (.bool true) ∧ Below w.heap.size w w' := by
  obtain ⟨k, h⟩ := P a0_0 a0_1 a0_2 a0_3 w0_0
  refine (QFnExactParRow.laws_FnExactParRow.calls k a0_0 a0_1 a0_2 a0_3 true w  h ⟨rfl⟩).mono ?_
  rintro e w' ⟨rfl, hd⟩
  exact ⟨rfl, hd⟩
set_option maxRecDepth 100000 in
theorem lifted (os : Os) (started : os.Started) (H : Type) (enc : TypeId × Value → H) :
    ReturnsInHanded {} Try.checked os 13 .any (Rows.fnExactParRowSpec.pre6 enc Try.prog Try.f13 Rows.fnExactParRowRow.domain false) (Rows.fnExactParRowSpec.post enc Try.prog Try.f13 false true false false) := by
  refine returnsInHanded_of_change_sized (C := Try.checked) own started (by kernel_rfl) Try.func13
    (ChangeSpec.witness6 (enc := enc) (C := Try.checked) false ⟨#[], #[.agg #[.int .i64 0, .bool false, .bool false, .bool false]], []⟩ 8 (by kernel_rfl) (by kernel_rfl) (by kernel_rfl) (by kernel_rfl)) ?_
  intro W base args ds gs before hval0 hW hcnd hsz0 _
  have hsz : (DataW.weightsEach Try.prog (Try.f13.params.toList ++ Rows.fnExactParRowSpec.plain.varTypes Try.prog) (ds ++ gs)).all (· ≤ reachBytes) = true := hsz0
  have hval : ∀ (j : Nat) t v, Try.f13.params[j]? = some t → args[j]? = some v → Value.okWide Try.prog W .any base t v := hval0
  have hW' := hW
  obtain ⟨p, q, hA0, hV, rfl, hfz, hnd⟩ := hW
  have hA : DataW.TrodAll enc Try.prog W 0 (fun _ => true) true Try.f13.params.toList args.toList ds p := hA0
  rw [Try.params13] at hA hval hsz
  obtain ⟨v0, vs0, d0, ds0, p0, q0, hargs, rfl, rfl, h0, r0⟩ := trodAll_cons hA
  obtain ⟨rfl, rfl, rfl⟩ := trodAll_nil r0
  obtain rfl : args = #[v0] := by cases args; simp_all
  obtain ⟨rfl, rfl⟩ := trodVars_none hV
  have k0 := h0
  have lt0 : ∀ x ∈ p0, x.block < W.heap.size := by obtain ⟨m, hm⟩ := k0; exact DataW.trod_lt m _ _ _ hm
  obtain ⟨b0_0, b0_1, b0_2, b0_3, y0_0, y0_1, y0_2, y0_3, n0, rfl, hd0, hp0, t0_0, t0_1, t0_2, t0_3⟩ := open_agg4 Try.underlying31 (by kernel_rfl) (by kernel_rfl) (hval 0 31 v0 rfl rfl) h0
  obtain ⟨a0_0, e0_0, _, w0_0⟩ := DataW.trod_int Try.underlying3 t0_0
  obtain rfl : b0_0 = .int .i64 a0_0 := by simpa using e0_0
  obtain ⟨a0_1, e0_1, _⟩ := DataW.trod_bool Try.underlying4 t0_1
  obtain rfl : b0_1 = .bool a0_1 := by simpa using e0_1
  obtain ⟨a0_2, e0_2, _⟩ := DataW.trod_bool Try.underlying4 t0_2
  obtain rfl : b0_2 = .bool a0_2 := by simpa using e0_2
  obtain ⟨a0_3, e0_3, _⟩ := DataW.trod_bool Try.underlying4 t0_3
  obtain rfl : b0_3 = .bool a0_3 := by simpa using e0_3
  clear hA0 hval0 hsz0 hsz
  refine (walk Pure.FnExactParRow a0_0 a0_1 a0_2 a0_3 W w0_0).mono fun e W' ⟨he, bel⟩ => ?_
  subst he
  exact ⟨_, rfl, _, _, _, [], _, [], hW', trodAll_mk1 (shut_bool Try.underlying4 _), (trodAll_cons_mk (Below.trod laidOut (by kernel_rfl) (of_decide_eq_true (by kernel_rfl)) k0 bel lt0) trodAll_mk0), rfl, bel.frame _, fun h => by cases h⟩
theorem over : Rows.fnExactParRowRow.holds Try.pinned (OpenSpec.ofChange Rows.fnExactParRowSpec) :=
  OpenClaim.holds_of_wide 13 Try.f13 rfl rfl rfl rfl rfl rfl rfl ⟨rfl, rfl, rfl, rfl, rfl⟩ rfl rfl rfl rfl rfl (by kernel_rfl) Try.func13 (by kernel_rfl)
    (of_decide_eq_true (by kernel_rfl)) (by unfold Func.isWrapper; first | (rw [if_pos (by decide +kernel)]; kernel_rfl) | (rw [if_neg (by decide +kernel)]; exact ⟨rfl, rfl⟩))
    (fun os started H enc _ => lifted os started H enc)
theorem proved : Rows.FnExactParRowSaid := over
#print axioms proved
end Go.Proofs.Ytibnnodjockcbaa.fnExactParRow
namespace Go.Proofs.Ytibnnodjockcbaa
/-- The row, under a short name, for the claim. -/
theorem fnExactParRow_holds : Rows.FnExactParRowSaid := fnExactParRow.proved
end Go.Proofs.Ytibnnodjockcbaa
