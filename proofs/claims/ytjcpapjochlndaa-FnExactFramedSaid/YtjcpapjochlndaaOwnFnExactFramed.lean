/- FnExactFramed: the law returns true for every input, and what it was handed reads as before; the row, out of the pure statement and the machine side of its functions. -/
import Derived.Test.YtjcpapjochlndaaRows
import Derived.Test.YtjcpapjochlndaaQFnExactFramedx3
import Derived.Test.YtjcpapjochlndaaStmtFnExactFramed
import Derived.Test.YtjcpapjochlndaaPureFnExactFramed
import Derived.WalkKit
import Derived.ProofKit
import Derived.OpenShut
import Derived.ShutString
import Derived.ChangeOld
import Derived.Below
import Derived.SizedLaws
import Derived.Lib.SmallJoins
import Derived.SliceStrings
namespace Go.Proofs.Ytjcpapjochlndaa.fnExactFramed
open Go.ChangeShapes Go.WideShapes Go.ChangeAt Go.RowKit Go.Joins
open Go.ChangeMaps (open_string shut_string)
open Go.Proofs.YtjcpapjochlndaaW
set_option linter.unusedVariables false
theorem own : ownKnob Try.prog.godebug = none := by kernel_rfl
theorem laidOut : laidOutB Try.prog = true := by kernel_rfl
theorem strs_C {w : World} {x : Addr} {n : Nat} {ss : List ByteArray} (hn : n = ss.length) (hm : n ≤ maxLen) (h : ∀ j, j < n → w.cell? (x.add j) = some (.string (ss.getD j ByteArray.empty))) : PrintWords.Kd.C PrintWords.Kd.string w (some x) ss.length ss := by
  subst hn
  exact PrintWords.Kd.C_of_reads (d := ByteArray.empty) (h1 := fun _ => rfl) ⟨rfl, by simp only [maxLen] at hm; omega, fun _ => ⟨x, rfl, h⟩⟩
def IsStrs (w : World) (a : Option Addr) (len cap : Nat) (ss : List ByteArray) : Prop := len = ss.length ∧ ss.length ≤ cap ∧ PrintWords.Kd.C PrintWords.Kd.string w a ss.length ss
open QFnExactFramed in
open PrintWords in
theorem walk (P : QFnExactFramed.laws_FnExactFramed.Pure) (A0 : Option Addr) (len0 cap0 : Nat) (l0 : List ByteArray) (w : World) (w0 : IsStrs w A0 len0 cap0 l0) (y0 : len0 * 16 ≤ 140737488351232) (x0 : ∀ s ∈ l0, s.size ≤ maxLen) :
    Calls Try.prog 4 #[.slice A0 len0 cap0] w fun e w' => e = .returned (.bool true) ∧ Below w.heap.size w w' := by
  obtain ⟨rfl, hc0, hC0⟩ := w0
  obtain ⟨k, h⟩ := P l0 y0 x0
  refine (QFnExactFramed.laws_FnExactFramed.calls k _ _ l0 true w hC0 hc0 h ⟨rfl⟩).mono ?_
  rintro e w' ⟨rfl, hd⟩
  exact ⟨rfl, hd⟩
set_option maxRecDepth 100000 in
theorem lifted (os : Os) (started : os.Started) (H : Type) (enc : TypeId × Value → H) :
    ReturnsInHanded {} Try.checked os 4 .any (Rows.fnExactFramedSpec.pre6 enc Try.prog Try.f4 Rows.fnExactFramedRow.domain false) (Rows.fnExactFramedSpec.post enc Try.prog Try.f4 false true false false) := by
  refine returnsInHanded_of_change_sized (C := Try.checked) own started (by kernel_rfl) Try.func4
    (ChangeSpec.witness6 (enc := enc) (C := Try.checked) false ⟨#[], #[.slice none 0 0], []⟩ 8 (by kernel_rfl) (by kernel_rfl) (by kernel_rfl) (by kernel_rfl)) ?_
  intro W base args ds gs before hval0 hW hcnd hsz0 _
  have hsz : (DataW.weightsEach Try.prog (Try.f4.params.toList ++ Rows.fnExactFramedSpec.plain.varTypes Try.prog) (ds ++ gs)).all (· ≤ reachBytes) = true := hsz0
  have hval : ∀ (j : Nat) t v, Try.f4.params[j]? = some t → args[j]? = some v → Value.okWide Try.prog W .any base t v := hval0
  have hW' := hW
  obtain ⟨p, q, hA0, hV, rfl, hfz, hnd⟩ := hW
  have hA : DataW.TrodAll enc Try.prog W 0 (fun _ => true) true Try.f4.params.toList args.toList ds p := hA0
  rw [Try.params4] at hA hval hsz
  obtain ⟨v0, vs0, d0, ds0, p0, q0, hargs, rfl, rfl, h0, r0⟩ := trodAll_cons hA
  obtain ⟨rfl, rfl, rfl⟩ := trodAll_nil r0
  obtain rfl : args = #[v0] := by cases args; simp_all
  obtain ⟨rfl, rfl⟩ := trodVars_none hV
  obtain ⟨A0, len0, cap0, rfl⟩ := okWide_slice Try.underlying24 (hval 0 24 v0 rfl rfl)
  have k0 := h0
  have lt0 : ∀ x ∈ p0, x.block < W.heap.size := by obtain ⟨m, hm⟩ := k0; exact DataW.trod_lt m _ _ _ hm
  obtain ⟨l0, w0, y0, x0⟩ : ∃ ss, IsStrs W A0 len0 cap0 ss ∧ len0 * 16 ≤ 140737488351232 ∧ ∀ s ∈ ss, s.size ≤ maxLen := by
    obtain ⟨fuel, hf⟩ := h0
    rcases open_strings Try.underlying24 Try.underlying9 (by kernel_rfl) hf with ⟨hcs, _⟩ | ⟨x, l, c, ss, hcs, _, hl, hm, hz, hx, hcell, hws⟩
    · simp [Value.cells] at hcs
      obtain ⟨rfl, rfl, rfl⟩ := hcs
      exact ⟨[], ⟨rfl, Nat.le_refl _, PrintWords.Kd.C_nil _ _⟩, by simp, fun s hs => by cases hs⟩
    · simp [Value.cells] at hcs
      obtain ⟨rfl, rfl, rfl⟩ := hcs
      have hz2 : ss.length = cap0 := by simpa using hz
      have hsl : (ss.take len0).length = len0 := by rw [List.length_take]; omega
      refine ⟨ss.take len0, ⟨hsl.symm, by omega, ?_⟩, ?_, fun s hs => hws s (List.mem_of_mem_take hs)⟩
      · exact strs_C hsl.symm (Nat.le_trans hl hm) (fun j hj => by rw [hcell j (by omega)]; congr 2; rw [List.getD_eq_getElem?_getD, List.getD_eq_getElem?_getD, List.getElem?_take, if_pos hj])
      · obtain ⟨hx, _⟩ := Prod.mk.inj hx
        subst hx
        have zz := sized_slice hsz (j := 0) (t := 24) rfl rfl Try.underlying24
        have hB : Try.prog.bytesOf 9 = 16 := by kernel_rfl
        rw [hB] at zz
        refine Nat.le_trans (Nat.mul_le_mul_right _ ?_) zz
        simp [strs]
        omega
  clear hA0 hval0 hsz0 hsz
  refine (walk Pure.FnExactFramed A0 len0 cap0 l0 W w0 y0 x0).mono fun e W' ⟨he, bel⟩ => ?_
  subst he
  exact ⟨_, rfl, _, _, _, [], _, [], hW', trodAll_mk1 (shut_bool Try.underlying4 _), (trodAll_cons_mk (Below.trod laidOut (by kernel_rfl) (of_decide_eq_true (by kernel_rfl)) k0 bel lt0) trodAll_mk0), rfl, bel.frame _, fun h => by cases h⟩
theorem over : Rows.fnExactFramedRow.holds Try.pinned (OpenSpec.ofChange Rows.fnExactFramedSpec) :=
  OpenClaim.holds_of_wide 4 Try.f4 rfl rfl rfl rfl rfl rfl rfl ⟨rfl, rfl, rfl, rfl, rfl⟩ rfl rfl rfl rfl rfl (by kernel_rfl) Try.func4 (by kernel_rfl)
    (of_decide_eq_true (by kernel_rfl)) (by unfold Func.isWrapper; first | (rw [if_pos (by decide +kernel)]; kernel_rfl) | (rw [if_neg (by decide +kernel)]; exact ⟨rfl, rfl⟩))
    (fun os started H enc _ => lifted os started H enc)
theorem proved : Rows.FnExactFramedSaid := over
#print axioms proved
end Go.Proofs.Ytjcpapjochlndaa.fnExactFramed
namespace Go.Proofs.Ytjcpapjochlndaa
/-- The row, under a short name, for the claim. -/
theorem fnExactFramed_holds : Rows.FnExactFramedSaid := fnExactFramed.proved
end Go.Proofs.Ytjcpapjochlndaa
