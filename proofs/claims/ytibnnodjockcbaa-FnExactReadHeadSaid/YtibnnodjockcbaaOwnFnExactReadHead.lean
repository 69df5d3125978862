/- FnExactReadHead: the law returns true for every input, and what it was handed reads as before; the row, out of the pure statement and the machine side of its functions. -/
import Derived.Test.YtibnnodjockcbaaRows
import Derived.Test.YtibnnodjockcbaaQFnExactReadHeadx11
import Derived.Test.YtibnnodjockcbaaStmtFnExactReadHead
import Derived.Test.YtibnnodjockcbaaPureFnExactReadHead
import Derived.WalkKit
import Derived.ProofKit
import Derived.OpenShut
import Derived.ShutString
import Derived.ChangeOld
import Derived.Below
import Derived.SizedLaws
import Derived.Lib.SmallJoins
import Derived.SliceStrings
namespace Go.Proofs.Ytibnnodjockcbaa.fnExactReadHead
open Go.ChangeShapes Go.WideShapes Go.ChangeAt Go.RowKit Go.Joins
open Go.ChangeMaps (open_string shut_string)
open Go.Proofs.YtibnnodjockcbaaW
set_option linter.unusedVariables false
theorem own : ownKnob Try.prog.godebug = none := by kernel_rfl
theorem laidOut : laidOutB Try.prog = true := by kernel_rfl
def IsRow (k : IntKind) (w : World) (a : Option Addr) (len cap : Nat) (zs : List Int) : Prop :=
  (a = none ∧ len = 0 ∧ cap = 0 ∧ zs = []) ∨
  ∃ x, a = some x ∧ len ≤ cap ∧ cap ≤ maxLen ∧ zs.length = cap ∧ (∀ i, i < zs.length → w.cell? (x.add i) = some (.int k (zs.getD i 0))) ∧ ∀ n ∈ zs, (Lit.int k n).wf = true
open QFnExactReadHead in
open PrintWords in
theorem walk (P : QFnExactReadHead.laws_FnExactReadHead.Pure) (a0_0 : Int) (a0_1 : Int) (A0_2 : Option Addr) (len0_2 cap0_2 : Nat) (z0_2 : List Int) (A0_3 : Option Addr) (len0_3 cap0_3 : Nat) (z0_3 : List Int) (a1_0 : Int) (a1_1 : Bool) (a1_2 : Bool) (a1_3 : Bool) (a2 : ByteArray) (w : World) (w0_0 : (Lit.int .i64 a0_0).wf = true) (w0_1 : (Lit.int .i64 a0_1).wf = true) (w0_2 : IsRow .i64 w A0_2 len0_2 cap0_2 z0_2) (w0_3 : IsRow .i64 w A0_3 len0_3 cap0_3 z0_3) (w1_0 : (Lit.int .i64 a1_0).wf = true) (w2 : a2.size ≤ 140737488351232) :
    Calls Try.prog 5 #[.agg #[.int .i64 a0_0, .int .i64 a0_1, .slice A0_2 len0_2 cap0_2, .slice A0_3 len0_3 cap0_3], .agg #[.int .i64 a1_0, .bool a1_1, .bool a1_2, .bool a1_3], .string a2] w fun e w' => e = .returned (.bool true) ∧ Below w.heap.size w w' := by
  obtain ⟨l0_2, rfl, hr0_2, hm0_2, hw0_2, hc0_2⟩ := PrintWords.ReadsInt.ofRowC w0_2
  obtain ⟨l0_3, rfl, hr0_3, hm0_3, hw0_3, hc0_3⟩ := PrintWords.ReadsInt.ofRowC w0_3
  obtain ⟨k, h⟩ := P a0_0 a0_1 l0_2 l0_3 a1_0 a1_1 a1_2 a1_3 a2 w0_0 w0_1 hm0_2 hw0_2 hm0_3 hw0_3 w1_0 w2
  refine (QFnExactReadHead.laws_FnExactReadHead.calls k a0_0 a0_1 _ _ l0_2 _ _ l0_3 a1_0 a1_1 a1_2 a1_3 a2 true w (PrintWords.Kd.C_of_reads (d := (0 : Int)) (h1 := fun _ => rfl) hr0_2) hc0_2 (PrintWords.Kd.C_of_reads (d := (0 : Int)) (h1 := fun _ => rfl) hr0_3) hc0_3 h ⟨rfl⟩).mono ?_
  rintro e w' ⟨rfl, hd⟩
  exact ⟨rfl, hd⟩
set_option maxRecDepth 100000 in
theorem lifted (os : Os) (started : os.Started) (H : Type) (enc : TypeId × Value → H) :
    ReturnsInHanded {} Try.checked os 5 .any (Rows.fnExactReadHeadSpec.pre6 enc Try.prog Try.f5 Rows.fnExactReadHeadRow.domain false) (Rows.fnExactReadHeadSpec.post enc Try.prog Try.f5 false true false false) := by
  refine returnsInHanded_of_change_sized (C := Try.checked) own started (by kernel_rfl) Try.func5
    (ChangeSpec.witness6 (enc := enc) (C := Try.checked) false ⟨#[], #[.agg #[.int .i64 0, .int .i64 0, .slice none 0 0, .slice none 0 0], .agg #[.int .i64 0, .bool false, .bool false, .bool false], .string ByteArray.empty], []⟩ 8 (by kernel_rfl) (by kernel_rfl) (by kernel_rfl) (by kernel_rfl)) ?_
  intro W base args ds gs before hval0 hW hcnd hsz0 _
  have hsz : (DataW.weightsEach Try.prog (Try.f5.params.toList ++ Rows.fnExactReadHeadSpec.plain.varTypes Try.prog) (ds ++ gs)).all (· ≤ reachBytes) = true := hsz0
  have hval : ∀ (j : Nat) t v, Try.f5.params[j]? = some t → args[j]? = some v → Value.okWide Try.prog W .any base t v := hval0
  have hW' := hW
  obtain ⟨p, q, hA0, hV, rfl, hfz, hnd⟩ := hW
  have hA : DataW.TrodAll enc Try.prog W 0 (fun _ => true) true Try.f5.params.toList args.toList ds p := hA0
  rw [Try.params5] at hA hval hsz
  obtain ⟨v0, vs0, d0, ds0, p0, q0, hargs, rfl, rfl, h0, r0⟩ := trodAll_cons hA
  obtain ⟨v1, vs1, d1, ds1, p1, q1, rfl, rfl, rfl, h1, r1⟩ := trodAll_cons r0
  obtain ⟨v2, vs2, d2, ds2, p2, q2, rfl, rfl, rfl, h2, r2⟩ := trodAll_cons r1
  obtain ⟨rfl, rfl, rfl⟩ := trodAll_nil r2
  obtain rfl : args = #[v0, v1, v2] := by cases args; simp_all
  obtain ⟨rfl, rfl⟩ := trodVars_none hV
  have k0 := h0
  have lt0 : ∀ x ∈ p0, x.block < W.heap.size := by obtain ⟨m, hm⟩ := k0; exact DataW.trod_lt m _ _ _ hm
  obtain ⟨b0_0, b0_1, b0_2, b0_3, y0_0, y0_1, y0_2, y0_3, n0, rfl, hd0, hp0, t0_0, t0_1, t0_2, t0_3⟩ := open_agg4 Try.underlying29 (by kernel_rfl) (by kernel_rfl) (hval 0 29 v0 rfl rfl) h0
  obtain ⟨a0_0, e0_0, _, w0_0⟩ := DataW.trod_int Try.underlying3 t0_0
  obtain rfl : b0_0 = .int .i64 a0_0 := by simpa using e0_0
  obtain ⟨a0_1, e0_1, _, w0_1⟩ := DataW.trod_int Try.underlying3 t0_1
  obtain rfl : b0_1 = .int .i64 a0_1 := by simpa using e0_1
  obtain ⟨A0_2, len0_2, cap0_2, z0_2, e0_2, w0_2⟩ : ∃ A len cap zs, b0_2 = .slice A len cap ∧ IsRow .i64 W A len cap zs := by
    rcases open_ints Try.underlying27 Try.underlying3 (by kernel_rfl) t0_2 with ⟨hcs, _⟩ | ⟨x, l, c, zs, hcs, _, hl, hm, hz, _, hcell, hwz⟩
    · exact ⟨none, 0, 0, [], by simpa using hcs, .inl ⟨rfl, rfl, rfl, rfl⟩⟩
    · exact ⟨some x, l, c, zs, by simpa using hcs, .inr ⟨_, rfl, hl, hm, by simpa using hz, hcell, hwz⟩⟩
  subst e0_2
  obtain ⟨A0_3, len0_3, cap0_3, z0_3, e0_3, w0_3⟩ : ∃ A len cap zs, b0_3 = .slice A len cap ∧ IsRow .i64 W A len cap zs := by
    rcases open_ints Try.underlying27 Try.underlying3 (by kernel_rfl) t0_3 with ⟨hcs, _⟩ | ⟨x, l, c, zs, hcs, _, hl, hm, hz, _, hcell, hwz⟩
    · exact ⟨none, 0, 0, [], by simpa using hcs, .inl ⟨rfl, rfl, rfl, rfl⟩⟩
    · exact ⟨some x, l, c, zs, by simpa using hcs, .inr ⟨_, rfl, hl, hm, by simpa using hz, hcell, hwz⟩⟩
  subst e0_3
  have k1 := h1
  have lt1 : ∀ x ∈ p1, x.block < W.heap.size := by obtain ⟨m, hm⟩ := k1; exact DataW.trod_lt m _ _ _ hm
  obtain ⟨b1_0, b1_1, b1_2, b1_3, y1_0, y1_1, y1_2, y1_3, n1, rfl, hd1, hp1, t1_0, t1_1, t1_2, t1_3⟩ := open_agg4 Try.underlying31 (by kernel_rfl) (by kernel_rfl) (hval 1 31 v1 rfl rfl) h1
  obtain ⟨a1_0, e1_0, _, w1_0⟩ := DataW.trod_int Try.underlying3 t1_0
  obtain rfl : b1_0 = .int .i64 a1_0 := by simpa using e1_0
  obtain ⟨a1_1, e1_1, _⟩ := DataW.trod_bool Try.underlying4 t1_1
  obtain rfl : b1_1 = .bool a1_1 := by simpa using e1_1
  obtain ⟨a1_2, e1_2, _⟩ := DataW.trod_bool Try.underlying4 t1_2
  obtain rfl : b1_2 = .bool a1_2 := by simpa using e1_2
  obtain ⟨a1_3, e1_3, _⟩ := DataW.trod_bool Try.underlying4 t1_3
  obtain rfl : b1_3 = .bool a1_3 := by simpa using e1_3
  obtain ⟨a2, rfl, rfl, rfl, y2⟩ := open_string Try.underlying9 (hval 2 9 v2 rfl rfl) h2
  have w2 : a2.size ≤ 140737488351232 := by
    have z := sized_string hsz (j := 2) (t := 9) rfl rfl
    rw [Array.length_toList] at z
    exact z
  clear hA0 hval0 hsz0 hsz
  refine (walk Pure.FnExactReadHead a0_0 a0_1 A0_2 len0_2 cap0_2 z0_2 A0_3 len0_3 cap0_3 z0_3 a1_0 a1_1 a1_2 a1_3 a2 W w0_0 w0_1 w0_2 w0_3 w1_0 w2).mono fun e W' ⟨he, bel⟩ => ?_
  subst he
  exact ⟨_, rfl, _, _, _, [], _, [], hW', trodAll_mk1 (shut_bool Try.underlying4 _), (trodAll_cons_mk (Below.trod laidOut (by kernel_rfl) (of_decide_eq_true (by kernel_rfl)) k0 bel lt0) (trodAll_cons_mk (Below.trod laidOut (by kernel_rfl) (of_decide_eq_true (by kernel_rfl)) k1 bel lt1) (trodAll_cons_mk (shut_string Try.underlying9 y2) trodAll_mk0))), rfl, bel.frame _, fun h => by cases h⟩
theorem over : Rows.fnExactReadHeadRow.holds Try.pinned (OpenSpec.ofChange Rows.fnExactReadHeadSpec) :=
  OpenClaim.holds_of_wide 5 Try.f5 rfl rfl rfl rfl rfl rfl rfl ⟨rfl, rfl, rfl, rfl, rfl⟩ rfl rfl rfl rfl rfl (by kernel_rfl) Try.func5 (by kernel_rfl)
    (of_decide_eq_true (by kernel_rfl)) (by unfold Func.isWrapper; first | (rw [if_pos (by decide +kernel)]; kernel_rfl) | (rw [if_neg (by decide +kernel)]; exact ⟨rfl, rfl⟩))
    (fun os started H enc _ => lifted os started H enc)
theorem proved : Rows.FnExactReadHeadSaid := over
#print axioms proved
end Go.Proofs.Ytibnnodjockcbaa.fnExactReadHead
namespace Go.Proofs.Ytibnnodjockcbaa
/-- The row, under a short name, for the claim. -/
theorem fnExactReadHead_holds : Rows.FnExactReadHeadSaid := fnExactReadHead.proved
end Go.Proofs.Ytibnnodjockcbaa
