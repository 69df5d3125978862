/- The machine side of a law's functions, written by this session's own program (a variant of the print); Lean checks it. -/
import Derived.Test.YtjcpapjochlndaaQFnUnitsx0
import Derived.Test.YtjcpapjochlndaaQFnUnitsx1
import Derived.Test.YtjcpapjochlndaaQFnUnitsx2
import Derived.Test.YtjcpapjochlndaaQFnUnitsx4
import Derived.Test.YtjcpapjochlndaaQFnUnitsx5
namespace Go.Proofs.Ytjcpapjochlndaa.QFnUnits
open Go.RowKit Go.Proofs.YtjcpapjochlndaaW.PrintWords Go.Proofs.YtjcpapjochlndaaW.PrintLast Go.Proofs.YtjcpapjochlndaaW.PrintMore
attribute [local go_sem] max2_int min2_int max_two min_two max_three min_three max_four min_four   -- for this text's walks alone
set_option linter.unusedVariables false
set_option linter.unusedSimpArgs false

/-! ### laws_FnUnits: function 3 -/
def laws_FnUnits.j0 : Nat → List ByteArray → List Int → ByteArray → Bool → Option (Bool)
  | 0, _, _, _, _ => none
  | k + 1, x3, x4, x5, x66 => if x66 = true then (some false) else (if (x3.length : Int) = 0 then (some (x5.toList == ([] : List UInt8))) else (if 2 < (x4.length : Int) then ((some (([] : List ByteArray) : List ByteArray)).bind fun y309 => (if 0 ≤ (Int.tmod (rd x4 2) (x3.length : Int)) then (if (Int.tmod (rd x4 2) (x3.length : Int)) ≤ (x3.length : Int) then ((some (x3.take ((Int.tmod (rd x4 2) (x3.length : Int)) : Int).toNat : List ByteArray)).bind fun y312 => (if y309.length + y312.length < 8796093022208 then ((some (y309 ++ y312 : List ByteArray)).bind fun y316 => (if 0 ≤ (wrap64 ((Int.tmod (rd x4 2) (x3.length : Int)) + 1)) then (if (wrap64 ((Int.tmod (rd x4 2) (x3.length : Int)) + 1)) ≤ (x3.length : Int) then ((some (x3.drop ((wrap64 ((Int.tmod (rd x4 2) (x3.length : Int)) + 1)) : Int).toNat : List ByteArray)).bind fun y319 => (if y316.length + y319.length < 8796093022208 then ((some (y316 ++ y319 : List ByteArray)).bind fun y323 => ((some (([] : List ByteArray) : List ByteArray)).bind fun y326 => (if y326.length + y323.length < 8796093022208 then ((impl_Framed.f k (y326 ++ y323)).bind fun bt332 => (if bt332.2 = true then (if (bt332.1.size : Int) < (x5.size : Int) then ((impl_UnitsIn.f k bt332.1).bind fun t334 => ((laws_sameTexts.f k t334 y323).bind fun t337 => (some t337))) else (some false)) else (some false))) else (none)))) else (none))) else (none)) else (none))) else (none))) else (none)) else (none))) else (none)))
def laws_FnUnits.f (k : Nat) (l0 : List Int) : Option (Bool) := (laws_big.f l0).bind fun t279 => (if t279 = true then (some true) else ((spec_DrawUnits.f k l0).bind fun t280 => ((spec_DrawPlaces.f k l0).bind fun t283 => ((some (([] : List ByteArray) : List ByteArray)).bind fun y286 => (if y286.length + t280.length < 8796093022208 then ((impl_Framed.f k (y286 ++ t280)).bind fun bt292 => ((impl_Unframed.f k bt292.1).bind fun bt294 => (if 0 < (t283.length : Int) then (if 1 < (t283.length : Int) then ((some (([(wrap64 (1 + (Int.tmod (rd t283 0) 255))) % 256, (wrap64 (1 + (Int.tmod (rd t283 1) 255))) % 256] : List Int) : List Int)).bind fun y300 => (if bt292.2 = true then (if bt294.2 = true then ((laws_sameTexts.f k bt294.1 t280).bind fun t303 => (if t303 = true then (if (strOfNums y300).size + bt292.1.size ≤ 9223372036854775807 then ((impl_UnitsIn.f k ((strOfNums y300) ++ bt292.1)).bind fun t304 => ((laws_sameTexts.f k t304 t280).bind fun t307 => (laws_FnUnits.j0 k t280 t283 bt292.1 (!t307)))) else (none)) else (laws_FnUnits.j0 k t280 t283 bt292.1 true))) else (laws_FnUnits.j0 k t280 t283 bt292.1 true)) else (laws_FnUnits.j0 k t280 t283 bt292.1 true))) else (none)) else (none)))) else (none))))))
theorem laws_FnUnits.mono_l : ∀ k, (∀ y0 y1 y2 y3, LeO (laws_FnUnits.j0 k y0 y1 y2 y3) (laws_FnUnits.j0 (k + 1) y0 y1 y2 y3))
  | 0 => fun _ _ _ _ r h => by simp [laws_FnUnits.j0] at h
  | k + 1 => by
    have ih0 := laws_FnUnits.mono_l k
    · intro y0 y1 y2 y3
      unfold laws_FnUnits.j0
      repeat' first
      | (with_reducible exact ih0 _ _ _ _)
      | (with_reducible exact impl_Framed.mono _ _)
      | (with_reducible exact impl_Unframed.mono _ _)
      | (with_reducible exact impl_UnitsIn.mono _ _)
      | (with_reducible exact laws_sameTexts.mono _ _ _)
      | (with_reducible exact spec_DrawPlaces.mono _ _)
      | (with_reducible exact spec_DrawUnits.mono _ _)
      | (with_reducible exact LeO.refl _)
      | (with_reducible exact LeO.none _)
      | (with_reducible refine LeO.ite ?_ ?_)
      | (with_reducible refine LeO.bind ?_ (fun _ => ?_))
      | exact ih0 _ _ _ _
      | exact impl_Framed.mono _ _
      | exact impl_Unframed.mono _ _
      | exact impl_UnitsIn.mono _ _
      | exact laws_sameTexts.mono _ _ _
      | exact spec_DrawPlaces.mono _ _
      | exact spec_DrawUnits.mono _ _
      | exact LeO.none _
      | refine LeO.ite ?_ ?_
      | refine LeO.bind ?_ (fun _ => ?_)
theorem laws_FnUnits.mono : ∀ a0 k, LeO (laws_FnUnits.f k a0) (laws_FnUnits.f (k + 1) a0) := by
  intro a0 k
  have ih0 := laws_FnUnits.mono_l k
  unfold laws_FnUnits.f
  repeat' first
      | (with_reducible exact ih0 _ _ _ _)
      | (with_reducible exact impl_Framed.mono _ _)
      | (with_reducible exact impl_Unframed.mono _ _)
      | (with_reducible exact impl_UnitsIn.mono _ _)
      | (with_reducible exact laws_sameTexts.mono _ _ _)
      | (with_reducible exact spec_DrawPlaces.mono _ _)
      | (with_reducible exact spec_DrawUnits.mono _ _)
      | (with_reducible exact LeO.refl _)
      | (with_reducible exact LeO.none _)
      | (with_reducible refine LeO.ite ?_ ?_)
      | (with_reducible refine LeO.bind ?_ (fun _ => ?_))
      | exact ih0 _ _ _ _
      | exact impl_Framed.mono _ _
      | exact impl_Unframed.mono _ _
      | exact impl_UnitsIn.mono _ _
      | exact laws_sameTexts.mono _ _ _
      | exact spec_DrawPlaces.mono _ _
      | exact spec_DrawUnits.mono _ _
      | exact LeO.none _
      | refine LeO.ite ?_ ?_
      | refine LeO.bind ?_ (fun _ => ?_)
def laws_FnUnits.T7 : Bool × List (List Nat × List Nat) := (true, [([], []), ([0], [0]), ([1], [1]), ([2], [2]), ([3], [3]), ([4], [4]), ([], []), ([6], [6]), ([7], [7]), ([8], [8]), ([9], [9]), ([10], [10]), ([5, 11], [5, 11]), ([12], [12]), ([13, 0, 1, 2, 3, 4, 5, 6, 7, 8, 9, 10, 11, 12, 13], [13])])
def laws_FnUnits.B7 : List Nat := [0, 1, 3, 7, 15, 31, 0, 64, 192, 448, 960, 1984, 4095, 8191, 16383]
theorem laws_FnUnits.tab7 : rtab .any (opsOf Try.f3 7) = laws_FnUnits.T7 := by kernel_rfl
theorem laws_FnUnits.bits7 : waitsOk laws_FnUnits.T7.2 laws_FnUnits.B7 = true := by kernel_rfl
def laws_FnUnits.T13 : Bool × List (List Nat × List Nat) := (true, [([], []), ([], []), ([], []), ([1, 2], [1, 2]), ([0, 3], [0, 3]), ([], []), ([], []), ([6], [6]), ([5, 7], [5, 7]), ([4, 8, 4], [4, 8]), ([9, 9, 0, 1, 2, 3, 4, 5, 6, 7, 8, 9], [9])])
def laws_FnUnits.B13 : List Nat := [0, 0, 0, 6, 15, 0, 0, 64, 224, 511, 1023]
theorem laws_FnUnits.tab13 : rtab .any (opsOf Try.f3 13) = laws_FnUnits.T13 := by kernel_rfl
theorem laws_FnUnits.bits13 : waitsOk laws_FnUnits.T13.2 laws_FnUnits.B13 = true := by kernel_rfl
set_option maxHeartbeats 8000000 in
set_option maxRecDepth 100000 in
theorem laws_FnUnits.calls (k : Nat) (A0 : Option Addr) (c0 : Nat) (l0 : List Int) (r : Bool) (w : World) (hr0 : Kd.C (Kd.int .u8) w A0 l0.length l0) (hc0 : l0.length ≤ c0) (h : laws_FnUnits.f k l0 = some r) (hr_ : Aside0 (r = true)) :
    Calls Try.prog 3 #[.slice A0 l0.length c0] w fun e w' => e = .returned (.bool r) ∧ Below w.heap.size w w' := by
  have HR0 := Aside0.mk hr0
  have HC0 := Aside0.mk hc0
  clear hr0 hc0
  have HB := Aside0.mk (Below.refl w.heap.size w)
  have H : ((laws_big.f l0).bind fun t279 => (if t279 = true then (some true) else ((spec_DrawUnits.f k l0).bind fun t280 => ((spec_DrawPlaces.f k l0).bind fun t283 => ((some (([] : List ByteArray) : List ByteArray)).bind fun y286 => (if y286.length + t280.length < 8796093022208 then ((impl_Framed.f k (y286 ++ t280)).bind fun bt292 => ((impl_Unframed.f k bt292.1).bind fun bt294 => (if 0 < (t283.length : Int) then (if 1 < (t283.length : Int) then ((some (([(wrap64 (1 + (Int.tmod (rd t283 0) 255))) % 256, (wrap64 (1 + (Int.tmod (rd t283 1) 255))) % 256] : List Int) : List Int)).bind fun y300 => (if bt292.2 = true then (if bt294.2 = true then ((laws_sameTexts.f k bt294.1 t280).bind fun t303 => (if t303 = true then (if (strOfNums y300).size + bt292.1.size ≤ 9223372036854775807 then ((impl_UnitsIn.f k ((strOfNums y300) ++ bt292.1)).bind fun t304 => ((laws_sameTexts.f k t304 t280).bind fun t307 => (laws_FnUnits.j0 k t280 t283 bt292.1 (!t307)))) else (none)) else (laws_FnUnits.j0 k t280 t283 bt292.1 true))) else (laws_FnUnits.j0 k t280 t283 bt292.1 true)) else (laws_FnUnits.j0 k t280 t283 bt292.1 true))) else (none)) else (none)))) else (none))))))) = some r := h
  clear h
  replace H := Option.bind_eq_some_iff.mp H
  obtain ⟨t279, A20, H⟩ := H
  replace H : (if t279 = true then (some true) else ((spec_DrawUnits.f k l0).bind fun t280 => ((spec_DrawPlaces.f k l0).bind fun t283 => ((some (([] : List ByteArray) : List ByteArray)).bind fun y286 => (if y286.length + t280.length < 8796093022208 then ((impl_Framed.f k (y286 ++ t280)).bind fun bt292 => ((impl_Unframed.f k bt292.1).bind fun bt294 => (if 0 < (t283.length : Int) then (if 1 < (t283.length : Int) then ((some (([(wrap64 (1 + (Int.tmod (rd t283 0) 255))) % 256, (wrap64 (1 + (Int.tmod (rd t283 1) 255))) % 256] : List Int) : List Int)).bind fun y300 => (if bt292.2 = true then (if bt294.2 = true then ((laws_sameTexts.f k bt294.1 t280).bind fun t303 => (if t303 = true then (if (strOfNums y300).size + bt292.1.size ≤ 9223372036854775807 then ((impl_UnitsIn.f k ((strOfNums y300) ++ bt292.1)).bind fun t304 => ((laws_sameTexts.f k t304 t280).bind fun t307 => (laws_FnUnits.j0 k t280 t283 bt292.1 (!t307)))) else (none)) else (laws_FnUnits.j0 k t280 t283 bt292.1 true))) else (laws_FnUnits.j0 k t280 t283 bt292.1 true)) else (laws_FnUnits.j0 k t280 t283 bt292.1 true))) else (none)) else (none)))) else (none)))))) = some r := H
  have A2 := Aside0.mk A20
  clear A20
  by_cases c3 : t279 = true
  · subst c3
    have H1 : (some true) = some r := by rw [if_pos rfl] at H; exact H
    clear H
    have H := H1
    clear H1
    obtain rfl := Option.some.inj H
    go_enter Try.func3, Try.ntmps3
    go_wp2_with (first | ((with_reducible refine gate_callee (f := 9) rfl ?_); refine goesL_ (some 15) rfl rfl Try.func9 (by kernel_rfl) rfl #[.slice A0 l0.length c0] rfl (by (try simp only [List.map_toArray, List.map_cons, List.map_nil]); first | done | rfl | (simp only [List.length_drop, List.length_take]; rfl)) ?_; (with_reducible refine (laws_big.calls _ _ l0 true _ ?side1 ?side2 A2.out).mono ?_); (case side1 => repeat (first | exact HR0.out | (with_reducible refine Kd.C_alloc ?_ _) | (with_reducible refine Kd.C_drewN ?_ _) | (with_reducible refine Kd.C_drew ?_))); (case side2 => exact HC0.out); rintro e w' ⟨rfl, ⟨nd, rfl⟩⟩; refine ⟨_, rfl, ?_⟩))
    go_ret
    exact ⟨by first | rfl | (simp [errW_none, errW_some] <;> rfl) | (simp [*, errW_none, errW_some] <;> rfl), by repeat (first | (with_reducible first | exact HB.out | apply below_alloc | apply pw_below_drewN | apply below_drew1) | exact HB.out)⟩
  · replace c3 := Bool.eq_false_iff.mpr c3
    subst c3
    have H1 : ((spec_DrawUnits.f k l0).bind fun t280 => ((spec_DrawPlaces.f k l0).bind fun t283 => ((some (([] : List ByteArray) : List ByteArray)).bind fun y286 => (if y286.length + t280.length < 8796093022208 then ((impl_Framed.f k (y286 ++ t280)).bind fun bt292 => ((impl_Unframed.f k bt292.1).bind fun bt294 => (if 0 < (t283.length : Int) then (if 1 < (t283.length : Int) then ((some (([(wrap64 (1 + (Int.tmod (rd t283 0) 255))) % 256, (wrap64 (1 + (Int.tmod (rd t283 1) 255))) % 256] : List Int) : List Int)).bind fun y300 => (if bt292.2 = true then (if bt294.2 = true then ((laws_sameTexts.f k bt294.1 t280).bind fun t303 => (if t303 = true then (if (strOfNums y300).size + bt292.1.size ≤ 9223372036854775807 then ((impl_UnitsIn.f k ((strOfNums y300) ++ bt292.1)).bind fun t304 => ((laws_sameTexts.f k t304 t280).bind fun t307 => (laws_FnUnits.j0 k t280 t283 bt292.1 (!t307)))) else (none)) else (laws_FnUnits.j0 k t280 t283 bt292.1 true))) else (laws_FnUnits.j0 k t280 t283 bt292.1 true)) else (laws_FnUnits.j0 k t280 t283 bt292.1 true))) else (none)) else (none)))) else (none))))) = some r := by rw [if_neg (show ¬ (false = true) by decide)] at H; exact H
    clear H
    have H := H1
    clear H1
    replace H := Option.bind_eq_some_iff.mp H
    obtain ⟨t280, A40, H⟩ := H
    replace H : ((spec_DrawPlaces.f k l0).bind fun t283 => ((some (([] : List ByteArray) : List ByteArray)).bind fun y286 => (if y286.length + t280.length < 8796093022208 then ((impl_Framed.f k (y286 ++ t280)).bind fun bt292 => ((impl_Unframed.f k bt292.1).bind fun bt294 => (if 0 < (t283.length : Int) then (if 1 < (t283.length : Int) then ((some (([(wrap64 (1 + (Int.tmod (rd t283 0) 255))) % 256, (wrap64 (1 + (Int.tmod (rd t283 1) 255))) % 256] : List Int) : List Int)).bind fun y300 => (if bt292.2 = true then (if bt294.2 = true then ((laws_sameTexts.f k bt294.1 t280).bind fun t303 => (if t303 = true then (if (strOfNums y300).size + bt292.1.size ≤ 9223372036854775807 then ((impl_UnitsIn.f k ((strOfNums y300) ++ bt292.1)).bind fun t304 => ((laws_sameTexts.f k t304 t280).bind fun t307 => (laws_FnUnits.j0 k t280 t283 bt292.1 (!t307)))) else (none)) else (laws_FnUnits.j0 k t280 t283 bt292.1 true))) else (laws_FnUnits.j0 k t280 t283 bt292.1 true)) else (laws_FnUnits.j0 k t280 t283 bt292.1 true))) else (none)) else (none)))) else (none)))) = some r := H
    have A4 := Aside0.mk A40
    clear A40
    replace H := Option.bind_eq_some_iff.mp H
    obtain ⟨t283, A50, H⟩ := H
    replace H : ((some (([] : List ByteArray) : List ByteArray)).bind fun y286 => (if y286.length + t280.length < 8796093022208 then ((impl_Framed.f k (y286 ++ t280)).bind fun bt292 => ((impl_Unframed.f k bt292.1).bind fun bt294 => (if 0 < (t283.length : Int) then (if 1 < (t283.length : Int) then ((some (([(wrap64 (1 + (Int.tmod (rd t283 0) 255))) % 256, (wrap64 (1 + (Int.tmod (rd t283 1) 255))) % 256] : List Int) : List Int)).bind fun y300 => (if bt292.2 = true then (if bt294.2 = true then ((laws_sameTexts.f k bt294.1 t280).bind fun t303 => (if t303 = true then (if (strOfNums y300).size + bt292.1.size ≤ 9223372036854775807 then ((impl_UnitsIn.f k ((strOfNums y300) ++ bt292.1)).bind fun t304 => ((laws_sameTexts.f k t304 t280).bind fun t307 => (laws_FnUnits.j0 k t280 t283 bt292.1 (!t307)))) else (none)) else (laws_FnUnits.j0 k t280 t283 bt292.1 true))) else (laws_FnUnits.j0 k t280 t283 bt292.1 true)) else (laws_FnUnits.j0 k t280 t283 bt292.1 true))) else (none)) else (none)))) else (none))) = some r := H
    have A5 := Aside0.mk A50
    clear A50
    obtain ⟨y286, hy286⟩ : ∃ y_ : List ByteArray, y_ = (([] : List ByteArray)) := ⟨_, rfl⟩
    replace H : (if y286.length + t280.length < 8796093022208 then ((impl_Framed.f k (y286 ++ t280)).bind fun bt292 => ((impl_Unframed.f k bt292.1).bind fun bt294 => (if 0 < (t283.length : Int) then (if 1 < (t283.length : Int) then ((some (([(wrap64 (1 + (Int.tmod (rd t283 0) 255))) % 256, (wrap64 (1 + (Int.tmod (rd t283 1) 255))) % 256] : List Int) : List Int)).bind fun y300 => (if bt292.2 = true then (if bt294.2 = true then ((laws_sameTexts.f k bt294.1 t280).bind fun t303 => (if t303 = true then (if (strOfNums y300).size + bt292.1.size ≤ 9223372036854775807 then ((impl_UnitsIn.f k ((strOfNums y300) ++ bt292.1)).bind fun t304 => ((laws_sameTexts.f k t304 t280).bind fun t307 => (laws_FnUnits.j0 k t280 t283 bt292.1 (!t307)))) else (none)) else (laws_FnUnits.j0 k t280 t283 bt292.1 true))) else (laws_FnUnits.j0 k t280 t283 bt292.1 true)) else (laws_FnUnits.j0 k t280 t283 bt292.1 true))) else (none)) else (none)))) else (none)) = some r := by first | (rw [hy286]; with_reducible exact H) | (have H2_ := (Option.bind_some _ _).symm.trans H; rw [hy286]; with_reducible exact H2_) | (have H2_ := (Option.bind_some _ _).symm.trans H; with_reducible exact H2_) | with_reducible exact H | (rw [hy286]; exact H) | exact H
    have Ny286 := Aside0.mk hy286
    clear hy286
    by_cases c6 : y286.length + t280.length < 8796093022208
    · rw [if_pos c6] at H
      have LMc6 := Aside0.mk c6
      clear c6
      obtain ⟨y289, hy289⟩ : ∃ y_ : List ByteArray, y_ = (y286 ++ t280) := ⟨_, rfl⟩
      replace H : ((impl_Framed.f k y289).bind fun bt292 => ((impl_Unframed.f k bt292.1).bind fun bt294 => (if 0 < (t283.length : Int) then (if 1 < (t283.length : Int) then ((some (([(wrap64 (1 + (Int.tmod (rd t283 0) 255))) % 256, (wrap64 (1 + (Int.tmod (rd t283 1) 255))) % 256] : List Int) : List Int)).bind fun y300 => (if bt292.2 = true then (if bt294.2 = true then ((laws_sameTexts.f k bt294.1 t280).bind fun t303 => (if t303 = true then (if (strOfNums y300).size + bt292.1.size ≤ 9223372036854775807 then ((impl_UnitsIn.f k ((strOfNums y300) ++ bt292.1)).bind fun t304 => ((laws_sameTexts.f k t304 t280).bind fun t307 => (laws_FnUnits.j0 k t280 t283 bt292.1 (!t307)))) else (none)) else (laws_FnUnits.j0 k t280 t283 bt292.1 true))) else (laws_FnUnits.j0 k t280 t283 bt292.1 true)) else (laws_FnUnits.j0 k t280 t283 bt292.1 true))) else (none)) else (none)))) = some r := by first | (rw [hy289]; with_reducible exact H) | (have H2_ := (Option.bind_some _ _).symm.trans H; rw [hy289]; with_reducible exact H2_) | (have H2_ := (Option.bind_some _ _).symm.trans H; with_reducible exact H2_) | with_reducible exact H | (rw [hy289]; exact H) | exact H
      have Ny289 := Aside0.mk hy289
      clear hy289
      replace H := Option.bind_eq_some_iff.mp H
      obtain ⟨⟨t292, t293⟩, A70, H⟩ := H
      replace H : ((impl_Unframed.f k t292).bind fun bt294 => (if 0 < (t283.length : Int) then (if 1 < (t283.length : Int) then ((some (([(wrap64 (1 + (Int.tmod (rd t283 0) 255))) % 256, (wrap64 (1 + (Int.tmod (rd t283 1) 255))) % 256] : List Int) : List Int)).bind fun y300 => (if t293 = true then (if bt294.2 = true then ((laws_sameTexts.f k bt294.1 t280).bind fun t303 => (if t303 = true then (if (strOfNums y300).size + t292.size ≤ 9223372036854775807 then ((impl_UnitsIn.f k ((strOfNums y300) ++ t292)).bind fun t304 => ((laws_sameTexts.f k t304 t280).bind fun t307 => (laws_FnUnits.j0 k t280 t283 t292 (!t307)))) else (none)) else (laws_FnUnits.j0 k t280 t283 t292 true))) else (laws_FnUnits.j0 k t280 t283 t292 true)) else (laws_FnUnits.j0 k t280 t283 t292 true))) else (none)) else (none))) = some r := H
      have A7 := Aside0.mk A70
      clear A70
      replace H := Option.bind_eq_some_iff.mp H
      obtain ⟨⟨t294, t295⟩, A80, H⟩ := H
      replace H : (if 0 < (t283.length : Int) then (if 1 < (t283.length : Int) then ((some (([(wrap64 (1 + (Int.tmod (rd t283 0) 255))) % 256, (wrap64 (1 + (Int.tmod (rd t283 1) 255))) % 256] : List Int) : List Int)).bind fun y300 => (if t293 = true then (if t295 = true then ((laws_sameTexts.f k t294 t280).bind fun t303 => (if t303 = true then (if (strOfNums y300).size + t292.size ≤ 9223372036854775807 then ((impl_UnitsIn.f k ((strOfNums y300) ++ t292)).bind fun t304 => ((laws_sameTexts.f k t304 t280).bind fun t307 => (laws_FnUnits.j0 k t280 t283 t292 (!t307)))) else (none)) else (laws_FnUnits.j0 k t280 t283 t292 true))) else (laws_FnUnits.j0 k t280 t283 t292 true)) else (laws_FnUnits.j0 k t280 t283 t292 true))) else (none)) else (none)) = some r := H
      have A8 := Aside0.mk A80
      clear A80
      by_cases c9 : 0 < (t283.length : Int)
      · rw [if_pos c9] at H
        have c9b0 : decide (0 < (t283.length : Int)) = true := decide_eq_true c9
        have c9b1 : decide (0 < t283.length) = true := decide_eq_true (by omega)
        clear c9
        by_cases c10 : 1 < (t283.length : Int)
        · rw [if_pos c10] at H
          have c10b0 : decide (1 < (t283.length : Int)) = true := decide_eq_true c10
          have c10b1 : decide (1 < t283.length) = true := decide_eq_true (by omega)
          clear c10
          obtain ⟨y300, hy300⟩ : ∃ y_ : List Int, y_ = (([(wrap64 (1 + (Int.tmod (rd t283 0) 255))) % 256, (wrap64 (1 + (Int.tmod (rd t283 1) 255))) % 256] : List Int)) := ⟨_, rfl⟩
          replace H : (if t293 = true then (if t295 = true then ((laws_sameTexts.f k t294 t280).bind fun t303 => (if t303 = true then (if (strOfNums y300).size + t292.size ≤ 9223372036854775807 then ((impl_UnitsIn.f k ((strOfNums y300) ++ t292)).bind fun t304 => ((laws_sameTexts.f k t304 t280).bind fun t307 => (laws_FnUnits.j0 k t280 t283 t292 (!t307)))) else (none)) else (laws_FnUnits.j0 k t280 t283 t292 true))) else (laws_FnUnits.j0 k t280 t283 t292 true)) else (laws_FnUnits.j0 k t280 t283 t292 true)) = some r := by first | (rw [hy300]; with_reducible exact H) | (have H2_ := (Option.bind_some _ _).symm.trans H; rw [hy300]; with_reducible exact H2_) | (have H2_ := (Option.bind_some _ _).symm.trans H; with_reducible exact H2_) | with_reducible exact H | (rw [hy300]; exact H) | exact H
          have Ny300 := Aside0.mk hy300
          clear hy300
          have HC11 := Aside0.mk H
          clear H
          go_enter Try.func3, Try.ntmps3
          try go_wp2_with (first | ((with_reducible refine gate_callee (f := 9) rfl ?_); refine goesL_ (some 15) rfl rfl Try.func9 (by kernel_rfl) rfl #[.slice A0 l0.length c0] rfl (by (try simp only [List.map_toArray, List.map_cons, List.map_nil]); first | done | rfl | (simp only [List.length_drop, List.length_take]; rfl)) ?_; (with_reducible refine (laws_big.calls _ _ l0 false _ ?side1 ?side2 A2.out).mono ?_); (case side1 => repeat (first | exact HR0.out | (with_reducible refine Kd.C_alloc ?_ _) | (with_reducible refine Kd.C_drewN ?_ _) | (with_reducible refine Kd.C_drew ?_))); (case side2 => exact HC0.out); rintro e w' ⟨rfl, ⟨nd, rfl⟩⟩; refine ⟨_, rfl, ?_⟩) | ((with_reducible refine gate_callee (f := 10) rfl ?_); refine goesL_ (some 17) rfl rfl Try.func10 (by kernel_rfl) rfl #[.slice A0 l0.length c0] rfl (by (try simp only [List.map_toArray, List.map_cons, List.map_nil]); first | done | rfl | (simp only [List.length_drop, List.length_take]; rfl)) ?_; (with_reducible refine (spec_DrawUnits.calls k _ _ l0 t280 _ ?side1 ?side2 A4.out).mono ?_); (case side1 => repeat (first | exact HR0.out | (with_reducible refine Kd.C_alloc ?_ _) | (with_reducible refine Kd.C_drewN ?_ _) | (with_reducible refine Kd.C_drew ?_))); (case side2 => exact HC0.out); rintro e w12 ⟨v281, rfl, ho0, hb⟩; refine ⟨_, rfl, ?_⟩; have n0_ := Aside0.mk (Kd.R_lower ho0 (below_size (by repeat (first | (with_reducible first | exact HB.out | apply below_alloc | apply pw_below_drewN | apply below_drew1) | exact HB.out)))); have n1_ := Aside0.mk (below_step (by repeat (first | (with_reducible first | exact HB.out | apply below_alloc | apply pw_below_drewN | apply below_drew1) | exact HB.out)) hb); clear HB; have HO282 := n0_; have HB := n1_; clear n0_ n1_; (try clear hb); (try clear hb2); (try clear hk); (try clear hi); (try clear ho0)) | ((with_reducible refine gate_callee (f := 11) rfl ?_); refine goesL_ (some 19) rfl rfl Try.func11 (by kernel_rfl) rfl #[.slice A0 l0.length c0] rfl (by (try simp only [List.map_toArray, List.map_cons, List.map_nil]); first | done | rfl | (simp only [List.length_drop, List.length_take]; rfl)) ?_; (with_reducible refine (spec_DrawPlaces.calls k _ _ l0 t283 _ ?side1 ?side2 A5.out).mono ?_); (case side1 => repeat (first | exact (Kd.C_below HR0.out HB.out) | (with_reducible refine Kd.C_alloc ?_ _) | (with_reducible refine Kd.C_drewN ?_ _) | (with_reducible refine Kd.C_drew ?_))); (case side2 => exact HC0.out); rintro e w13 ⟨v284, rfl, ho0, hb⟩; refine ⟨_, rfl, ?_⟩; have n0_ := Aside0.mk (Kd.R_below (by (with_reducible repeat (first | apply Kd.R_alloc | apply Kd.R_drewN | apply Kd.R_drew)); exact HO282.out) hb); have n1_ := Aside0.mk (Kd.R_lower ho0 (below_size (by repeat (first | (with_reducible first | exact HB.out | apply below_alloc | apply pw_below_drewN | apply below_drew1) | exact HB.out)))); have n2_ := Aside0.mk (below_step (by repeat (first | (with_reducible first | exact HB.out | apply below_alloc | apply pw_below_drewN | apply below_drew1) | exact HB.out)) hb); clear HO282; clear HB; have HO282 := n0_; have HO285 := n1_; have HB := n2_; clear n0_ n1_ n2_; (try clear hb); (try clear hb2); (try clear hk); (try clear hi); (try clear ho0)) | ((with_reducible refine gate_dst (N := 21) rfl ?_); (try (refine gate_guard (by rfl) ?_; dsimp only)); refine Kd.R_lit Kd.string _ 9 ?hg (N := 21) ?hd (xs := ([] : List ByteArray)) (inner := []) (ok := fun _ => True) (okp := fun _ => True) ?hr ?hp (fun _ hk => hk) trivial (Below.refl _ _) (Nat.le_refl _) (by simp) ?_; (case hd => rfl); (case hg => rfl); (case hr => first | (go_simp; done) | (go_simp; rfl)); (case hp => exact (Reps.none _ _)); intro v287 w14 ho15 hb hg_ hnew_; clear hg_ hnew_; (first | rw [← Ny286.out] at ho15 | (simp only [Int.reduceToNat] at ho15; rw [← Ny286.out] at ho15)); have n0_ := Aside0.mk (Kd.R_elder' (by (with_reducible repeat (first | apply Kd.R_alloc | apply Kd.R_drewN | apply Kd.R_drew)); exact HO282.out) (Kd.R_base ho15) hb); have n1_ := Aside0.mk (Kd.R_below (by (with_reducible repeat (first | apply Kd.R_alloc | apply Kd.R_drewN | apply Kd.R_drew)); exact HO285.out) hb); have n2_ := Aside0.mk (Kd.R_lower (Kd.R_new' ho15 (Kd.R_lt (by (with_reducible repeat (first | apply Kd.R_alloc | apply Kd.R_drewN | apply Kd.R_drew)); exact HO282.out))) (below_size (by repeat (first | (with_reducible first | exact HB.out | apply below_alloc | apply pw_below_drewN | apply below_drew1) | exact HB.out)))); have n3_ := Aside0.mk (below_step (by repeat (first | (with_reducible first | exact HB.out | apply below_alloc | apply pw_below_drewN | apply below_drew1) | exact HB.out)) hb); clear HO282; clear HO285; clear HB; have HO282 := n0_; have HO285 := n1_; have HO288 := n2_; have HB := n3_; clear n0_ n1_ n2_ n3_; clear hb ho15; obtain ⟨Ao17, co17, eo17⟩ := Kd.R_slice HO282.out; subst eo17) | ((with_reducible refine gate_builtin (b := .append) (xs := #[.tmp 21, .tmp 22]) rfl ?_); (try (refine gate_guard (by rfl) ?_; dsimp only)); at_builtin; refine Kd.R_append_rows Kd.string (w0 := w) w.heap.size rfl (.tmp 21) (.tmp 22) 24 9 (.string ⟨#[]⟩) 16 rfl Try.underlying24 info9 rfl (by decide) (by omega) v287 y286 t280 _ _ _ (fun k_ => some k_ ≠ (.slice Ao17 t280.length co17 : Value).ownBlock) (fun _ => False) rfl rfl ?aO ?aR (fun _ _ h => h) (fun _ h => h.elim) ?aF ?aB ?aS ?aL ?_; (case aR => repeat (first | exact (Kd.R_reads' HO282.out).2.2 | (with_reducible refine Kd.C_alloc ?_ _) | (with_reducible refine Kd.C_drewN ?_ _) | (with_reducible refine Kd.C_drew ?_))); (case aB => exact (by repeat (first | (with_reducible first | exact HB.out | apply below_alloc | apply pw_below_drewN | apply below_drew1) | exact HB.out))); (case aF => exact (fun k_ hk => Kd.fresh' (Kd.R_lt (by (with_reducible repeat (first | apply Kd.R_alloc | apply Kd.R_drewN | apply Kd.R_drew)); exact HO282.out)) k_ hk)); (case aO => exact (by (with_reducible repeat (first | apply Kd.R_alloc | apply Kd.R_drewN | apply Kd.R_drew)); exact Kd.R_mono HO288.out (fun _ hk => hk.2))); (case aS => exact (below_size (by repeat (first | (with_reducible first | exact HB.out | apply below_alloc | apply pw_below_drewN | apply below_drew1) | exact HB.out)))); (case aL => have := LMc6.out; omega); intro v290 w16 ho hb hg hat; rw [← Ny289.out] at ho; have n0_ := Aside0.mk (Kd.R_after (ok := (fun _ => True)) (by (with_reducible repeat (first | apply Kd.R_alloc | apply Kd.R_drewN | apply Kd.R_drew)); exact HO282.out) hg hat); have n1_ := Aside0.mk (Kd.R_over' (by (with_reducible repeat (first | apply Kd.R_alloc | apply Kd.R_drewN | apply Kd.R_drew)); exact HO285.out) (Kd.R_typed (by (with_reducible repeat (first | apply Kd.R_alloc | apply Kd.R_drewN | apply Kd.R_drew)); exact HO288.out)) (by decide) hg); have n2_ := Aside0.mk (hb); have n3_ := Aside0.mk (ho); clear HO282; clear HO285; clear HB; clear HO288; have HO282 := n0_; have HO285 := n1_; have HB := n2_; have HO291 := n3_; clear n0_ n1_ n2_ n3_; clear ho hb hg hat; obtain ⟨Ao18, co18, eo18⟩ := Kd.R_slice HO291.out; subst eo18) | ((with_reducible refine gate_callee (f := 12) rfl ?_); refine goesL_ (some 24) rfl rfl Try.func12 (by kernel_rfl) rfl #[.slice Ao18 y289.length co18] rfl (by (try simp only [List.map_toArray, List.map_cons, List.map_nil]); first | done | rfl | (simp only [List.length_drop, List.length_take]; rfl)) ?_; (with_reducible refine (impl_Framed.calls k _ _ y289 t292 t293 _ ?side1 ?side2 A7.out).mono ?_); (case side1 => repeat (first | exact (Kd.R_reads' HO291.out).2.2 | (with_reducible refine Kd.C_alloc ?_ _) | (with_reducible refine Kd.C_drewN ?_ _) | (with_reducible refine Kd.C_drew ?_))); (case side2 => exact (Kd.R_reads' HO291.out).2.1); rintro e w19 ⟨rfl, hb⟩; refine ⟨_, rfl, ?_⟩; have n0_ := Aside0.mk (Kd.R_below (by (with_reducible repeat (first | apply Kd.R_alloc | apply Kd.R_drewN | apply Kd.R_drew)); exact HO282.out) hb); have n1_ := Aside0.mk (Kd.R_below (by (with_reducible repeat (first | apply Kd.R_alloc | apply Kd.R_drewN | apply Kd.R_drew)); exact HO285.out) hb); have n2_ := Aside0.mk (Kd.R_below (by (with_reducible repeat (first | apply Kd.R_alloc | apply Kd.R_drewN | apply Kd.R_drew)); exact HO291.out) hb); have n3_ := Aside0.mk (below_step (by repeat (first | (with_reducible first | exact HB.out | apply below_alloc | apply pw_below_drewN | apply below_drew1) | exact HB.out)) hb); clear HO282; clear HO285; clear HO291; clear HB; have HO282 := n0_; have HO285 := n1_; have HO291 := n2_; have HB := n3_; clear n0_ n1_ n2_ n3_; (try clear hb); (try clear hb2); (try clear hk); (try clear hi)) | ((with_reducible refine gate_callee (f := 13) rfl ?_); refine goesL_ (some 29) rfl rfl Try.func13 (by kernel_rfl) rfl #[.string t292] rfl (by (try simp only [List.map_toArray, List.map_cons, List.map_nil]); first | done | rfl | (simp only [List.length_drop, List.length_take]; rfl)) ?_; (with_reducible refine (impl_Unframed.calls k t292 t294 t295 _ A8.out).mono ?_); rintro e w20 ⟨v296, rfl, ho0, hb⟩; refine ⟨_, rfl, ?_⟩; have n0_ := Aside0.mk (Kd.R_elder' (by (with_reducible repeat (first | apply Kd.R_alloc | apply Kd.R_drewN | apply Kd.R_drew)); exact HO282.out) (Kd.R_base ho0) hb); have n1_ := Aside0.mk (Kd.R_below (by (with_reducible repeat (first | apply Kd.R_alloc | apply Kd.R_drewN | apply Kd.R_drew)); exact HO285.out) hb); have n2_ := Aside0.mk (Kd.R_elder' (by (with_reducible repeat (first | apply Kd.R_alloc | apply Kd.R_drewN | apply Kd.R_drew)); exact HO291.out) (Kd.R_base ho0) hb); have n3_ := Aside0.mk (Kd.R_lower (Kd.R_new' (Kd.R_new' ho0 (Kd.R_lt (by (with_reducible repeat (first | apply Kd.R_alloc | apply Kd.R_drewN | apply Kd.R_drew)); exact HO282.out))) (Kd.R_lt (by (with_reducible repeat (first | apply Kd.R_alloc | apply Kd.R_drewN | apply Kd.R_drew)); exact HO291.out))) (below_size (by repeat (first | (with_reducible first | exact HB.out | apply below_alloc | apply pw_below_drewN | apply below_drew1) | exact HB.out)))); have n4_ := Aside0.mk (below_step (by repeat (first | (with_reducible first | exact HB.out | apply below_alloc | apply pw_below_drewN | apply below_drew1) | exact HB.out)) hb); clear HO282; clear HO285; clear HO291; clear HB; have HO282 := n0_; have HO285 := n1_; have HO291 := n2_; have HO297 := n3_; have HB := n4_; clear n0_ n1_ n2_ n3_ n4_; (try clear hb); (try clear hb2); (try clear hk); (try clear hi); (try clear ho0)))
          have n0_ := Aside0.mk (Kd.R_drew HO282.out)
          have n1_ := Aside0.mk (Kd.R_drew HO285.out)
          have n2_ := Aside0.mk (Kd.R_drew HO291.out)
          have n3_ := Aside0.mk (Kd.R_drew HO297.out)
          have n4_ := Aside0.mk (below_drew1 HB.out)
          clear HO282
          clear HO285
          clear HO291
          clear HO297
          clear HB
          have HO282 := n0_
          have HO285 := n1_
          have HO291 := n2_
          have HO297 := n3_
          have HB := n4_
          clear n0_ n1_ n2_ n3_ n4_
          obtain ⟨Ao22, co22, eo22⟩ := Kd.R_slice HO285.out
          (first | subst eo22 | (injection eo22 with f1_ f2_ f3_; have f4_ := f1_.symm; have f5_ := f3_.symm; clear f1_ f2_ f3_; subst f4_; subst f5_))
          have p298 : 0 ≤ (0 : Int) := (by omega)
          have q298 : 0 < (t283.length : Int) := of_decide_eq_true (by first | (with_reducible assumption) | assumption)
          obtain ⟨ad298, e298, hx298_0⟩ := Kd.at_int (Kd.R_reads' HO285.out).2.2 0 p298 q298
          cases e298
          have qi298 : (0 < t283.length) = True := eq_true (by omega)
          (try rw [show ((0 : Int)).toNat = 0 from rfl] at hx298_0)
          (try rw [Addr.add_zero'] at hx298_0)
          replace p298 := eq_true p298
          replace q298 := eq_true q298
          have p299 : 0 ≤ (1 : Int) := (by omega)
          have q299 : 1 < (t283.length : Int) := of_decide_eq_true (by first | (with_reducible assumption) | assumption)
          obtain ⟨ad299, e299, hx299_0⟩ := Kd.at_int (Kd.R_reads' HO285.out).2.2 1 p299 q299
          obtain rfl : ad298 = ad299 := (by injection e299)
          (try simp only [show (1 : Int).toNat = 1 from rfl, Nat.reduceMul, Nat.reduceEqDiff, Go.Addr.add, ↓reduceIte] at hx299_0)
          have qi299 : (1 < t283.length) = True := eq_true (by omega)
          (try rw [show ((1 : Int)).toNat = 1 from rfl] at hx299_0)
          replace p299 := eq_true p299
          replace q299 := eq_true q299
          refine start_ (n := 15) (S := fun w' => w'.cell? ad298 = some (.int .i64 (rd t283 0)) ∧ w'.cell? ⟨ad298.block, ad298.off + 1, none⟩ = some (.int .i64 (rd t283 1))) (ds := [13]) #[false, false, false, false, false, false, false, false, false, false, false, false, false, false, false] (by kernel_rfl) rfl rfl ⟨hx298_0, hx299_0⟩ (fun hHeld => ?_); refine with_tabW laws_FnUnits.tab7 laws_FnUnits.bits7 (fun HT_ HW_ => ?_)
          generalize w20.drew = w21 at HO282 HO285 HO291 HO297 HB hx298_0 hx299_0 hHeld ⊢
          refine pure_ (i := 0) (N := some 32) (v := ?_) (a' := ?_) #[true, false, false, false, false, false, false, false, false, false, false, false, false, false, false] rfl rfl (any_of HT_.out (by kernel_rfl)) (fun _ _ _ h => h) (Or.inl ⟨by rfl, ?_⟩) ?_ ?_
          rotate_left
          · intro w'
            go_simp
            with_reducible rfl
          rotate_left
          · simp only [Act.put, List.setIfInBounds_toArray, List.set_cons_zero, List.set_cons_succ, i64_w, i32_w]
            rfl
          refine pure_ (i := 1) (N := some 33) (v := ?_) (a' := ?_) #[true, true, false, false, false, false, false, false, false, false, false, false, false, false, false] rfl rfl (any_of HT_.out (by kernel_rfl)) (fun _ _ _ h => h) (Or.inl ⟨by rfl, ?_⟩) ?_ ?_
          rotate_left
          · intro w'
            go_simp
            with_reducible rfl
          rotate_left
          · simp only [Act.put, List.setIfInBounds_toArray, List.set_cons_zero, List.set_cons_succ, i64_w, i32_w]
            rfl
          refine pure_ (i := 6) (N := some 38) (v := ?_) (a' := ?_) #[true, true, false, false, false, false, true, false, false, false, false, false, false, false, false] rfl rfl (any_of HT_.out (by kernel_rfl)) (fun _ _ _ h => h) (Or.inl ⟨by rfl, ?_⟩) ?_ ?_
          rotate_left
          · intro w'
            go_simp
            with_reducible rfl
          rotate_left
          · simp only [Act.put, List.setIfInBounds_toArray, List.set_cons_zero, List.set_cons_succ, i64_w, i32_w]
            rfl
          refine pure_ (i := 7) (N := some 39) (v := ?_) (a' := ?_) #[true, true, false, false, false, false, true, true, false, false, false, false, false, false, false] rfl rfl (any_of HT_.out (by kernel_rfl)) (fun _ _ _ h => h) (Or.inl ⟨by rfl, ?_⟩) ?_ ?_
          rotate_left
          · intro w'
            go_simp
            with_reducible rfl
          rotate_left
          · simp only [Act.put, List.setIfInBounds_toArray, List.set_cons_zero, List.set_cons_succ, i64_w, i32_w]
            rfl
          refine take_ (i := 2) (N := some 34) (v := ?_) (a' := ?_) #[true, true, true, false, false, false, true, true, false, false, false, false, false, false, false] rfl rfl (take_ofW HT_.out HW_.out (by kernel_rfl)) (fun _ _ _ h => h) (Or.inl ⟨by rfl, ?_⟩) hHeld ?_ ?_
          rotate_left
          · rintro w' ⟨s0, s1⟩
            go_simp
            with_reducible rfl
          rotate_left
          · simp only [Act.put, List.setIfInBounds_toArray, List.set_cons_zero, List.set_cons_succ, i64_w, i32_w]
            rfl
          refine pure_ (i := 3) (N := some 35) (v := ?_) (a' := ?_) #[true, true, true, true, false, false, true, true, false, false, false, false, false, false, false] rfl rfl (any_of HT_.out (by kernel_rfl)) (fun _ _ _ h => h) (Or.inl ⟨by rfl, ?_⟩) ?_ ?_
          rotate_left
          · intro w'
            go_simp
            with_reducible rfl
          rotate_left
          · simp only [Act.put, List.setIfInBounds_toArray, List.set_cons_zero, List.set_cons_succ, i64_w, i32_w]
            rfl
          refine pure_ (i := 4) (N := some 36) (v := ?_) (a' := ?_) #[true, true, true, true, true, false, true, true, false, false, false, false, false, false, false] rfl rfl (any_of HT_.out (by kernel_rfl)) (fun _ _ _ h => h) (Or.inl ⟨by rfl, ?_⟩) ?_ ?_
          rotate_left
          · intro w'
            go_simp
            with_reducible rfl
          rotate_left
          · simp only [Act.put, List.setIfInBounds_toArray, List.set_cons_zero, List.set_cons_succ, i64_w, i32_w]
            rfl
          refine pure_ (i := 5) (N := some 37) (v := ?_) (a' := ?_) #[true, true, true, true, true, true, true, true, false, false, false, false, false, false, false] rfl rfl (any_of HT_.out (by kernel_rfl)) (fun _ _ _ h => h) (Or.inl ⟨by rfl, ?_⟩) ?_ ?_
          rotate_left
          · intro w'
            go_simp
            with_reducible rfl
          rotate_left
          · simp only [Act.put, List.setIfInBounds_toArray, List.set_cons_zero, List.set_cons_succ, i64_w, i32_w]
            rfl
          refine take_ (i := 8) (N := some 40) (v := ?_) (a' := ?_) #[true, true, true, true, true, true, true, true, true, false, false, false, false, false, false] rfl rfl (take_ofW HT_.out HW_.out (by kernel_rfl)) (fun _ _ _ h => h) (Or.inl ⟨by rfl, ?_⟩) hHeld ?_ ?_
          rotate_left
          · rintro w' ⟨s0, s1⟩
            go_simp
            with_reducible rfl
          rotate_left
          · simp only [Act.put, List.setIfInBounds_toArray, List.set_cons_zero, List.set_cons_succ, i64_w, i32_w]
            rfl
          refine pure_ (i := 9) (N := some 41) (v := ?_) (a' := ?_) #[true, true, true, true, true, true, true, true, true, true, false, false, false, false, false] rfl rfl (any_of HT_.out (by kernel_rfl)) (fun _ _ _ h => h) (Or.inl ⟨by rfl, ?_⟩) ?_ ?_
          rotate_left
          · intro w'
            go_simp
            with_reducible rfl
          rotate_left
          · simp only [Act.put, List.setIfInBounds_toArray, List.set_cons_zero, List.set_cons_succ, i64_w, i32_w]
            rfl
          refine pure_ (i := 10) (N := some 42) (v := ?_) (a' := ?_) #[true, true, true, true, true, true, true, true, true, true, true, false, false, false, false] rfl rfl (any_of HT_.out (by kernel_rfl)) (fun _ _ _ h => h) (Or.inl ⟨by rfl, ?_⟩) ?_ ?_
          rotate_left
          · intro w'
            go_simp
            with_reducible rfl
          rotate_left
          · simp only [Act.put, List.setIfInBounds_toArray, List.set_cons_zero, List.set_cons_succ, i64_w, i32_w]
            rfl
          refine pure_ (i := 11) (N := some 43) (v := ?_) (a' := ?_) #[true, true, true, true, true, true, true, true, true, true, true, true, false, false, false] rfl rfl (any_of HT_.out (by kernel_rfl)) (fun _ _ _ h => h) (Or.inl ⟨by rfl, ?_⟩) ?_ ?_
          rotate_left
          · intro w'
            go_simp
            with_reducible rfl
          rotate_left
          · simp only [Act.put, List.setIfInBounds_toArray, List.set_cons_zero, List.set_cons_succ, i64_w, i32_w]
            rfl
          refine one_ (i := 12) (N := some 44) #[true, true, true, true, true, true, true, true, true, true, true, true, true, false, false] rfl rfl (one_of HT_.out (by kernel_rfl)) (by decide) (fun K hK => ?_)
          refine Kd.R_lit_step (Kd.int .u8) _ 5 ?hg (N := 44) ?hd (xs := ([(wrap64 (1 + (Int.tmod (rd t283 0) 255))) % 256, (wrap64 (1 + (Int.tmod (rd t283 1) 255))) % 256] : List Int)) (inner := [.int .u8 ((wrap64 (1 + (Int.tmod (rd t283 0) 255))) % 256), .int .u8 ((wrap64 (1 + (Int.tmod (rd t283 1) 255))) % 256)]) (ok := fun _ => True) (okp := fun _ => True) ?hr ?hp (fun _ hk => hk) trivial (Below.refl _ _) (Nat.le_refl _) (by simp) ?_; (case hd => rfl); (case hg => rfl); (case hr => first | (go_simp; done) | (go_simp; rfl)); (case hp => exact (Reps.one (show Kd.M (Kd.int .u8) _ _ _ ((wrap64 (1 + (Int.tmod (rd t283 0) 255))) % 256) [.int .u8 ((wrap64 (1 + (Int.tmod (rd t283 0) 255))) % 256)] from rfl) (Reps.one (show Kd.M (Kd.int .u8) _ _ _ ((wrap64 (1 + (Int.tmod (rd t283 1) 255))) % 256) [.int .u8 ((wrap64 (1 + (Int.tmod (rd t283 1) 255))) % 256)] from rfl) (Reps.none _ _))))
          intro v301 w23 ho24 hb hg_ hnew_
          have HS0_ := (hb.cell (World.block_lt_of_cell? _ _ (hHeld.1))).trans (hHeld.1)
          have HS1_ := (hb.cell (World.block_lt_of_cell? _ _ (hHeld.2))).trans (hHeld.2)
          clear hg_ hnew_
          (first | rw [← Ny300.out] at ho24 | (simp only [Int.reduceToNat] at ho24; rw [← Ny300.out] at ho24))
          have n0_ := Aside0.mk (Kd.R_below (by (with_reducible repeat (first | apply Kd.R_alloc | apply Kd.R_drewN | apply Kd.R_drew)); exact HO282.out) hb)
          have n1_ := Aside0.mk (Kd.R_below (by (with_reducible repeat (first | apply Kd.R_alloc | apply Kd.R_drewN | apply Kd.R_drew)); exact HO285.out) hb)
          have n2_ := Aside0.mk (Kd.R_below (by (with_reducible repeat (first | apply Kd.R_alloc | apply Kd.R_drewN | apply Kd.R_drew)); exact HO291.out) hb)
          have n3_ := Aside0.mk (Kd.R_below (by (with_reducible repeat (first | apply Kd.R_alloc | apply Kd.R_drewN | apply Kd.R_drew)); exact HO297.out) hb)
          have n4_ := Aside0.mk (Kd.R_lower ho24 (below_size (by repeat (first | (with_reducible first | exact HB.out | apply below_alloc | apply pw_below_drewN | apply below_drew1) | exact HB.out))))
          have n5_ := Aside0.mk (below_step (by repeat (first | (with_reducible first | exact HB.out | apply below_alloc | apply pw_below_drewN | apply below_drew1) | exact HB.out)) hb)
          clear HO282
          clear HO285
          clear HO291
          clear HO297
          clear HB
          have HO282 := n0_
          have HO285 := n1_
          have HO291 := n2_
          have HO297 := n3_
          have HO302 := n4_
          have HB := n5_
          clear n0_ n1_ n2_ n3_ n4_ n5_
          clear hb ho24
          refine hK.out _ _ ⟨HS0_, HS1_⟩ (fun hHeld => ?_)
          clear hK K
          refine norm_ (a' := ?_) ?_ ?_
          rotate_left
          · show Act.put _ (some 44) _ = _
            simp only [Act.put, List.setIfInBounds_toArray, List.set_cons_zero, List.set_cons_succ, i64_w, i32_w]
            rfl
          refine last_ (i := 13) (N := some 45) #[true, true, true, true, true, true, true, true, true, true, true, true, true, true, false] rfl rfl (one_of HT_.out (by kernel_rfl)) (by decide) (fun K hK => ?_)
          have hcv25 := own_string (P := Try.prog) Try.underlying22 Try.underlying5 Try.underlying9 (Kd.own_of_R HO302.out)
          refine value_ (w1 := ?_) (v := ?_) (by rfl) rfl ?_ ?_
          rotate_left 2
          · go_simp
            constructor
            · rfl
            · rfl
          clear hcv25
          refine hK.out _ _ ?_
          clear hK K
          refine norm_ (a' := ?_) ?_ ?_
          rotate_left
          · show Act.put _ (some 45) _ = _
            simp only [Act.put, List.setIfInBounds_toArray, List.set_cons_zero, List.set_cons_succ, i64_w, i32_w]
            rfl
          refine pure_ (i := 14) (N := some 9) (v := ?_) (a' := ?_) #[true, true, true, true, true, true, true, true, true, true, true, true, true, true, true] rfl rfl (any_of HT_.out (by kernel_rfl)) (fun _ _ _ h => h) (Or.inl ⟨by rfl, ?_⟩) ?_ ?_
          rotate_left
          · intro w'
            go_simp
            with_reducible rfl
          rotate_left
          · simp only [Act.put, List.setIfInBounds_toArray, List.set_cons_zero, List.set_cons_succ, i64_w, i32_w]
            rfl
          refine done_ (done_of HT_.out (by kernel_rfl)) ?_
          go_upto_region 8 with (fail)
          go_cut [66] (fun v66 wc => ∃ (kq : Nat) (x66_10 : Bool), v66 = .bool x66_10 ∧ Aside0 (laws_FnUnits.j0 kq t280 t283 t292 x66_10 = some r) ∧ Aside0 (kq ≤ k) ∧ Aside0 (Kd.R Kd.string 9 wc w.heap.size (fun _ => True) (.slice Ao17 t280.length co17) t280) ∧ Aside0 (Kd.R (Kd.int .i64) 3 wc w.heap.size (fun _ => True) (.slice (some ad298) t283.length co22) t283) ∧ Aside0 (Below w.heap.size w wc))
          case first =>
            have H := HC11.out
            clear HC11
            by_cases c26 : t293 = true
            · subst c26
              have H1 : (if t295 = true then ((laws_sameTexts.f k t294 t280).bind fun t303 => (if t303 = true then (if (strOfNums y300).size + t292.size ≤ 9223372036854775807 then ((impl_UnitsIn.f k ((strOfNums y300) ++ t292)).bind fun t304 => ((laws_sameTexts.f k t304 t280).bind fun t307 => (laws_FnUnits.j0 k t280 t283 t292 (!t307)))) else (none)) else (laws_FnUnits.j0 k t280 t283 t292 true))) else (laws_FnUnits.j0 k t280 t283 t292 true)) = some r := by rw [if_pos rfl] at H; exact H
              clear H
              have H := H1
              clear H1
              by_cases c27 : t295 = true
              · subst c27
                have H1 : ((laws_sameTexts.f k t294 t280).bind fun t303 => (if t303 = true then (if (strOfNums y300).size + t292.size ≤ 9223372036854775807 then ((impl_UnitsIn.f k ((strOfNums y300) ++ t292)).bind fun t304 => ((laws_sameTexts.f k t304 t280).bind fun t307 => (laws_FnUnits.j0 k t280 t283 t292 (!t307)))) else (none)) else (laws_FnUnits.j0 k t280 t283 t292 true))) = some r := by rw [if_pos rfl] at H; exact H
                clear H
                have H := H1
                clear H1
                replace H := Option.bind_eq_some_iff.mp H
                obtain ⟨t303, A280, H⟩ := H
                replace H : (if t303 = true then (if (strOfNums y300).size + t292.size ≤ 9223372036854775807 then ((impl_UnitsIn.f k ((strOfNums y300) ++ t292)).bind fun t304 => ((laws_sameTexts.f k t304 t280).bind fun t307 => (laws_FnUnits.j0 k t280 t283 t292 (!t307)))) else (none)) else (laws_FnUnits.j0 k t280 t283 t292 true)) = some r := H
                have A28 := Aside0.mk A280
                clear A280
                by_cases c29 : t303 = true
                · subst c29
                  have H1 : (if (strOfNums y300).size + t292.size ≤ 9223372036854775807 then ((impl_UnitsIn.f k ((strOfNums y300) ++ t292)).bind fun t304 => ((laws_sameTexts.f k t304 t280).bind fun t307 => (laws_FnUnits.j0 k t280 t283 t292 (!t307)))) else (none)) = some r := by rw [if_pos rfl] at H; exact H
                  clear H
                  have H := H1
                  clear H1
                  by_cases c30 : (strOfNums y300).size + t292.size ≤ 9223372036854775807
                  · rw [if_pos c30] at H
                    have c30b0 := eq_true c30
                    have c30b1 : decide ((strOfNums y300).size + t292.size ≤ 9223372036854775807) = true := decide_eq_true c30
                    try have c30b2 : (9223372036854775807 < (strOfNums y300).size + t292.size) = False := eq_false (Nat.not_lt.2 c30)
                    replace H := Option.bind_eq_some_iff.mp H
                    obtain ⟨t304, A310, H⟩ := H
                    replace H : ((laws_sameTexts.f k t304 t280).bind fun t307 => (laws_FnUnits.j0 k t280 t283 t292 (!t307))) = some r := H
                    have A31 := Aside0.mk A310
                    clear A310
                    replace H := Option.bind_eq_some_iff.mp H
                    obtain ⟨t307, A320, H⟩ := H
                    replace H : (laws_FnUnits.j0 k t280 t283 t292 (!t307)) = some r := H
                    have A32 := Aside0.mk A320
                    clear A320
                    have H' := Aside0.mk H
                    clear H
                    obtain ⟨Ao33, co33, eo33⟩ := Kd.R_slice HO297.out
                    subst eo33
                    go_wp2_with (first | (go_at_call 14; (with_reducible refine (laws_sameTexts.calls k _ _ t294 _ _ t280 true _ ?side1 ?side2 ?side3 ?side4 A28.out).mono ?_); (case side1 => repeat (first | exact (Kd.R_reads' HO297.out).2.2 | (with_reducible refine Kd.C_alloc ?_ _) | (with_reducible refine Kd.C_drewN ?_ _) | (with_reducible refine Kd.C_drew ?_))); (case side2 => exact (Kd.R_reads' HO297.out).2.1); (case side3 => repeat (first | exact (Kd.R_reads' HO282.out).2.2 | (with_reducible refine Kd.C_alloc ?_ _) | (with_reducible refine Kd.C_drewN ?_ _) | (with_reducible refine Kd.C_drew ?_))); (case side4 => exact (Kd.R_reads' HO282.out).2.1); rintro e w' ⟨rfl, ⟨nd, rfl⟩⟩) | (go_at_call 15; (with_reducible refine (impl_UnitsIn.calls k ((strOfNums y300) ++ t292) t304 _ A31.out).mono ?_); rintro e w34 ⟨v305, rfl, ho0, hb⟩; have n0_ := Aside0.mk (Kd.R_elder' (by (with_reducible repeat (first | apply Kd.R_alloc | apply Kd.R_drewN | apply Kd.R_drew)); exact HO282.out) (Kd.R_base ho0) hb); have n1_ := Aside0.mk (Kd.R_below (by (with_reducible repeat (first | apply Kd.R_alloc | apply Kd.R_drewN | apply Kd.R_drew)); exact HO285.out) hb); have n2_ := Aside0.mk (Kd.R_elder' (by (with_reducible repeat (first | apply Kd.R_alloc | apply Kd.R_drewN | apply Kd.R_drew)); exact HO291.out) (Kd.R_base ho0) hb); have n3_ := Aside0.mk (Kd.R_elder' (by (with_reducible repeat (first | apply Kd.R_alloc | apply Kd.R_drewN | apply Kd.R_drew)); exact HO297.out) (Kd.R_base ho0) hb); have n4_ := Aside0.mk (Kd.R_below (by (with_reducible repeat (first | apply Kd.R_alloc | apply Kd.R_drewN | apply Kd.R_drew)); exact HO302.out) hb); have n5_ := Aside0.mk (Kd.R_lower (Kd.R_new' (Kd.R_new' (Kd.R_new' ho0 (Kd.R_lt (by (with_reducible repeat (first | apply Kd.R_alloc | apply Kd.R_drewN | apply Kd.R_drew)); exact HO282.out))) (Kd.R_lt (by (with_reducible repeat (first | apply Kd.R_alloc | apply Kd.R_drewN | apply Kd.R_drew)); exact HO291.out))) (Kd.R_lt (by (with_reducible repeat (first | apply Kd.R_alloc | apply Kd.R_drewN | apply Kd.R_drew)); exact HO297.out))) (below_size (by repeat (first | (with_reducible first | exact HB.out | apply below_alloc | apply pw_below_drewN | apply below_drew1) | exact HB.out)))); have n6_ := Aside0.mk (below_step (by repeat (first | (with_reducible first | exact HB.out | apply below_alloc | apply pw_below_drewN | apply below_drew1) | exact HB.out)) hb); clear HO282; clear HO285; clear HO291; clear HO297; clear HO302; clear HB; have HO282 := n0_; have HO285 := n1_; have HO291 := n2_; have HO297 := n3_; have HO302 := n4_; have HO306 := n5_; have HB := n6_; clear n0_ n1_ n2_ n3_ n4_ n5_ n6_; (try clear hb); (try clear hb2); (try clear hk); (try clear hi); (try clear ho0); obtain ⟨Ao35, co35, eo35⟩ := Kd.R_slice HO306.out; subst eo35) | (go_at_call 14; (with_reducible refine (laws_sameTexts.calls k _ _ t304 _ _ t280 t307 _ ?side1 ?side2 ?side3 ?side4 A32.out).mono ?_); (case side1 => repeat (first | exact (Kd.R_reads' HO306.out).2.2 | (with_reducible refine Kd.C_alloc ?_ _) | (with_reducible refine Kd.C_drewN ?_ _) | (with_reducible refine Kd.C_drew ?_))); (case side2 => exact (Kd.R_reads' HO306.out).2.1); (case side3 => repeat (first | exact (Kd.R_reads' HO282.out).2.2 | (with_reducible refine Kd.C_alloc ?_ _) | (with_reducible refine Kd.C_drewN ?_ _) | (with_reducible refine Kd.C_drew ?_))); (case side4 => exact (Kd.R_reads' HO282.out).2.1); rintro e w' ⟨rfl, ⟨nd, rfl⟩⟩))
                    go_meet
                    case rel => exact ⟨_, (!t307), (by first | rfl | (simp; done) | (simp [*]; done)), H', ⟨by first | omega | exact Nat.le_refl _⟩, ⟨by (with_reducible repeat (first | apply Kd.R_alloc | apply Kd.R_drewN | apply Kd.R_drew)); exact Kd.R_mono HO282.out (fun _ hk => trivial)⟩, ⟨by (with_reducible repeat (first | apply Kd.R_alloc | apply Kd.R_drewN | apply Kd.R_drew)); exact HO285.out⟩, ⟨by repeat (first | (with_reducible first | exact HB.out | apply below_alloc | apply pw_below_drewN | apply below_drew1) | exact HB.out)⟩⟩
                  · rw [if_neg c30] at H
                    exact absurd H (by simp)
                · replace c29 := Bool.eq_false_iff.mpr c29
                  subst c29
                  have H1 : (laws_FnUnits.j0 k t280 t283 t292 true) = some r := by rw [if_neg (show ¬ (false = true) by decide)] at H; exact H
                  clear H
                  have H := H1
                  clear H1
                  have H' := Aside0.mk H
                  clear H
                  obtain ⟨Ao36, co36, eo36⟩ := Kd.R_slice HO297.out
                  subst eo36
                  go_wp2_with (first | (go_at_call 14; (with_reducible refine (laws_sameTexts.calls k _ _ t294 _ _ t280 false _ ?side1 ?side2 ?side3 ?side4 A28.out).mono ?_); (case side1 => repeat (first | exact (Kd.R_reads' HO297.out).2.2 | (with_reducible refine Kd.C_alloc ?_ _) | (with_reducible refine Kd.C_drewN ?_ _) | (with_reducible refine Kd.C_drew ?_))); (case side2 => exact (Kd.R_reads' HO297.out).2.1); (case side3 => repeat (first | exact (Kd.R_reads' HO282.out).2.2 | (with_reducible refine Kd.C_alloc ?_ _) | (with_reducible refine Kd.C_drewN ?_ _) | (with_reducible refine Kd.C_drew ?_))); (case side4 => exact (Kd.R_reads' HO282.out).2.1); rintro e w' ⟨rfl, ⟨nd, rfl⟩⟩))
                  go_meet
                  case rel => exact ⟨_, (true), (by first | rfl | (simp; done) | (simp [*]; done)), H', ⟨by first | omega | exact Nat.le_refl _⟩, ⟨by (with_reducible repeat (first | apply Kd.R_alloc | apply Kd.R_drewN | apply Kd.R_drew)); exact Kd.R_mono HO282.out (fun _ hk => trivial)⟩, ⟨by (with_reducible repeat (first | apply Kd.R_alloc | apply Kd.R_drewN | apply Kd.R_drew)); exact HO285.out⟩, ⟨by repeat (first | (with_reducible first | exact HB.out | apply below_alloc | apply pw_below_drewN | apply below_drew1) | exact HB.out)⟩⟩
              · replace c27 := Bool.eq_false_iff.mpr c27
                subst c27
                have H1 : (laws_FnUnits.j0 k t280 t283 t292 true) = some r := by rw [if_neg (show ¬ (false = true) by decide)] at H; exact H
                clear H
                have H := H1
                clear H1
                have H' := Aside0.mk H
                clear H
                go_wp2
                go_meet
                case rel => exact ⟨_, (true), (by first | rfl | (simp; done) | (simp [*]; done)), H', ⟨by first | omega | exact Nat.le_refl _⟩, ⟨by (with_reducible repeat (first | apply Kd.R_alloc | apply Kd.R_drewN | apply Kd.R_drew)); exact Kd.R_mono HO282.out (fun _ hk => trivial)⟩, ⟨by (with_reducible repeat (first | apply Kd.R_alloc | apply Kd.R_drewN | apply Kd.R_drew)); exact HO285.out⟩, ⟨by repeat (first | (with_reducible first | exact HB.out | apply below_alloc | apply pw_below_drewN | apply below_drew1) | exact HB.out)⟩⟩
            · replace c26 := Bool.eq_false_iff.mpr c26
              subst c26
              have H1 : (laws_FnUnits.j0 k t280 t283 t292 true) = some r := by rw [if_neg (show ¬ (false = true) by decide)] at H; exact H
              clear H
              have H := H1
              clear H1
              have H' := Aside0.mk H
              clear H
              go_wp2
              go_meet
              case rel => exact ⟨_, (true), (by first | rfl | (simp; done) | (simp [*]; done)), H', ⟨by first | omega | exact Nat.le_refl _⟩, ⟨by (with_reducible repeat (first | apply Kd.R_alloc | apply Kd.R_drewN | apply Kd.R_drew)); exact Kd.R_mono HO282.out (fun _ hk => trivial)⟩, ⟨by (with_reducible repeat (first | apply Kd.R_alloc | apply Kd.R_drewN | apply Kd.R_drew)); exact HO285.out⟩, ⟨by repeat (first | (with_reducible first | exact HB.out | apply below_alloc | apply pw_below_drewN | apply below_drew1) | exact HB.out)⟩⟩
          case rest =>
            clear HC11
            try clear c1
            try clear c2
            try clear p2
            try clear q2
            try clear hx2
            try clear hcv2
            try clear qi2
            try clear c3
            try clear c6
            try clear p6
            try clear c9
            try clear c9b0
            try clear c9b1
            try clear c10
            try clear c10b0
            try clear c10b1
            try clear c11
            try clear c12
            try clear c13
            try clear hcv25
            try clear c26
            try clear c27
            try clear c29
            try clear p29
            try clear q29
            try clear hx29
            try clear qi29
            try clear c30
            try clear c30b0
            try clear c30b1
            try clear c30b2
            try clear hx298_0
            try clear hx299_0
            try clear p298
            try clear p299
            try clear q298
            try clear q299
            obtain ⟨kq, x66_10, rfl, HA, HJ10, HO_3, HO_4, HB⟩ := hcut
            cases kq with
            | zero => exact absurd HA.out (by simp [laws_FnUnits.j0])
            | succ kj10 =>
              have H := HA.out
              clear HA
              simp only [laws_FnUnits.j0] at H
              by_cases c37 : x66_10 = true
              · subst c37
                have H1 : (some false) = some r := by rw [if_pos rfl] at H; exact H
                clear H
                have H := H1
                clear H1
                exact absurd (H.trans (congrArg some hr_.out)) (by simp)
              · replace c37 := Bool.eq_false_iff.mpr c37
                subst c37
                have H1 : (if (t280.length : Int) = 0 then (some (t292.toList == ([] : List UInt8))) else (if 2 < (t283.length : Int) then ((some (([] : List ByteArray) : List ByteArray)).bind fun y309 => (if 0 ≤ (Int.tmod (rd t283 2) (t280.length : Int)) then (if (Int.tmod (rd t283 2) (t280.length : Int)) ≤ (t280.length : Int) then ((some (t280.take ((Int.tmod (rd t283 2) (t280.length : Int)) : Int).toNat : List ByteArray)).bind fun y312 => (if y309.length + y312.length < 8796093022208 then ((some (y309 ++ y312 : List ByteArray)).bind fun y316 => (if 0 ≤ (wrap64 ((Int.tmod (rd t283 2) (t280.length : Int)) + 1)) then (if (wrap64 ((Int.tmod (rd t283 2) (t280.length : Int)) + 1)) ≤ (t280.length : Int) then ((some (t280.drop ((wrap64 ((Int.tmod (rd t283 2) (t280.length : Int)) + 1)) : Int).toNat : List ByteArray)).bind fun y319 => (if y316.length + y319.length < 8796093022208 then ((some (y316 ++ y319 : List ByteArray)).bind fun y323 => ((some (([] : List ByteArray) : List ByteArray)).bind fun y326 => (if y326.length + y323.length < 8796093022208 then ((impl_Framed.f kj10 (y326 ++ y323)).bind fun bt332 => (if bt332.2 = true then (if (bt332.1.size : Int) < (t292.size : Int) then ((impl_UnitsIn.f kj10 bt332.1).bind fun t334 => ((laws_sameTexts.f kj10 t334 y323).bind fun t337 => (some t337))) else (some false)) else (some false))) else (none)))) else (none))) else (none)) else (none))) else (none))) else (none)) else (none))) else (none))) = some r := by rw [if_neg (show ¬ (false = true) by decide)] at H; exact H
                clear H
                have H := H1
                clear H1
                by_cases c38 : (t280.length : Int) = 0
                · rw [if_pos c38] at H
                  have c38b0 : ((t280.length : Int) == 0) = true := beq_iff_eq.mpr c38
                  have c38b1 : ((t280.length : Int) != 0) = false := bne_eq_false_iff_eq.mpr c38
                  clear c38
                  obtain rfl := Option.some.inj H
                  go_wp2
                  go_ret
                  exact ⟨by first | rfl | (simp [errW_none, errW_some] <;> rfl) | (simp [*, errW_none, errW_some] <;> rfl), by repeat (first | (with_reducible first | exact HB.out | apply below_alloc | apply pw_below_drewN | apply below_drew1) | exact HB.out)⟩
                · rw [if_neg c38] at H
                  have c38b0 : ((t280.length : Int) == 0) = false := beq_eq_false_iff_ne.mpr c38
                  have c38b1 : ((t280.length : Int) != 0) = true := bne_iff_ne.mpr c38
                  have c38b2 : ¬ (t280 = []) := fun h_ => c38 (by rw [h_]; rfl)
                  by_cases c39 : 2 < (t283.length : Int)
                  · rw [if_pos c39] at H
                    have c39b0 : decide (2 < (t283.length : Int)) = true := decide_eq_true c39
                    have c39b1 : decide (2 < t283.length) = true := decide_eq_true (by omega)
                    clear c39
                    obtain ⟨y309, hy309⟩ : ∃ y_ : List ByteArray, y_ = (([] : List ByteArray)) := ⟨_, rfl⟩
                    replace H : (if 0 ≤ (Int.tmod (rd t283 2) (t280.length : Int)) then (if (Int.tmod (rd t283 2) (t280.length : Int)) ≤ (t280.length : Int) then ((some (t280.take ((Int.tmod (rd t283 2) (t280.length : Int)) : Int).toNat : List ByteArray)).bind fun y312 => (if y309.length + y312.length < 8796093022208 then ((some (y309 ++ y312 : List ByteArray)).bind fun y316 => (if 0 ≤ (wrap64 ((Int.tmod (rd t283 2) (t280.length : Int)) + 1)) then (if (wrap64 ((Int.tmod (rd t283 2) (t280.length : Int)) + 1)) ≤ (t280.length : Int) then ((some (t280.drop ((wrap64 ((Int.tmod (rd t283 2) (t280.length : Int)) + 1)) : Int).toNat : List ByteArray)).bind fun y319 => (if y316.length + y319.length < 8796093022208 then ((some (y316 ++ y319 : List ByteArray)).bind fun y323 => ((some (([] : List ByteArray) : List ByteArray)).bind fun y326 => (if y326.length + y323.length < 8796093022208 then ((impl_Framed.f kj10 (y326 ++ y323)).bind fun bt332 => (if bt332.2 = true then (if (bt332.1.size : Int) < (t292.size : Int) then ((impl_UnitsIn.f kj10 bt332.1).bind fun t334 => ((laws_sameTexts.f kj10 t334 y323).bind fun t337 => (some t337))) else (some false)) else (some false))) else (none)))) else (none))) else (none)) else (none))) else (none))) else (none)) else (none)) = some r := by first | (rw [hy309]; with_reducible exact H) | (have H2_ := (Option.bind_some _ _).symm.trans H; rw [hy309]; with_reducible exact H2_) | (have H2_ := (Option.bind_some _ _).symm.trans H; with_reducible exact H2_) | with_reducible exact H | (rw [hy309]; exact H) | exact H
                    have Ny309 := Aside0.mk hy309
                    clear hy309
                    obtain ⟨ji40, hji40⟩ : ∃ j_ : Int, (Int.tmod (rd t283 2) (t280.length : Int)) = j_ := ⟨_, rfl⟩
                    replace H : (if 0 ≤ (ji40) then (if (ji40) ≤ (t280.length : Int) then ((some (t280.take ((ji40) : Int).toNat : List ByteArray)).bind fun y312 => (if y309.length + y312.length < 8796093022208 then ((some (y309 ++ y312 : List ByteArray)).bind fun y316 => (if 0 ≤ (wrap64 ((ji40) + 1)) then (if (wrap64 ((ji40) + 1)) ≤ (t280.length : Int) then ((some (t280.drop ((wrap64 ((ji40) + 1)) : Int).toNat : List ByteArray)).bind fun y319 => (if y316.length + y319.length < 8796093022208 then ((some (y316 ++ y319 : List ByteArray)).bind fun y323 => ((some (([] : List ByteArray) : List ByteArray)).bind fun y326 => (if y326.length + y323.length < 8796093022208 then ((impl_Framed.f kj10 (y326 ++ y323)).bind fun bt332 => (if bt332.2 = true then (if (bt332.1.size : Int) < (t292.size : Int) then ((impl_UnitsIn.f kj10 bt332.1).bind fun t334 => ((laws_sameTexts.f kj10 t334 y323).bind fun t337 => (some t337))) else (some false)) else (some false))) else (none)))) else (none))) else (none)) else (none))) else (none))) else (none)) else (none)) = some r := by first | (rw [hji40] at H; exact H) | (simp only [hji40] at H ⊢; exact H)
                    by_cases c41 : 0 ≤ (ji40)
                    · rw [if_pos c41] at H
                      have c41b0 := eq_true c41
                      have c41b1 : decide (0 ≤ (ji40)) = true := decide_eq_true c41
                      clear c41
                      by_cases c42 : (ji40) ≤ (t280.length : Int)
                      · rw [if_pos c42] at H
                        have c42b0 := eq_true c42
                        have c42b1 : decide ((ji40) ≤ (t280.length : Int)) = true := decide_eq_true c42
                        clear c42
                        obtain ⟨y312, hy312⟩ : ∃ y_ : List ByteArray, y_ = (t280.take ((ji40) : Int).toNat) := ⟨_, rfl⟩
                        replace H : (if y309.length + y312.length < 8796093022208 then ((some (y309 ++ y312 : List ByteArray)).bind fun y316 => (if 0 ≤ (wrap64 ((ji40) + 1)) then (if (wrap64 ((ji40) + 1)) ≤ (t280.length : Int) then ((some (t280.drop ((wrap64 ((ji40) + 1)) : Int).toNat : List ByteArray)).bind fun y319 => (if y316.length + y319.length < 8796093022208 then ((some (y316 ++ y319 : List ByteArray)).bind fun y323 => ((some (([] : List ByteArray) : List ByteArray)).bind fun y326 => (if y326.length + y323.length < 8796093022208 then ((impl_Framed.f kj10 (y326 ++ y323)).bind fun bt332 => (if bt332.2 = true then (if (bt332.1.size : Int) < (t292.size : Int) then ((impl_UnitsIn.f kj10 bt332.1).bind fun t334 => ((laws_sameTexts.f kj10 t334 y323).bind fun t337 => (some t337))) else (some false)) else (some false))) else (none)))) else (none))) else (none)) else (none))) else (none)) = some r := by first | (rw [hy312]; with_reducible exact H) | (have H2_ := (Option.bind_some _ _).symm.trans H; rw [hy312]; with_reducible exact H2_) | (have H2_ := (Option.bind_some _ _).symm.trans H; with_reducible exact H2_) | with_reducible exact H | (rw [hy312]; exact H) | exact H
                        have Ny312 := Aside0.mk hy312
                        clear hy312
                        by_cases c43 : y309.length + y312.length < 8796093022208
                        · rw [if_pos c43] at H
                          have LMc43 := Aside0.mk c43
                          clear c43
                          obtain ⟨y316, hy316⟩ : ∃ y_ : List ByteArray, y_ = (y309 ++ y312) := ⟨_, rfl⟩
                          replace H : (if 0 ≤ (wrap64 ((ji40) + 1)) then (if (wrap64 ((ji40) + 1)) ≤ (t280.length : Int) then ((some (t280.drop ((wrap64 ((ji40) + 1)) : Int).toNat : List ByteArray)).bind fun y319 => (if y316.length + y319.length < 8796093022208 then ((some (y316 ++ y319 : List ByteArray)).bind fun y323 => ((some (([] : List ByteArray) : List ByteArray)).bind fun y326 => (if y326.length + y323.length < 8796093022208 then ((impl_Framed.f kj10 (y326 ++ y323)).bind fun bt332 => (if bt332.2 = true then (if (bt332.1.size : Int) < (t292.size : Int) then ((impl_UnitsIn.f kj10 bt332.1).bind fun t334 => ((laws_sameTexts.f kj10 t334 y323).bind fun t337 => (some t337))) else (some false)) else (some false))) else (none)))) else (none))) else (none)) else (none)) = some r := by first | (rw [hy316]; with_reducible exact H) | (have H2_ := (Option.bind_some _ _).symm.trans H; rw [hy316]; with_reducible exact H2_) | (have H2_ := (Option.bind_some _ _).symm.trans H; with_reducible exact H2_) | with_reducible exact H | (rw [hy316]; exact H) | exact H
                          have Ny316 := Aside0.mk hy316
                          clear hy316
                          obtain ⟨ji44, hji44⟩ : ∃ j_ : Int, (wrap64 ((ji40) + 1)) = j_ := ⟨_, rfl⟩
                          replace H : (if 0 ≤ (ji44) then (if (ji44) ≤ (t280.length : Int) then ((some (t280.drop ((ji44) : Int).toNat : List ByteArray)).bind fun y319 => (if y316.length + y319.length < 8796093022208 then ((some (y316 ++ y319 : List ByteArray)).bind fun y323 => ((some (([] : List ByteArray) : List ByteArray)).bind fun y326 => (if y326.length + y323.length < 8796093022208 then ((impl_Framed.f kj10 (y326 ++ y323)).bind fun bt332 => (if bt332.2 = true then (if (bt332.1.size : Int) < (t292.size : Int) then ((impl_UnitsIn.f kj10 bt332.1).bind fun t334 => ((laws_sameTexts.f kj10 t334 y323).bind fun t337 => (some t337))) else (some false)) else (some false))) else (none)))) else (none))) else (none)) else (none)) = some r := by first | (rw [hji44] at H; exact H) | (simp only [hji44] at H ⊢; exact H)
                          have hji44w : (IntKind.i64.wrap ((ji40) + 1)) = ji44 := (i64_w _).trans hji44
                          by_cases c45 : 0 ≤ (ji44)
                          · rw [if_pos c45] at H
                            have c45b0 := eq_true c45
                            have c45b1 : decide (0 ≤ (ji44)) = true := decide_eq_true c45
                            clear c45
                            by_cases c46 : (ji44) ≤ (t280.length : Int)
                            · rw [if_pos c46] at H
                              have c46b0 := eq_true c46
                              have c46b1 : decide ((ji44) ≤ (t280.length : Int)) = true := decide_eq_true c46
                              clear c46
                              obtain ⟨y319, hy319⟩ : ∃ y_ : List ByteArray, y_ = (t280.drop ((ji44) : Int).toNat) := ⟨_, rfl⟩
                              replace H : (if y316.length + y319.length < 8796093022208 then ((some (y316 ++ y319 : List ByteArray)).bind fun y323 => ((some (([] : List ByteArray) : List ByteArray)).bind fun y326 => (if y326.length + y323.length < 8796093022208 then ((impl_Framed.f kj10 (y326 ++ y323)).bind fun bt332 => (if bt332.2 = true then (if (bt332.1.size : Int) < (t292.size : Int) then ((impl_UnitsIn.f kj10 bt332.1).bind fun t334 => ((laws_sameTexts.f kj10 t334 y323).bind fun t337 => (some t337))) else (some false)) else (some false))) else (none)))) else (none)) = some r := by first | (rw [hy319]; with_reducible exact H) | (have H2_ := (Option.bind_some _ _).symm.trans H; rw [hy319]; with_reducible exact H2_) | (have H2_ := (Option.bind_some _ _).symm.trans H; with_reducible exact H2_) | with_reducible exact H | (rw [hy319]; exact H) | exact H
                              have Ny319 := Aside0.mk hy319
                              clear hy319
                              by_cases c47 : y316.length + y319.length < 8796093022208
                              · rw [if_pos c47] at H
                                have LMc47 := Aside0.mk c47
                                clear c47
                                obtain ⟨y323, hy323⟩ : ∃ y_ : List ByteArray, y_ = (y316 ++ y319) := ⟨_, rfl⟩
                                replace H : ((some (([] : List ByteArray) : List ByteArray)).bind fun y326 => (if y326.length + y323.length < 8796093022208 then ((impl_Framed.f kj10 (y326 ++ y323)).bind fun bt332 => (if bt332.2 = true then (if (bt332.1.size : Int) < (t292.size : Int) then ((impl_UnitsIn.f kj10 bt332.1).bind fun t334 => ((laws_sameTexts.f kj10 t334 y323).bind fun t337 => (some t337))) else (some false)) else (some false))) else (none))) = some r := by first | (rw [hy323]; with_reducible exact H) | (have H2_ := (Option.bind_some _ _).symm.trans H; rw [hy323]; with_reducible exact H2_) | (have H2_ := (Option.bind_some _ _).symm.trans H; with_reducible exact H2_) | with_reducible exact H | (rw [hy323]; exact H) | exact H
                                have Ny323 := Aside0.mk hy323
                                clear hy323
                                obtain ⟨y326, hy326⟩ : ∃ y_ : List ByteArray, y_ = (([] : List ByteArray)) := ⟨_, rfl⟩
                                replace H : (if y326.length + y323.length < 8796093022208 then ((impl_Framed.f kj10 (y326 ++ y323)).bind fun bt332 => (if bt332.2 = true then (if (bt332.1.size : Int) < (t292.size : Int) then ((impl_UnitsIn.f kj10 bt332.1).bind fun t334 => ((laws_sameTexts.f kj10 t334 y323).bind fun t337 => (some t337))) else (some false)) else (some false))) else (none)) = some r := by first | (rw [hy326]; with_reducible exact H) | (have H2_ := (Option.bind_some _ _).symm.trans H; rw [hy326]; with_reducible exact H2_) | (have H2_ := (Option.bind_some _ _).symm.trans H; with_reducible exact H2_) | with_reducible exact H | (rw [hy326]; exact H) | exact H
                                have Ny326 := Aside0.mk hy326
                                clear hy326
                                by_cases c48 : y326.length + y323.length < 8796093022208
                                · rw [if_pos c48] at H
                                  have LMc48 := Aside0.mk c48
                                  clear c48
                                  obtain ⟨y329, hy329⟩ : ∃ y_ : List ByteArray, y_ = (y326 ++ y323) := ⟨_, rfl⟩
                                  replace H : ((impl_Framed.f kj10 y329).bind fun bt332 => (if bt332.2 = true then (if (bt332.1.size : Int) < (t292.size : Int) then ((impl_UnitsIn.f kj10 bt332.1).bind fun t334 => ((laws_sameTexts.f kj10 t334 y323).bind fun t337 => (some t337))) else (some false)) else (some false))) = some r := by first | (rw [hy329]; with_reducible exact H) | (have H2_ := (Option.bind_some _ _).symm.trans H; rw [hy329]; with_reducible exact H2_) | (have H2_ := (Option.bind_some _ _).symm.trans H; with_reducible exact H2_) | with_reducible exact H | (rw [hy329]; exact H) | exact H
                                  have Ny329 := Aside0.mk hy329
                                  clear hy329
                                  replace H := Option.bind_eq_some_iff.mp H
                                  obtain ⟨⟨t332, t333⟩, A490, H⟩ := H
                                  replace H : (if t333 = true then (if (t332.size : Int) < (t292.size : Int) then ((impl_UnitsIn.f kj10 t332).bind fun t334 => ((laws_sameTexts.f kj10 t334 y323).bind fun t337 => (some t337))) else (some false)) else (some false)) = some r := H
                                  have A49 := Aside0.mk A490
                                  clear A490
                                  by_cases c50 : t333 = true
                                  · subst c50
                                    have H1 : (if (t332.size : Int) < (t292.size : Int) then ((impl_UnitsIn.f kj10 t332).bind fun t334 => ((laws_sameTexts.f kj10 t334 y323).bind fun t337 => (some t337))) else (some false)) = some r := by rw [if_pos rfl] at H; exact H
                                    clear H
                                    have H := H1
                                    clear H1
                                    by_cases c51 : (t332.size : Int) < (t292.size : Int)
                                    · rw [if_pos c51] at H
                                      have c51b0 : decide ((t332.size : Int) < (t292.size : Int)) = true := decide_eq_true c51
                                      have c51b1 : decide (t332.size < t292.size) = true := decide_eq_true (Int.ofNat_lt.mp c51)
                                      clear c51
                                      replace H := Option.bind_eq_some_iff.mp H
                                      obtain ⟨t334, A520, H⟩ := H
                                      replace H : ((laws_sameTexts.f kj10 t334 y323).bind fun t337 => (some t337)) = some r := H
                                      have A52 := Aside0.mk A520
                                      clear A520
                                      replace H := Option.bind_eq_some_iff.mp H
                                      obtain ⟨t337, A530, H⟩ := H
                                      replace H : (some t337) = some r := H
                                      have A53 := Aside0.mk A530
                                      clear A530
                                      obtain rfl := Option.some.inj H
                                      have p308 : 0 ≤ (2 : Int) := (by omega)
                                      have q308 : 2 < (t283.length : Int) := of_decide_eq_true (by first | (with_reducible assumption) | assumption)
                                      obtain ⟨ad308, e308, hx308_0⟩ := Kd.at_int (Kd.R_reads' HO_4.out).2.2 2 p308 q308
                                      obtain rfl : ad298 = ad308 := (by injection e308)
                                      (try simp only [show (2 : Int).toNat = 2 from rfl, Nat.reduceMul, Nat.reduceEqDiff, Go.Addr.add, ↓reduceIte] at hx308_0)
                                      have qi308 : (2 < t283.length) = True := eq_true (by omega)
                                      (try rw [show ((2 : Int)).toNat = 2 from rfl] at hx308_0)
                                      replace p308 := eq_true p308
                                      replace q308 := eq_true q308
                                      try go_wp2
                                      have n0_ := Aside0.mk (Kd.R_drew HO_3.out)
                                      have n1_ := Aside0.mk (Kd.R_drew HO_4.out)
                                      have n2_ := Aside0.mk (below_drew1 HB.out)
                                      clear HO_3
                                      clear HO_4
                                      clear HB
                                      have HO_3 := n0_
                                      have HO_4 := n1_
                                      have HB := n2_
                                      clear n0_ n1_ n2_
                                      have q55 : ((ji40) : Int) ≤ ((t280.length : Int) : Int) := of_decide_eq_true (by first | (with_reducible assumption) | assumption)
                                      obtain ⟨i055, hi055, _, hsz55, _⟩ := info_parts info9
                                      have hroom55 : t280.length ≤ co17 := (Kd.R_reads' HO_3.out).2.1
                                      have hC55 : Kd.C Kd.string _ Ao17 t280.length t280 := (Kd.R_reads' HO_3.out).2.2
                                      have hcut55 := cut_to (P := Try.prog) 24 9 .i64 Try.underlying24 hi055 Ao17 t280.length co17 (ji40) (of_decide_eq_true (by first | (with_reducible assumption) | assumption)) q55 hroom55
                                      have hr55 := Kd.C_take (m := ((ji40) : Int).toNat) hC55 (by omega)
                                      have hy55 : y312.length = ((ji40) : Int).toNat := (by rw [Ny312.out, List.length_take]; omega)
                                      rw [← Ny312.out] at hr55
                                      rw [← hy55] at hcut55
                                      have HR315 := Aside0.mk hr55
                                      have HC315 := Aside0.mk (show y312.length ≤ co17 from by omega)
                                      clear hr55 hC55 hroom55 hi055 hsz55
                                      have KY55 := Aside0.mk hy55
                                      clear hy55
                                      have KL55 := Aside0.mk (show ((ji40) : Int).toNat ≤ t280.length from by omega)
                                      replace q55 := eq_true q55
                                      have q56 : ((ji44) : Int) ≤ ((t280.length : Int) : Int) := of_decide_eq_true (by first | (with_reducible assumption) | assumption)
                                      obtain ⟨i056, hi056, _, hsz56, _⟩ := info_parts info9
                                      have hroom56 : t280.length ≤ co17 := (Kd.R_reads' HO_3.out).2.1
                                      have hC56 : Kd.C Kd.string _ Ao17 t280.length t280 := (Kd.R_reads' HO_3.out).2.2
                                      have q056 : (0 : Int) ≤ ((ji44) : Int) := of_decide_eq_true (by first | (with_reducible assumption) | assumption)
                                      have hcut56 := cut_from (P := Try.prog) 24 9 .i64 Try.underlying24 hi056 1 hsz56 Ao17 t280.length co17 (ji44) q056 q56
                                      have hr56 := Kd.C_drop (m := ((ji44) : Int).toNat) (c := co17) hC56 (by omega) hroom56
                                      obtain ⟨A56, hA56⟩ : ∃ A1, A1 = (if co17 = ((ji44) : Int).toNat then Ao17 else (Ao17 : Option Addr).map (·.add (((ji44) : Int).toNat * 1))) := ⟨_, rfl⟩
                                      obtain ⟨c56, hc56⟩ : ∃ c1, c1 = co17 - ((ji44) : Int).toNat := ⟨_, rfl⟩
                                      have hy56 : y319.length = t280.length - ((ji44) : Int).toNat := (by rw [Ny319.out, List.length_drop] <;> omega)
                                      rw [show (t280).drop ((ji44) : Int).toNat = y319 from Ny319.out.symm] at hr56
                                      replace hr56 : Kd.C Kd.string _ A56 y319.length y319 := (by rw [hA56]; exact hr56)
                                      rw [← hy56, ← hA56, ← hc56] at hcut56
                                      have HR322 := Aside0.mk hr56
                                      have HC322 := Aside0.mk (show y319.length ≤ c56 from by rw [hy56, hc56]; exact Nat.sub_le_sub_right hroom56 _)
                                      clear hr56 hC56 hroom56 hi056 hsz56 hc56
                                      have KY56 := Aside0.mk hy56
                                      have KA56 := Aside0.mk hA56
                                      clear hy56 hA56
                                      have KL56 := Aside0.mk (show ((ji44) : Int).toNat ≤ t280.length from by omega)
                                      replace q56 := eq_true q56
                                      refine start_ (n := 11) (S := fun w' => True) (ds := []) #[false, false, false, false, false, false, false, false, false, false, false] (by kernel_rfl) rfl rfl trivial (fun hHeld => ?_); refine with_tabW laws_FnUnits.tab13 laws_FnUnits.bits13 (fun HT_ HW_ => ?_)
                                      generalize wc.drew = w54 at HO_3 HO_4 HB HR315 HR322 hHeld ⊢
                                      refine pure_ (i := 1) (N := some 79) (v := ?_) (a' := ?_) #[false, true, false, false, false, false, false, false, false, false, false] rfl rfl (any_of HT_.out (by kernel_rfl)) (fun _ _ _ h => h) (Or.inl ⟨by rfl, ?_⟩) ?_ ?_
                                      rotate_left
                                      · intro w'
                                        go_simp
                                        with_reducible rfl
                                      rotate_left
                                      · simp only [Act.put, List.setIfInBounds_toArray, List.set_cons_zero, List.set_cons_succ, i64_w, i32_w]
                                        rfl
                                      refine pure_ (i := 2) (N := some 80) (v := ?_) (a' := ?_) #[false, true, true, false, false, false, false, false, false, false, false] rfl rfl (any_of HT_.out (by kernel_rfl)) (fun _ _ _ h => h) (Or.inl ⟨by rfl, ?_⟩) ?_ ?_
                                      rotate_left
                                      · intro w'
                                        go_simp
                                        with_reducible rfl
                                      rotate_left
                                      · simp only [Act.put, List.setIfInBounds_toArray, List.set_cons_zero, List.set_cons_succ, i64_w, i32_w]
                                        rfl
                                      refine pure_ (i := 3) (N := some 81) (v := ?_) (a' := ?_) #[false, true, true, true, false, false, false, false, false, false, false] rfl rfl (any_of HT_.out (by kernel_rfl)) (fun _ _ _ h => h) (Or.inl ⟨by rfl, ?_⟩) ?_ ?_
                                      rotate_left
                                      · intro w'
                                        go_simp
                                        with_reducible rfl
                                      rotate_left
                                      · simp only [Act.put, List.setIfInBounds_toArray, List.set_cons_zero, List.set_cons_succ, i64_w, i32_w]
                                        rfl
                                      refine pure_ (i := 5) (N := some 83) (v := ?_) (a' := ?_) #[false, true, true, true, false, true, false, false, false, false, false] rfl rfl (any_of HT_.out (by kernel_rfl)) (fun _ _ _ h => h) (Or.inl ⟨by rfl, ?_⟩) ?_ ?_
                                      rotate_left
                                      · intro w'
                                        go_simp
                                        with_reducible rfl
                                      rotate_left
                                      · simp only [Act.put, List.setIfInBounds_toArray, List.set_cons_zero, List.set_cons_succ, i64_w, i32_w]
                                        rfl
                                      refine pure_ (i := 6) (N := some 84) (v := ?_) (a' := ?_) #[false, true, true, true, false, true, true, false, false, false, false] rfl rfl (any_of HT_.out (by kernel_rfl)) (fun _ _ _ h => h) (Or.inl ⟨by rfl, ?_⟩) ?_ ?_
                                      rotate_left
                                      · intro w'
                                        go_simp
                                        with_reducible rfl
                                      rotate_left
                                      · simp only [Act.put, List.setIfInBounds_toArray, List.set_cons_zero, List.set_cons_succ, i64_w, i32_w]
                                        rfl
                                      refine pure_ (i := 7) (N := some 85) (v := ?_) (a' := ?_) #[false, true, true, true, false, true, true, true, false, false, false] rfl rfl (any_of HT_.out (by kernel_rfl)) (fun _ _ _ h => h) (Or.inl ⟨by rfl, ?_⟩) ?_ ?_
                                      rotate_left
                                      · intro w'
                                        go_simp
                                        with_reducible rfl
                                      rotate_left
                                      · simp only [Act.put, List.setIfInBounds_toArray, List.set_cons_zero, List.set_cons_succ, i64_w, i32_w]
                                        rfl
                                      refine pure_ (i := 8) (N := some 86) (v := ?_) (a' := ?_) #[false, true, true, true, false, true, true, true, true, false, false] rfl rfl (any_of HT_.out (by kernel_rfl)) (fun _ _ _ h => h) (Or.inl ⟨by rfl, ?_⟩) ?_ ?_
                                      rotate_left
                                      · intro w'
                                        go_simp
                                        with_reducible rfl
                                      rotate_left
                                      · simp only [Act.put, List.setIfInBounds_toArray, List.set_cons_zero, List.set_cons_succ, i64_w, i32_w]
                                        rfl
                                      refine one_ (i := 0) (N := some 78) #[true, true, true, true, false, true, true, true, true, false, false] rfl rfl (one_of HT_.out (by kernel_rfl)) (by decide) (fun K hK => ?_)
                                      refine Kd.R_lit_step Kd.string _ 9 ?hg (N := 78) ?hd (xs := ([] : List ByteArray)) (inner := []) (ok := fun _ => True) (okp := fun _ => True) ?hr ?hp (fun _ hk => hk) trivial (Below.refl _ _) (Nat.le_refl _) (by simp) ?_; (case hd => rfl); (case hg => rfl); (case hr => first | (go_simp; done) | (go_simp; rfl)); (case hp => exact (Reps.none _ _))
                                      intro v310 w57 ho58 hb hg_ hnew_
                                      clear hg_ hnew_
                                      (first | rw [← Ny309.out] at ho58 | (simp only [Int.reduceToNat] at ho58; rw [← Ny309.out] at ho58))
                                      have n0_ := Aside0.mk (Kd.R_elder' (by (with_reducible repeat (first | apply Kd.R_alloc | apply Kd.R_drewN | apply Kd.R_drew)); exact HO_3.out) (Kd.R_base ho58) hb)
                                      have n1_ := Aside0.mk (Kd.R_below (by (with_reducible repeat (first | apply Kd.R_alloc | apply Kd.R_drewN | apply Kd.R_drew)); exact HO_4.out) hb)
                                      have n2_ := Aside0.mk (Kd.R_lower (Kd.R_new' ho58 (Kd.R_lt (by (with_reducible repeat (first | apply Kd.R_alloc | apply Kd.R_drewN | apply Kd.R_drew)); exact HO_3.out))) (below_size (by repeat (first | (with_reducible first | exact HB.out | apply below_alloc | apply pw_below_drewN | apply below_drew1) | exact HB.out))))
                                      have n3_ := Aside0.mk (Kd.C_below (by repeat (first | (with_reducible exact HR315.out) | (with_reducible refine Kd.C_alloc ?_ _) | (with_reducible refine Kd.C_drewN ?_ _) | (with_reducible refine Kd.C_drew ?_) | exact HR315.out)) hb)
                                      have n4_ := Aside0.mk (Kd.C_below (by repeat (first | (with_reducible exact HR322.out) | (with_reducible refine Kd.C_alloc ?_ _) | (with_reducible refine Kd.C_drewN ?_ _) | (with_reducible refine Kd.C_drew ?_) | exact HR322.out)) hb)
                                      have n5_ := Aside0.mk (below_step (by repeat (first | (with_reducible first | exact HB.out | apply below_alloc | apply pw_below_drewN | apply below_drew1) | exact HB.out)) hb)
                                      clear HO_3
                                      clear HO_4
                                      clear HR315
                                      clear HR322
                                      clear HB
                                      have HO_3 := n0_
                                      have HO_4 := n1_
                                      have HO311 := n2_
                                      have HR315 := n3_
                                      have HR322 := n4_
                                      have HB := n5_
                                      clear n0_ n1_ n2_ n3_ n4_ n5_
                                      clear hb ho58
                                      refine hK.out _ _ trivial (fun hHeld => ?_)
                                      clear hK K
                                      refine norm_ (a' := ?_) ?_ ?_
                                      rotate_left
                                      · show Act.put _ (some 78) _ = _
                                        simp only [Act.put, List.setIfInBounds_toArray, List.set_cons_zero, List.set_cons_succ, i64_w, i32_w]
                                        rfl
                                      refine one_ (i := 4) (N := some 82) #[true, true, true, true, true, true, true, true, true, false, false] rfl rfl (one_of HT_.out (by kernel_rfl)) (by decide) (fun K hK => ?_)
                                      refine Kd.R_append_rows_step Kd.string (w0 := w) w.heap.size (by rfl) (.tmp 78) (.tmp 81) 24 9 (.string ⟨#[]⟩) 16 rfl Try.underlying24 info9 rfl (by decide) (by omega) v310 y309 y312 _ _ _ (fun k_ => some k_ ≠ (.slice Ao17 t280.length co17 : Value).ownBlock) (fun _ => False) rfl rfl ?aO ?aR (fun _ _ h => h) (fun _ h => h.elim) ?aF ?aB ?aS ?aL ?_
                                      (case aR => repeat (first | exact (by repeat (first | (with_reducible exact HR315.out) | (with_reducible refine Kd.C_alloc ?_ _) | (with_reducible refine Kd.C_drewN ?_ _) | (with_reducible refine Kd.C_drew ?_) | exact HR315.out)) | (with_reducible refine Kd.C_alloc ?_ _) | (with_reducible refine Kd.C_drewN ?_ _) | (with_reducible refine Kd.C_drew ?_)))
                                      (case aB => exact (by repeat (first | (with_reducible first | exact HB.out | apply below_alloc | apply pw_below_drewN | apply below_drew1) | exact HB.out)))
                                      (case aF => exact (fun k_ hk => Kd.fresh' (Kd.R_lt (by (with_reducible repeat (first | apply Kd.R_alloc | apply Kd.R_drewN | apply Kd.R_drew)); exact HO_3.out)) k_ hk))
                                      (case aO => exact (by (with_reducible repeat (first | apply Kd.R_alloc | apply Kd.R_drewN | apply Kd.R_drew)); exact Kd.R_mono HO311.out (fun _ hk => hk.2)))
                                      (case aS => exact (below_size (by repeat (first | (with_reducible first | exact HB.out | apply below_alloc | apply pw_below_drewN | apply below_drew1) | exact HB.out))))
                                      (case aL => have := LMc43.out; omega)
                                      intro v317 w59 ho hb hg hat
                                      rw [← Ny316.out] at ho
                                      have n0_ := Aside0.mk (Kd.R_after (ok := (fun _ => True)) (by (with_reducible repeat (first | apply Kd.R_alloc | apply Kd.R_drewN | apply Kd.R_drew)); exact HO_3.out) hg hat)
                                      have n1_ := Aside0.mk (Kd.R_over' (by (with_reducible repeat (first | apply Kd.R_alloc | apply Kd.R_drewN | apply Kd.R_drew)); exact HO_4.out) (Kd.R_typed (by (with_reducible repeat (first | apply Kd.R_alloc | apply Kd.R_drewN | apply Kd.R_drew)); exact HO311.out)) (by decide) hg)
                                      have n2_ := Aside0.mk (hb)
                                      have n3_ := Aside0.mk ((show Kd.C Kd.string w59 Ao17 y312.length y312 from by rw [Ny312.out]; exact Kd.C_take (m := ((ji40) : Int).toNat) ((Kd.R_reads' (Kd.R_after (ok := (fun _ => True)) (by (with_reducible repeat (first | apply Kd.R_alloc | apply Kd.R_drewN | apply Kd.R_drew)); exact HO_3.out) hg hat)).2.2) KL55.out))
                                      have n4_ := Aside0.mk ((show Kd.C Kd.string w59 A56 y319.length y319 from by rw [Ny319.out, KA56.out]; exact Kd.C_drop (m := ((ji44) : Int).toNat) (c := co17) ((Kd.R_reads' (Kd.R_after (ok := (fun _ => True)) (by (with_reducible repeat (first | apply Kd.R_alloc | apply Kd.R_drewN | apply Kd.R_drew)); exact HO_3.out) hg hat)).2.2) KL56.out ((Kd.R_reads' (Kd.R_after (ok := (fun _ => True)) (by (with_reducible repeat (first | apply Kd.R_alloc | apply Kd.R_drewN | apply Kd.R_drew)); exact HO_3.out) hg hat)).2.1)))
                                      have n5_ := Aside0.mk (ho)
                                      clear HO_3
                                      clear HO_4
                                      clear HB
                                      clear HR315
                                      clear HR322
                                      clear HO311
                                      have HO_3 := n0_
                                      have HO_4 := n1_
                                      have HB := n2_
                                      have HR315 := n3_
                                      have HR322 := n4_
                                      have HO318 := n5_
                                      clear n0_ n1_ n2_ n3_ n4_ n5_
                                      clear ho hb hg hat
                                      refine hK.out _ _ trivial (fun hHeld => ?_)
                                      clear hK K
                                      refine norm_ (a' := ?_) ?_ ?_
                                      rotate_left
                                      · show Act.put _ (some 82) _ = _
                                        simp only [Act.put, List.setIfInBounds_toArray, List.set_cons_zero, List.set_cons_succ, i64_w, i32_w]
                                        rfl
                                      refine one_ (i := 9) (N := some 87) #[true, true, true, true, true, true, true, true, true, true, false] rfl rfl (one_of HT_.out (by kernel_rfl)) (by decide) (fun K hK => ?_)
                                      refine Kd.R_append_rows_step Kd.string (w0 := w) w.heap.size (by rfl) (.tmp 82) (.tmp 86) 24 9 (.string ⟨#[]⟩) 16 rfl Try.underlying24 info9 rfl (by decide) (by omega) v317 y316 y319 _ _ _ (fun k_ => some k_ ≠ (.slice Ao17 t280.length co17 : Value).ownBlock) (fun _ => False) rfl rfl ?aO ?aR (fun _ _ h => h) (fun _ h => h.elim) ?aF ?aB ?aS ?aL ?_
                                      (case aR => repeat (first | exact (by repeat (first | (with_reducible exact HR322.out) | (with_reducible refine Kd.C_alloc ?_ _) | (with_reducible refine Kd.C_drewN ?_ _) | (with_reducible refine Kd.C_drew ?_) | exact HR322.out)) | (with_reducible refine Kd.C_alloc ?_ _) | (with_reducible refine Kd.C_drewN ?_ _) | (with_reducible refine Kd.C_drew ?_)))
                                      (case aB => exact (by repeat (first | (with_reducible first | exact HB.out | apply below_alloc | apply pw_below_drewN | apply below_drew1) | exact HB.out)))
                                      (case aF => exact (fun k_ hk => Kd.fresh' (Kd.R_lt (by (with_reducible repeat (first | apply Kd.R_alloc | apply Kd.R_drewN | apply Kd.R_drew)); exact HO_3.out)) k_ hk))
                                      (case aO => exact (by (with_reducible repeat (first | apply Kd.R_alloc | apply Kd.R_drewN | apply Kd.R_drew)); exact HO318.out))
                                      (case aS => exact (below_size (by repeat (first | (with_reducible first | exact HB.out | apply below_alloc | apply pw_below_drewN | apply below_drew1) | exact HB.out))))
                                      (case aL => have := LMc47.out; omega)
                                      intro v324 w60 ho hb hg hat
                                      rw [← Ny323.out] at ho
                                      have n0_ := Aside0.mk (Kd.R_after (ok := (fun _ => True)) (by (with_reducible repeat (first | apply Kd.R_alloc | apply Kd.R_drewN | apply Kd.R_drew)); exact HO_3.out) hg hat)
                                      have n1_ := Aside0.mk (Kd.R_over' (by (with_reducible repeat (first | apply Kd.R_alloc | apply Kd.R_drewN | apply Kd.R_drew)); exact HO_4.out) (Kd.R_typed (by (with_reducible repeat (first | apply Kd.R_alloc | apply Kd.R_drewN | apply Kd.R_drew)); exact HO318.out)) (by decide) hg)
                                      have n2_ := Aside0.mk (hb)
                                      have n3_ := Aside0.mk ((show Kd.C Kd.string w60 Ao17 y312.length y312 from by rw [Ny312.out]; exact Kd.C_take (m := ((ji40) : Int).toNat) ((Kd.R_reads' (Kd.R_after (ok := (fun _ => True)) (by (with_reducible repeat (first | apply Kd.R_alloc | apply Kd.R_drewN | apply Kd.R_drew)); exact HO_3.out) hg hat)).2.2) KL55.out))
                                      have n4_ := Aside0.mk ((show Kd.C Kd.string w60 A56 y319.length y319 from by rw [Ny319.out, KA56.out]; exact Kd.C_drop (m := ((ji44) : Int).toNat) (c := co17) ((Kd.R_reads' (Kd.R_after (ok := (fun _ => True)) (by (with_reducible repeat (first | apply Kd.R_alloc | apply Kd.R_drewN | apply Kd.R_drew)); exact HO_3.out) hg hat)).2.2) KL56.out ((Kd.R_reads' (Kd.R_after (ok := (fun _ => True)) (by (with_reducible repeat (first | apply Kd.R_alloc | apply Kd.R_drewN | apply Kd.R_drew)); exact HO_3.out) hg hat)).2.1)))
                                      have n5_ := Aside0.mk (ho)
                                      clear HO_3
                                      clear HO_4
                                      clear HB
                                      clear HR315
                                      clear HR322
                                      clear HO318
                                      have HO_3 := n0_
                                      have HO_4 := n1_
                                      have HB := n2_
                                      have HR315 := n3_
                                      have HR322 := n4_
                                      have HO325 := n5_
                                      clear n0_ n1_ n2_ n3_ n4_ n5_
                                      clear ho hb hg hat
                                      refine hK.out _ _ trivial (fun hHeld => ?_)
                                      clear hK K
                                      refine norm_ (a' := ?_) ?_ ?_
                                      rotate_left
                                      · show Act.put _ (some 87) _ = _
                                        simp only [Act.put, List.setIfInBounds_toArray, List.set_cons_zero, List.set_cons_succ, i64_w, i32_w]
                                        rfl
                                      refine pure_ (i := 10) (N := some 11) (v := ?_) (a' := ?_) #[true, true, true, true, true, true, true, true, true, true, true] rfl rfl (any_of HT_.out (by kernel_rfl)) (fun _ _ _ h => h) (Or.inl ⟨by rfl, ?_⟩) ?_ ?_
                                      rotate_left
                                      · intro w'
                                        go_simp
                                        with_reducible rfl
                                      rotate_left
                                      · simp only [Act.put, List.setIfInBounds_toArray, List.set_cons_zero, List.set_cons_succ, i64_w, i32_w]
                                        rfl
                                      refine done_ (done_of HT_.out (by kernel_rfl)) ?_
                                      try go_wp2_with (first | ((with_reducible refine gate_dst (N := 89) rfl ?_); (try (refine gate_guard (by rfl) ?_; dsimp only)); refine Kd.R_lit Kd.string _ 9 ?hg (N := 89) ?hd (xs := ([] : List ByteArray)) (inner := []) (ok := fun _ => True) (okp := fun _ => True) ?hr ?hp (fun _ hk => hk) trivial (Below.refl _ _) (Nat.le_refl _) (by simp) ?_; (case hd => rfl); (case hg => rfl); (case hr => first | (go_simp; done) | (go_simp; rfl)); (case hp => exact (Reps.none _ _)); intro v327 w61 ho62 hb hg_ hnew_; clear hg_ hnew_; (first | rw [← Ny326.out] at ho62 | (simp only [Int.reduceToNat] at ho62; rw [← Ny326.out] at ho62)); have n0_ := Aside0.mk (Kd.R_elder' (by (with_reducible repeat (first | apply Kd.R_alloc | apply Kd.R_drewN | apply Kd.R_drew)); exact HO_3.out) (Kd.R_base ho62) hb); have n1_ := Aside0.mk (Kd.R_below (by (with_reducible repeat (first | apply Kd.R_alloc | apply Kd.R_drewN | apply Kd.R_drew)); exact HO_4.out) hb); have n2_ := Aside0.mk (Kd.R_elder' (by (with_reducible repeat (first | apply Kd.R_alloc | apply Kd.R_drewN | apply Kd.R_drew)); exact HO325.out) (Kd.R_base ho62) hb); have n3_ := Aside0.mk (Kd.R_lower (Kd.R_new' (Kd.R_new' ho62 (Kd.R_lt (by (with_reducible repeat (first | apply Kd.R_alloc | apply Kd.R_drewN | apply Kd.R_drew)); exact HO_3.out))) (Kd.R_lt (by (with_reducible repeat (first | apply Kd.R_alloc | apply Kd.R_drewN | apply Kd.R_drew)); exact HO325.out))) (below_size (by repeat (first | (with_reducible first | exact HB.out | apply below_alloc | apply pw_below_drewN | apply below_drew1) | exact HB.out)))); have n4_ := Aside0.mk (Kd.C_below (by repeat (first | (with_reducible exact HR315.out) | (with_reducible refine Kd.C_alloc ?_ _) | (with_reducible refine Kd.C_drewN ?_ _) | (with_reducible refine Kd.C_drew ?_) | exact HR315.out)) hb); have n5_ := Aside0.mk (Kd.C_below (by repeat (first | (with_reducible exact HR322.out) | (with_reducible refine Kd.C_alloc ?_ _) | (with_reducible refine Kd.C_drewN ?_ _) | (with_reducible refine Kd.C_drew ?_) | exact HR322.out)) hb); have n6_ := Aside0.mk (below_step (by repeat (first | (with_reducible first | exact HB.out | apply below_alloc | apply pw_below_drewN | apply below_drew1) | exact HB.out)) hb); clear HO_3; clear HO_4; clear HO325; clear HR315; clear HR322; clear HB; have HO_3 := n0_; have HO_4 := n1_; have HO325 := n2_; have HO328 := n3_; have HR315 := n4_; have HR322 := n5_; have HB := n6_; clear n0_ n1_ n2_ n3_ n4_ n5_ n6_; clear hb ho62; obtain ⟨Ao64, co64, eo64⟩ := Kd.R_slice HO325.out; subst eo64) | ((with_reducible refine gate_builtin (b := .append) (xs := #[.tmp 89, .tmp 90]) rfl ?_); (try (refine gate_guard (by rfl) ?_; dsimp only)); at_builtin; refine Kd.R_append_rows Kd.string (w0 := w) w.heap.size rfl (.tmp 89) (.tmp 90) 24 9 (.string ⟨#[]⟩) 16 rfl Try.underlying24 info9 rfl (by decide) (by omega) v327 y326 y323 _ _ _ (fun k_ => some k_ ≠ (.slice Ao17 t280.length co17 : Value).ownBlock ∧ some k_ ≠ (.slice Ao64 y323.length co64 : Value).ownBlock) (fun _ => False) rfl rfl ?aO ?aR (fun _ _ h => h) (fun _ h => h.elim) ?aF ?aB ?aS ?aL ?_; (case aR => repeat (first | exact (Kd.R_reads' HO325.out).2.2 | (with_reducible refine Kd.C_alloc ?_ _) | (with_reducible refine Kd.C_drewN ?_ _) | (with_reducible refine Kd.C_drew ?_))); (case aB => exact (by repeat (first | (with_reducible first | exact HB.out | apply below_alloc | apply pw_below_drewN | apply below_drew1) | exact HB.out))); (case aF => exact (fun k_ hk => ⟨Kd.fresh' (Kd.R_lt (by (with_reducible repeat (first | apply Kd.R_alloc | apply Kd.R_drewN | apply Kd.R_drew)); exact HO_3.out)) k_ hk, Kd.fresh' (Kd.R_lt (by (with_reducible repeat (first | apply Kd.R_alloc | apply Kd.R_drewN | apply Kd.R_drew)); exact HO325.out)) k_ hk⟩)); (case aO => exact (by (with_reducible repeat (first | apply Kd.R_alloc | apply Kd.R_drewN | apply Kd.R_drew)); exact Kd.R_mono HO328.out (fun _ hk => ⟨hk.1.2, hk.2⟩))); (case aS => exact (below_size (by repeat (first | (with_reducible first | exact HB.out | apply below_alloc | apply pw_below_drewN | apply below_drew1) | exact HB.out)))); (case aL => have := LMc48.out; omega); intro v330 w63 ho hb hg hat; rw [← Ny329.out] at ho; have n0_ := Aside0.mk (Kd.R_after (ok := (fun k_ => some k_ ≠ (.slice Ao64 y323.length co64 : Value).ownBlock)) (by (with_reducible repeat (first | apply Kd.R_alloc | apply Kd.R_drewN | apply Kd.R_drew)); exact Kd.R_mono HO_3.out (fun _ hk => ⟨hk.1.2, hk.2⟩)) hg hat); have n1_ := Aside0.mk (Kd.R_over' (by (with_reducible repeat (first | apply Kd.R_alloc | apply Kd.R_drewN | apply Kd.R_drew)); exact HO_4.out) (Kd.R_typed (by (with_reducible repeat (first | apply Kd.R_alloc | apply Kd.R_drewN | apply Kd.R_drew)); exact HO328.out)) (by decide) hg); have n2_ := Aside0.mk (Kd.R_after (ok := (fun k_ => some k_ ≠ (.slice Ao17 t280.length co17 : Value).ownBlock)) (by (with_reducible repeat (first | apply Kd.R_alloc | apply Kd.R_drewN | apply Kd.R_drew)); exact HO325.out) hg hat); have n3_ := Aside0.mk (hb); have n4_ := Aside0.mk ((show Kd.C Kd.string w63 Ao17 y312.length y312 from by rw [Ny312.out]; exact Kd.C_take (m := ((ji40) : Int).toNat) ((Kd.R_reads' (Kd.R_after (ok := (fun k_ => some k_ ≠ (.slice Ao64 y323.length co64 : Value).ownBlock)) (by (with_reducible repeat (first | apply Kd.R_alloc | apply Kd.R_drewN | apply Kd.R_drew)); exact Kd.R_mono HO_3.out (fun _ hk => ⟨hk.1.2, hk.2⟩)) hg hat)).2.2) KL55.out)); have n5_ := Aside0.mk ((show Kd.C Kd.string w63 A56 y319.length y319 from by rw [Ny319.out, KA56.out]; exact Kd.C_drop (m := ((ji44) : Int).toNat) (c := co17) ((Kd.R_reads' (Kd.R_after (ok := (fun k_ => some k_ ≠ (.slice Ao64 y323.length co64 : Value).ownBlock)) (by (with_reducible repeat (first | apply Kd.R_alloc | apply Kd.R_drewN | apply Kd.R_drew)); exact Kd.R_mono HO_3.out (fun _ hk => ⟨hk.1.2, hk.2⟩)) hg hat)).2.2) KL56.out ((Kd.R_reads' (Kd.R_after (ok := (fun k_ => some k_ ≠ (.slice Ao64 y323.length co64 : Value).ownBlock)) (by (with_reducible repeat (first | apply Kd.R_alloc | apply Kd.R_drewN | apply Kd.R_drew)); exact Kd.R_mono HO_3.out (fun _ hk => ⟨hk.1.2, hk.2⟩)) hg hat)).2.1))); have n6_ := Aside0.mk (ho); clear HO_3; clear HO_4; clear HO325; clear HB; clear HR315; clear HR322; clear HO328; have HO_3 := n0_; have HO_4 := n1_; have HO325 := n2_; have HB := n3_; have HR315 := n4_; have HR322 := n5_; have HO331 := n6_; clear n0_ n1_ n2_ n3_ n4_ n5_ n6_; clear ho hb hg hat; obtain ⟨Ao65, co65, eo65⟩ := Kd.R_slice HO331.out; subst eo65) | ((with_reducible refine gate_callee (f := 12) rfl ?_); refine goesL_ (some 92) rfl rfl Try.func12 (by kernel_rfl) rfl #[.slice Ao65 y329.length co65] rfl (by (try simp only [List.map_toArray, List.map_cons, List.map_nil]); first | done | rfl | (simp only [List.length_drop, List.length_take]; rfl)) ?_; (with_reducible refine (impl_Framed.calls kj10 _ _ y329 t332 true _ ?side1 ?side2 A49.out).mono ?_); (case side1 => repeat (first | exact (Kd.R_reads' HO331.out).2.2 | (with_reducible refine Kd.C_alloc ?_ _) | (with_reducible refine Kd.C_drewN ?_ _) | (with_reducible refine Kd.C_drew ?_))); (case side2 => exact (Kd.R_reads' HO331.out).2.1); rintro e w66 ⟨rfl, hb⟩; refine ⟨_, rfl, ?_⟩; have n0_ := Aside0.mk (Kd.R_below (by (with_reducible repeat (first | apply Kd.R_alloc | apply Kd.R_drewN | apply Kd.R_drew)); exact HO_3.out) hb); have n1_ := Aside0.mk (Kd.R_below (by (with_reducible repeat (first | apply Kd.R_alloc | apply Kd.R_drewN | apply Kd.R_drew)); exact HO_4.out) hb); have n2_ := Aside0.mk (Kd.R_below (by (with_reducible repeat (first | apply Kd.R_alloc | apply Kd.R_drewN | apply Kd.R_drew)); exact HO325.out) hb); have n3_ := Aside0.mk (Kd.R_below (by (with_reducible repeat (first | apply Kd.R_alloc | apply Kd.R_drewN | apply Kd.R_drew)); exact HO331.out) hb); have n4_ := Aside0.mk (Kd.C_below (by repeat (first | (with_reducible exact HR315.out) | (with_reducible refine Kd.C_alloc ?_ _) | (with_reducible refine Kd.C_drewN ?_ _) | (with_reducible refine Kd.C_drew ?_) | exact HR315.out)) hb); have n5_ := Aside0.mk (Kd.C_below (by repeat (first | (with_reducible exact HR322.out) | (with_reducible refine Kd.C_alloc ?_ _) | (with_reducible refine Kd.C_drewN ?_ _) | (with_reducible refine Kd.C_drew ?_) | exact HR322.out)) hb); have n6_ := Aside0.mk (below_step (by repeat (first | (with_reducible first | exact HB.out | apply below_alloc | apply pw_below_drewN | apply below_drew1) | exact HB.out)) hb); clear HO_3; clear HO_4; clear HO325; clear HO331; clear HR315; clear HR322; clear HB; have HO_3 := n0_; have HO_4 := n1_; have HO325 := n2_; have HO331 := n3_; have HR315 := n4_; have HR322 := n5_; have HB := n6_; clear n0_ n1_ n2_ n3_ n4_ n5_ n6_; (try clear hb); (try clear hb2); (try clear hk); (try clear hi)) | (go_at_call 15; (with_reducible refine (impl_UnitsIn.calls kj10 t332 t334 _ A52.out).mono ?_); rintro e w67 ⟨v335, rfl, ho0, hb⟩; have n0_ := Aside0.mk (Kd.R_elder' (by (with_reducible repeat (first | apply Kd.R_alloc | apply Kd.R_drewN | apply Kd.R_drew)); exact HO_3.out) (Kd.R_base ho0) hb); have n1_ := Aside0.mk (Kd.R_below (by (with_reducible repeat (first | apply Kd.R_alloc | apply Kd.R_drewN | apply Kd.R_drew)); exact HO_4.out) hb); have n2_ := Aside0.mk (Kd.R_elder' (by (with_reducible repeat (first | apply Kd.R_alloc | apply Kd.R_drewN | apply Kd.R_drew)); exact HO325.out) (Kd.R_base ho0) hb); have n3_ := Aside0.mk (Kd.R_elder' (by (with_reducible repeat (first | apply Kd.R_alloc | apply Kd.R_drewN | apply Kd.R_drew)); exact HO331.out) (Kd.R_base ho0) hb); have n4_ := Aside0.mk (Kd.R_lower (Kd.R_new' (Kd.R_new' (Kd.R_new' ho0 (Kd.R_lt (by (with_reducible repeat (first | apply Kd.R_alloc | apply Kd.R_drewN | apply Kd.R_drew)); exact HO_3.out))) (Kd.R_lt (by (with_reducible repeat (first | apply Kd.R_alloc | apply Kd.R_drewN | apply Kd.R_drew)); exact HO325.out))) (Kd.R_lt (by (with_reducible repeat (first | apply Kd.R_alloc | apply Kd.R_drewN | apply Kd.R_drew)); exact HO331.out))) (below_size (by repeat (first | (with_reducible first | exact HB.out | apply below_alloc | apply pw_below_drewN | apply below_drew1) | exact HB.out)))); have n5_ := Aside0.mk (Kd.C_below (by repeat (first | (with_reducible exact HR315.out) | (with_reducible refine Kd.C_alloc ?_ _) | (with_reducible refine Kd.C_drewN ?_ _) | (with_reducible refine Kd.C_drew ?_) | exact HR315.out)) hb); have n6_ := Aside0.mk (Kd.C_below (by repeat (first | (with_reducible exact HR322.out) | (with_reducible refine Kd.C_alloc ?_ _) | (with_reducible refine Kd.C_drewN ?_ _) | (with_reducible refine Kd.C_drew ?_) | exact HR322.out)) hb); have n7_ := Aside0.mk (below_step (by repeat (first | (with_reducible first | exact HB.out | apply below_alloc | apply pw_below_drewN | apply below_drew1) | exact HB.out)) hb); clear HO_3; clear HO_4; clear HO325; clear HO331; clear HR315; clear HR322; clear HB; have HO_3 := n0_; have HO_4 := n1_; have HO325 := n2_; have HO331 := n3_; have HO336 := n4_; have HR315 := n5_; have HR322 := n6_; have HB := n7_; clear n0_ n1_ n2_ n3_ n4_ n5_ n6_ n7_; (try clear hb); (try clear hb2); (try clear hk); (try clear hi); (try clear ho0); obtain ⟨Ao68, co68, eo68⟩ := Kd.R_slice HO336.out; subst eo68) | (go_at_call 14; (with_reducible refine (laws_sameTexts.calls kj10 _ _ t334 _ _ y323 t337 _ ?side1 ?side2 ?side3 ?side4 A53.out).mono ?_); (case side1 => repeat (first | exact (Kd.R_reads' HO336.out).2.2 | (with_reducible refine Kd.C_alloc ?_ _) | (with_reducible refine Kd.C_drewN ?_ _) | (with_reducible refine Kd.C_drew ?_))); (case side2 => exact (Kd.R_reads' HO336.out).2.1); (case side3 => repeat (first | exact (Kd.R_reads' HO325.out).2.2 | (with_reducible refine Kd.C_alloc ?_ _) | (with_reducible refine Kd.C_drewN ?_ _) | (with_reducible refine Kd.C_drew ?_))); (case side4 => exact (Kd.R_reads' HO325.out).2.1); rintro e w' ⟨rfl, ⟨nd, rfl⟩⟩))
                                      go_ret
                                      exact ⟨by first | rfl | (simp [errW_none, errW_some] <;> rfl) | (simp only [← hji40, ← hji44]; first | rfl | (simp [errW_none, errW_some] <;> rfl)) | (simp [*, errW_none, errW_some] <;> rfl), by repeat (first | (with_reducible first | exact HB.out | apply below_alloc | apply pw_below_drewN | apply below_drew1) | exact HB.out)⟩
                                    · rw [if_neg c51] at H
                                      have c51b0 : decide ((t332.size : Int) < (t292.size : Int)) = false := decide_eq_false c51
                                      have c51b1 : decide (t332.size < t292.size) = false := decide_eq_false (fun h => c51 (Int.ofNat_lt.mpr h))
                                      clear c51
                                      exact absurd (H.trans (congrArg some hr_.out)) (by simp)
                                  · replace c50 := Bool.eq_false_iff.mpr c50
                                    subst c50
                                    have H1 : (some false) = some r := by rw [if_neg (show ¬ (false = true) by decide)] at H; exact H
                                    clear H
                                    have H := H1
                                    clear H1
                                    exact absurd (H.trans (congrArg some hr_.out)) (by simp)
                                · rw [if_neg c48] at H
                                  exact absurd H (by simp)
                              · rw [if_neg c47] at H
                                exact absurd H (by simp)
                            · rw [if_neg c46] at H
                              exact absurd H (by simp)
                          · rw [if_neg c45] at H
                            exact absurd H (by simp)
                        · rw [if_neg c43] at H
                          exact absurd H (by simp)
                      · rw [if_neg c42] at H
                        exact absurd H (by simp)
                    · rw [if_neg c41] at H
                      exact absurd H (by simp)
                  · rw [if_neg c39] at H
                    exact absurd H (by simp)
        · rw [if_neg c10] at H
          exact absurd H (by simp)
      · rw [if_neg c9] at H
        exact absurd H (by simp)
    · rw [if_neg c6] at H
      exact absurd H (by simp)

/-- THE ONE PURE STATEMENT of laws_FnUnits: yours. -/
def laws_FnUnits.Pure : Prop := ∀ (l0 : List Int), l0.length ≤ maxLen → l0.length * 1 ≤ 140737488351232 → (∀ x ∈ l0, (Lit.int .u8 x).wf = true) → ∃ k, laws_FnUnits.f k l0 = some true
theorem laws_FnUnits.walk (P : laws_FnUnits.Pure) (a0 : Option Addr) (len0 cap0 : Nat) (z0 : List Int) (w : World) (w0 : (a0 = none ∧ len0 = 0 ∧ cap0 = 0 ∧ z0 = []) ∨ ∃ x, a0 = some x ∧ len0 ≤ cap0 ∧ cap0 ≤ maxLen ∧ z0.length = cap0 ∧ (∀ i, i < z0.length → w.cell? (x.add i) = some (.int .u8 (z0.getD i 0))) ∧ ∀ n ∈ z0, (Lit.int .u8 n).wf = true) (y0 : len0 * 1 ≤ 140737488351232) :
    Calls Try.prog 3 #[.slice a0 len0 cap0] w fun e w' => e = .returned (.bool true) ∧ Below w.heap.size w w' := by
  obtain ⟨l0, rfl, hr0, hm0, hw0, hc0⟩ := ReadsInt.ofRowC w0
  obtain ⟨k, h⟩ := P l0 hm0 y0 hw0
  refine (laws_FnUnits.calls k _ _ l0 true w (Kd.C_of_reads (d := (0 : Int)) (h1 := fun _ => rfl) hr0) hc0 h ⟨rfl⟩).mono ?_
  rintro e w' ⟨rfl, hd⟩
  exact ⟨rfl, hd⟩

end Go.Proofs.Ytjcpapjochlndaa.QFnUnits
