/- The machine side of a law's functions, written by this session's own program (a variant of the print); Lean checks it. -/
import Derived.Test.YtheafkkpapnmdaaQFnSignedx0
import Derived.Test.YtheafkkpapnmdaaQFnSignedx1
import Derived.Test.YtheafkkpapnmdaaQFnSignedx2
import Derived.Test.YtheafkkpapnmdaaQFnSignedx3
namespace Go.Proofs.Ytheafkkpapnmdaa.QFnSigned
open Go.RowKit Go.Proofs.YtheafkkpapnmdaaW.PrintWords Go.Proofs.YtheafkkpapnmdaaW.PrintLast Go.Proofs.YtheafkkpapnmdaaW.PrintMore
attribute [local go_sem] max2_int min2_int max_two min_two max_three min_three max_four min_four   -- for this text's walks alone
set_option linter.unusedVariables false
set_option linter.unusedSimpArgs false

/-! ### laws_FnSigned: function 3 -/
def laws_FnSigned.j0 : Nat → ByteArray → Int → ByteArray → Bool → Int → Int → Bool → Int → Bool → Int → Bool → Int → Option (Bool)
  | 0, _, _, _, _, _, _, _, _, _, _, _, _ => none
  | k + 1, x4, x5, x6, x7, x8, x9, x10, x11, x12, x13, x14, x15 => if x5 < 0 then (if x7 = true then (if x10 = true then (if x12 = true then (if x14 = true then (if x8 = x5 then (if x9 = (wrap64 ((x4.size : Int) + (x6.size : Int))) then (if x13 = x5 then (if x11 ≥ 0 then ((impl_SeSize.f k x5).bind fun t222 => (if t222 = (x6.size : Int) then ((impl_SeSize.f k (wrap64 (x5 + 1))).bind fun t223 => (if t223 ≤ (x6.size : Int) then ((impl_SeSize.f k (wrap64 (x5 + 1))).bind fun t224 => (some (decide (t224 > 0)))) else (some false))) else (some false))) else (some false)) else (some false)) else (some false)) else (some false)) else (some false)) else (some false)) else (some false)) else (some false)) else (if x7 = true then (if x10 = true then (if x12 = true then (if x14 = true then (if x8 = x5 then (if x9 = (wrap64 ((x4.size : Int) + (x6.size : Int))) then (if x13 = x5 then (if x11 ≥ 0 then ((impl_SeSize.f k x5).bind fun t225 => (if t225 = (x6.size : Int) then ((impl_SeSize.f k x15).bind fun t226 => (if t226 ≤ (x6.size : Int) then ((impl_SeSize.f k x15).bind fun t227 => (some (decide (t227 > 0)))) else (some false))) else (some false))) else (some false)) else (some false)) else (some false)) else (some false)) else (some false)) else (some false)) else (some false)) else (some false))
def laws_FnSigned.f (k : Nat) (l0 : List Int) : Option (Bool) := (laws_big.f l0).bind fun t203 => (if t203 = true then (some true) else ((spec_DrawPlaces.f k l0).bind fun t204 => ((spec_DrawRow.f k l0).bind fun t207 => (if 0 < (t204.length : Int) then (if 1 < (t204.length : Int) then (if 2 < (t204.length : Int) then (if 0 ≤ (IntKind.u64.wrap (Int.tmod (rd t204 2) 20)) then (if 3 < (t204.length : Int) then ((impl_SeRow.f k (wrap64 ((shr .i64 (wrap64 ((wrap64 ((rd t204 0) * 50)) + (Int.tmod (rd t204 1) 50))) (IntKind.u64.wrap (Int.tmod (rd t204 2) 20))) - (wrap64 ((Int.tmod (rd t204 3) 3) * (Int.tmod (rd t204 3) 200)))))).bind fun bt213 => (if t207.size + bt213.1.size ≤ 9223372036854775807 then ((impl_ReadSe.f k (t207 ++ bt213.1) (t207.size : Int)).bind fun bt215 => ((impl_FoldSe.f (wrap64 ((shr .i64 (wrap64 ((wrap64 ((rd t204 0) * 50)) + (Int.tmod (rd t204 1) 50))) (IntKind.u64.wrap (Int.tmod (rd t204 2) 20))) - (wrap64 ((Int.tmod (rd t204 3) 3) * (Int.tmod (rd t204 3) 200)))))).bind fun bt218 => ((impl_OpenSe.f bt218.1).bind fun bt220 => (if (wrap64 ((shr .i64 (wrap64 ((wrap64 ((rd t204 0) * 50)) + (Int.tmod (rd t204 1) 50))) (IntKind.u64.wrap (Int.tmod (rd t204 2) 20))) - (wrap64 ((Int.tmod (rd t204 3) 3) * (Int.tmod (rd t204 3) 200))))) > 0 then (laws_FnSigned.j0 k t207 (wrap64 ((shr .i64 (wrap64 ((wrap64 ((rd t204 0) * 50)) + (Int.tmod (rd t204 1) 50))) (IntKind.u64.wrap (Int.tmod (rd t204 2) 20))) - (wrap64 ((Int.tmod (rd t204 3) 3) * (Int.tmod (rd t204 3) 200))))) bt213.1 bt213.2 bt215.1 bt215.2.1 bt215.2.2 bt218.1 bt218.2 bt220.1 bt220.2 (wrap64 ((wrap64 ((shr .i64 (wrap64 ((wrap64 ((rd t204 0) * 50)) + (Int.tmod (rd t204 1) 50))) (IntKind.u64.wrap (Int.tmod (rd t204 2) 20))) - (wrap64 ((Int.tmod (rd t204 3) 3) * (Int.tmod (rd t204 3) 200))))) - 1))) else (laws_FnSigned.j0 k t207 (wrap64 ((shr .i64 (wrap64 ((wrap64 ((rd t204 0) * 50)) + (Int.tmod (rd t204 1) 50))) (IntKind.u64.wrap (Int.tmod (rd t204 2) 20))) - (wrap64 ((Int.tmod (rd t204 3) 3) * (Int.tmod (rd t204 3) 200))))) bt213.1 bt213.2 bt215.1 bt215.2.1 bt215.2.2 bt218.1 bt218.2 bt220.1 bt220.2 0))))) else (none))) else (none)) else (none)) else (none)) else (none)) else (none)))))
theorem laws_FnSigned.mono_l : ∀ k, (∀ y0 y1 y2 y3 y4 y5 y6 y7 y8 y9 y10 y11, LeO (laws_FnSigned.j0 k y0 y1 y2 y3 y4 y5 y6 y7 y8 y9 y10 y11) (laws_FnSigned.j0 (k + 1) y0 y1 y2 y3 y4 y5 y6 y7 y8 y9 y10 y11))
  | 0 => fun _ _ _ _ _ _ _ _ _ _ _ _ r h => by simp [laws_FnSigned.j0] at h
  | k + 1 => by
    have ih0 := laws_FnSigned.mono_l k
    · intro y0 y1 y2 y3 y4 y5 y6 y7 y8 y9 y10 y11
      unfold laws_FnSigned.j0
      repeat' first
      | (with_reducible exact ih0 _ _ _ _ _ _ _ _ _ _ _ _)
      | (with_reducible exact impl_ReadSe.mono _ _ _)
      | (with_reducible exact impl_SeRow.mono _ _)
      | (with_reducible exact impl_SeSize.mono _ _)
      | (with_reducible exact spec_DrawPlaces.mono _ _)
      | (with_reducible exact spec_DrawRow.mono _ _)
      | (with_reducible exact LeO.refl _)
      | (with_reducible exact LeO.none _)
      | (with_reducible refine LeO.ite ?_ ?_)
      | (with_reducible refine LeO.bind ?_ (fun _ => ?_))
      | exact ih0 _ _ _ _ _ _ _ _ _ _ _ _
      | exact impl_ReadSe.mono _ _ _
      | exact impl_SeRow.mono _ _
      | exact impl_SeSize.mono _ _
      | exact spec_DrawPlaces.mono _ _
      | exact spec_DrawRow.mono _ _
      | exact LeO.none _
      | refine LeO.ite ?_ ?_
      | refine LeO.bind ?_ (fun _ => ?_)
theorem laws_FnSigned.mono : ∀ a0 k, LeO (laws_FnSigned.f k a0) (laws_FnSigned.f (k + 1) a0) := by
  intro a0 k
  have ih0 := laws_FnSigned.mono_l k
  unfold laws_FnSigned.f
  repeat' first
      | (with_reducible exact ih0 _ _ _ _ _ _ _ _ _ _ _ _)
      | (with_reducible exact impl_ReadSe.mono _ _ _)
      | (with_reducible exact impl_SeRow.mono _ _)
      | (with_reducible exact impl_SeSize.mono _ _)
      | (with_reducible exact spec_DrawPlaces.mono _ _)
      | (with_reducible exact spec_DrawRow.mono _ _)
      | (with_reducible exact LeO.refl _)
      | (with_reducible exact LeO.none _)
      | (with_reducible refine LeO.ite ?_ ?_)
      | (with_reducible refine LeO.bind ?_ (fun _ => ?_))
      | exact ih0 _ _ _ _ _ _ _ _ _ _ _ _
      | exact impl_ReadSe.mono _ _ _
      | exact impl_SeRow.mono _ _
      | exact impl_SeSize.mono _ _
      | exact spec_DrawPlaces.mono _ _
      | exact spec_DrawRow.mono _ _
      | exact LeO.none _
      | refine LeO.ite ?_ ?_
      | refine LeO.bind ?_ (fun _ => ?_)
set_option maxHeartbeats 8000000 in
set_option maxRecDepth 100000 in
theorem laws_FnSigned.calls (k : Nat) (A0 : Option Addr) (c0 : Nat) (l0 : List Int) (r : Bool) (w : World) (hr0 : Kd.C (Kd.int .u8) w A0 l0.length l0) (hc0 : l0.length ≤ c0) (h : laws_FnSigned.f k l0 = some r) (hr_ : Aside0 (r = true)) :
    Calls Try.prog 3 #[.slice A0 l0.length c0] w fun e w' => e = .returned (.bool r) ∧ Below w.heap.size w w' := by
  have HR0 := Aside0.mk hr0
  have HC0 := Aside0.mk hc0
  clear hr0 hc0
  have HB := Aside0.mk (Below.refl w.heap.size w)
  have H : ((laws_big.f l0).bind fun t203 => (if t203 = true then (some true) else ((spec_DrawPlaces.f k l0).bind fun t204 => ((spec_DrawRow.f k l0).bind fun t207 => (if 0 < (t204.length : Int) then (if 1 < (t204.length : Int) then (if 2 < (t204.length : Int) then (if 0 ≤ (IntKind.u64.wrap (Int.tmod (rd t204 2) 20)) then (if 3 < (t204.length : Int) then ((impl_SeRow.f k (wrap64 ((shr .i64 (wrap64 ((wrap64 ((rd t204 0) * 50)) + (Int.tmod (rd t204 1) 50))) (IntKind.u64.wrap (Int.tmod (rd t204 2) 20))) - (wrap64 ((Int.tmod (rd t204 3) 3) * (Int.tmod (rd t204 3) 200)))))).bind fun bt213 => (if t207.size + bt213.1.size ≤ 9223372036854775807 then ((impl_ReadSe.f k (t207 ++ bt213.1) (t207.size : Int)).bind fun bt215 => ((impl_FoldSe.f (wrap64 ((shr .i64 (wrap64 ((wrap64 ((rd t204 0) * 50)) + (Int.tmod (rd t204 1) 50))) (IntKind.u64.wrap (Int.tmod (rd t204 2) 20))) - (wrap64 ((Int.tmod (rd t204 3) 3) * (Int.tmod (rd t204 3) 200)))))).bind fun bt218 => ((impl_OpenSe.f bt218.1).bind fun bt220 => (if (wrap64 ((shr .i64 (wrap64 ((wrap64 ((rd t204 0) * 50)) + (Int.tmod (rd t204 1) 50))) (IntKind.u64.wrap (Int.tmod (rd t204 2) 20))) - (wrap64 ((Int.tmod (rd t204 3) 3) * (Int.tmod (rd t204 3) 200))))) > 0 then (laws_FnSigned.j0 k t207 (wrap64 ((shr .i64 (wrap64 ((wrap64 ((rd t204 0) * 50)) + (Int.tmod (rd t204 1) 50))) (IntKind.u64.wrap (Int.tmod (rd t204 2) 20))) - (wrap64 ((Int.tmod (rd t204 3) 3) * (Int.tmod (rd t204 3) 200))))) bt213.1 bt213.2 bt215.1 bt215.2.1 bt215.2.2 bt218.1 bt218.2 bt220.1 bt220.2 (wrap64 ((wrap64 ((shr .i64 (wrap64 ((wrap64 ((rd t204 0) * 50)) + (Int.tmod (rd t204 1) 50))) (IntKind.u64.wrap (Int.tmod (rd t204 2) 20))) - (wrap64 ((Int.tmod (rd t204 3) 3) * (Int.tmod (rd t204 3) 200))))) - 1))) else (laws_FnSigned.j0 k t207 (wrap64 ((shr .i64 (wrap64 ((wrap64 ((rd t204 0) * 50)) + (Int.tmod (rd t204 1) 50))) (IntKind.u64.wrap (Int.tmod (rd t204 2) 20))) - (wrap64 ((Int.tmod (rd t204 3) 3) * (Int.tmod (rd t204 3) 200))))) bt213.1 bt213.2 bt215.1 bt215.2.1 bt215.2.2 bt218.1 bt218.2 bt220.1 bt220.2 0))))) else (none))) else (none)) else (none)) else (none)) else (none)) else (none)))))) = some r := h
  clear h
  replace H := Option.bind_eq_some_iff.mp H
  obtain ⟨t203, A20, H⟩ := H
  replace H : (if t203 = true then (some true) else ((spec_DrawPlaces.f k l0).bind fun t204 => ((spec_DrawRow.f k l0).bind fun t207 => (if 0 < (t204.length : Int) then (if 1 < (t204.length : Int) then (if 2 < (t204.length : Int) then (if 0 ≤ (IntKind.u64.wrap (Int.tmod (rd t204 2) 20)) then (if 3 < (t204.length : Int) then ((impl_SeRow.f k (wrap64 ((shr .i64 (wrap64 ((wrap64 ((rd t204 0) * 50)) + (Int.tmod (rd t204 1) 50))) (IntKind.u64.wrap (Int.tmod (rd t204 2) 20))) - (wrap64 ((Int.tmod (rd t204 3) 3) * (Int.tmod (rd t204 3) 200)))))).bind fun bt213 => (if t207.size + bt213.1.size ≤ 9223372036854775807 then ((impl_ReadSe.f k (t207 ++ bt213.1) (t207.size : Int)).bind fun bt215 => ((impl_FoldSe.f (wrap64 ((shr .i64 (wrap64 ((wrap64 ((rd t204 0) * 50)) + (Int.tmod (rd t204 1) 50))) (IntKind.u64.wrap (Int.tmod (rd t204 2) 20))) - (wrap64 ((Int.tmod (rd t204 3) 3) * (Int.tmod (rd t204 3) 200)))))).bind fun bt218 => ((impl_OpenSe.f bt218.1).bind fun bt220 => (if (wrap64 ((shr .i64 (wrap64 ((wrap64 ((rd t204 0) * 50)) + (Int.tmod (rd t204 1) 50))) (IntKind.u64.wrap (Int.tmod (rd t204 2) 20))) - (wrap64 ((Int.tmod (rd t204 3) 3) * (Int.tmod (rd t204 3) 200))))) > 0 then (laws_FnSigned.j0 k t207 (wrap64 ((shr .i64 (wrap64 ((wrap64 ((rd t204 0) * 50)) + (Int.tmod (rd t204 1) 50))) (IntKind.u64.wrap (Int.tmod (rd t204 2) 20))) - (wrap64 ((Int.tmod (rd t204 3) 3) * (Int.tmod (rd t204 3) 200))))) bt213.1 bt213.2 bt215.1 bt215.2.1 bt215.2.2 bt218.1 bt218.2 bt220.1 bt220.2 (wrap64 ((wrap64 ((shr .i64 (wrap64 ((wrap64 ((rd t204 0) * 50)) + (Int.tmod (rd t204 1) 50))) (IntKind.u64.wrap (Int.tmod (rd t204 2) 20))) - (wrap64 ((Int.tmod (rd t204 3) 3) * (Int.tmod (rd t204 3) 200))))) - 1))) else (laws_FnSigned.j0 k t207 (wrap64 ((shr .i64 (wrap64 ((wrap64 ((rd t204 0) * 50)) + (Int.tmod (rd t204 1) 50))) (IntKind.u64.wrap (Int.tmod (rd t204 2) 20))) - (wrap64 ((Int.tmod (rd t204 3) 3) * (Int.tmod (rd t204 3) 200))))) bt213.1 bt213.2 bt215.1 bt215.2.1 bt215.2.2 bt218.1 bt218.2 bt220.1 bt220.2 0))))) else (none))) else (none)) else (none)) else (none)) else (none)) else (none))))) = some r := H
  have A2 := Aside0.mk A20
  clear A20
  by_cases c3 : t203 = true
  · subst c3
    have H1 : (some true) = some r := by rw [if_pos rfl] at H; exact H
    clear H
    have H := H1
    clear H1
    obtain rfl := Option.some.inj H
    go_enter Try.func3, Try.ntmps3
    go_wp2_with (first | (go_at_call 14; (with_reducible refine (laws_big.calls _ _ l0 true _ ?side1 ?side2 A2.out).mono ?_); (case side1 => repeat (first | exact HR0.out | (with_reducible refine Kd.C_alloc ?_ _) | (with_reducible refine Kd.C_drewN ?_ _) | (with_reducible refine Kd.C_drew ?_))); (case side2 => exact HC0.out); rintro e w' ⟨rfl, ⟨nd, rfl⟩⟩; (try first | exact ⟨rfl, _, World.drewN_drewN _ _ _⟩ | exact ⟨rfl, _, Eq.trans (World.drewN_drewN _ _ _) (congrArg (World.drewN _) (Nat.add_assoc _ _ _))⟩)))
    repeat (go_quiet (first | (go_at_call 14; (with_reducible refine (laws_big.calls _ _ l0 true _ ?side1 ?side2 A2.out).mono ?_); (case side1 => repeat (first | exact HR0.out | (with_reducible refine Kd.C_alloc ?_ _) | (with_reducible refine Kd.C_drewN ?_ _) | (with_reducible refine Kd.C_drew ?_))); (case side2 => exact HC0.out); rintro e w' ⟨rfl, ⟨nd, rfl⟩⟩; (try first | exact ⟨rfl, _, World.drewN_drewN _ _ _⟩ | exact ⟨rfl, _, Eq.trans (World.drewN_drewN _ _ _) (congrArg (World.drewN _) (Nat.add_assoc _ _ _))⟩))); try go_wp2_with (first | (go_at_call 14; (with_reducible refine (laws_big.calls _ _ l0 true _ ?side1 ?side2 A2.out).mono ?_); (case side1 => repeat (first | exact HR0.out | (with_reducible refine Kd.C_alloc ?_ _) | (with_reducible refine Kd.C_drewN ?_ _) | (with_reducible refine Kd.C_drew ?_))); (case side2 => exact HC0.out); rintro e w' ⟨rfl, ⟨nd, rfl⟩⟩; (try first | exact ⟨rfl, _, World.drewN_drewN _ _ _⟩ | exact ⟨rfl, _, Eq.trans (World.drewN_drewN _ _ _) (congrArg (World.drewN _) (Nat.add_assoc _ _ _))⟩))))
    go_ret
    exact ⟨by first | rfl | (simp [errW_none, errW_some] <;> rfl) | (simp [*, errW_none, errW_some] <;> rfl), by repeat (first | (with_reducible first | exact HB.out | apply below_alloc | apply pw_below_drewN | apply below_drew1) | exact HB.out)⟩
  · replace c3 := Bool.eq_false_iff.mpr c3
    subst c3
    have H1 : ((spec_DrawPlaces.f k l0).bind fun t204 => ((spec_DrawRow.f k l0).bind fun t207 => (if 0 < (t204.length : Int) then (if 1 < (t204.length : Int) then (if 2 < (t204.length : Int) then (if 0 ≤ (IntKind.u64.wrap (Int.tmod (rd t204 2) 20)) then (if 3 < (t204.length : Int) then ((impl_SeRow.f k (wrap64 ((shr .i64 (wrap64 ((wrap64 ((rd t204 0) * 50)) + (Int.tmod (rd t204 1) 50))) (IntKind.u64.wrap (Int.tmod (rd t204 2) 20))) - (wrap64 ((Int.tmod (rd t204 3) 3) * (Int.tmod (rd t204 3) 200)))))).bind fun bt213 => (if t207.size + bt213.1.size ≤ 9223372036854775807 then ((impl_ReadSe.f k (t207 ++ bt213.1) (t207.size : Int)).bind fun bt215 => ((impl_FoldSe.f (wrap64 ((shr .i64 (wrap64 ((wrap64 ((rd t204 0) * 50)) + (Int.tmod (rd t204 1) 50))) (IntKind.u64.wrap (Int.tmod (rd t204 2) 20))) - (wrap64 ((Int.tmod (rd t204 3) 3) * (Int.tmod (rd t204 3) 200)))))).bind fun bt218 => ((impl_OpenSe.f bt218.1).bind fun bt220 => (if (wrap64 ((shr .i64 (wrap64 ((wrap64 ((rd t204 0) * 50)) + (Int.tmod (rd t204 1) 50))) (IntKind.u64.wrap (Int.tmod (rd t204 2) 20))) - (wrap64 ((Int.tmod (rd t204 3) 3) * (Int.tmod (rd t204 3) 200))))) > 0 then (laws_FnSigned.j0 k t207 (wrap64 ((shr .i64 (wrap64 ((wrap64 ((rd t204 0) * 50)) + (Int.tmod (rd t204 1) 50))) (IntKind.u64.wrap (Int.tmod (rd t204 2) 20))) - (wrap64 ((Int.tmod (rd t204 3) 3) * (Int.tmod (rd t204 3) 200))))) bt213.1 bt213.2 bt215.1 bt215.2.1 bt215.2.2 bt218.1 bt218.2 bt220.1 bt220.2 (wrap64 ((wrap64 ((shr .i64 (wrap64 ((wrap64 ((rd t204 0) * 50)) + (Int.tmod (rd t204 1) 50))) (IntKind.u64.wrap (Int.tmod (rd t204 2) 20))) - (wrap64 ((Int.tmod (rd t204 3) 3) * (Int.tmod (rd t204 3) 200))))) - 1))) else (laws_FnSigned.j0 k t207 (wrap64 ((shr .i64 (wrap64 ((wrap64 ((rd t204 0) * 50)) + (Int.tmod (rd t204 1) 50))) (IntKind.u64.wrap (Int.tmod (rd t204 2) 20))) - (wrap64 ((Int.tmod (rd t204 3) 3) * (Int.tmod (rd t204 3) 200))))) bt213.1 bt213.2 bt215.1 bt215.2.1 bt215.2.2 bt218.1 bt218.2 bt220.1 bt220.2 0))))) else (none))) else (none)) else (none)) else (none)) else (none)) else (none)))) = some r := by rw [if_neg (show ¬ (false = true) by decide)] at H; exact H
    clear H
    have H := H1
    clear H1
    replace H := Option.bind_eq_some_iff.mp H
    obtain ⟨t204, A40, H⟩ := H
    replace H : ((spec_DrawRow.f k l0).bind fun t207 => (if 0 < (t204.length : Int) then (if 1 < (t204.length : Int) then (if 2 < (t204.length : Int) then (if 0 ≤ (IntKind.u64.wrap (Int.tmod (rd t204 2) 20)) then (if 3 < (t204.length : Int) then ((impl_SeRow.f k (wrap64 ((shr .i64 (wrap64 ((wrap64 ((rd t204 0) * 50)) + (Int.tmod (rd t204 1) 50))) (IntKind.u64.wrap (Int.tmod (rd t204 2) 20))) - (wrap64 ((Int.tmod (rd t204 3) 3) * (Int.tmod (rd t204 3) 200)))))).bind fun bt213 => (if t207.size + bt213.1.size ≤ 9223372036854775807 then ((impl_ReadSe.f k (t207 ++ bt213.1) (t207.size : Int)).bind fun bt215 => ((impl_FoldSe.f (wrap64 ((shr .i64 (wrap64 ((wrap64 ((rd t204 0) * 50)) + (Int.tmod (rd t204 1) 50))) (IntKind.u64.wrap (Int.tmod (rd t204 2) 20))) - (wrap64 ((Int.tmod (rd t204 3) 3) * (Int.tmod (rd t204 3) 200)))))).bind fun bt218 => ((impl_OpenSe.f bt218.1).bind fun bt220 => (if (wrap64 ((shr .i64 (wrap64 ((wrap64 ((rd t204 0) * 50)) + (Int.tmod (rd t204 1) 50))) (IntKind.u64.wrap (Int.tmod (rd t204 2) 20))) - (wrap64 ((Int.tmod (rd t204 3) 3) * (Int.tmod (rd t204 3) 200))))) > 0 then (laws_FnSigned.j0 k t207 (wrap64 ((shr .i64 (wrap64 ((wrap64 ((rd t204 0) * 50)) + (Int.tmod (rd t204 1) 50))) (IntKind.u64.wrap (Int.tmod (rd t204 2) 20))) - (wrap64 ((Int.tmod (rd t204 3) 3) * (Int.tmod (rd t204 3) 200))))) bt213.1 bt213.2 bt215.1 bt215.2.1 bt215.2.2 bt218.1 bt218.2 bt220.1 bt220.2 (wrap64 ((wrap64 ((shr .i64 (wrap64 ((wrap64 ((rd t204 0) * 50)) + (Int.tmod (rd t204 1) 50))) (IntKind.u64.wrap (Int.tmod (rd t204 2) 20))) - (wrap64 ((Int.tmod (rd t204 3) 3) * (Int.tmod (rd t204 3) 200))))) - 1))) else (laws_FnSigned.j0 k t207 (wrap64 ((shr .i64 (wrap64 ((wrap64 ((rd t204 0) * 50)) + (Int.tmod (rd t204 1) 50))) (IntKind.u64.wrap (Int.tmod (rd t204 2) 20))) - (wrap64 ((Int.tmod (rd t204 3) 3) * (Int.tmod (rd t204 3) 200))))) bt213.1 bt213.2 bt215.1 bt215.2.1 bt215.2.2 bt218.1 bt218.2 bt220.1 bt220.2 0))))) else (none))) else (none)) else (none)) else (none)) else (none)) else (none))) = some r := H
    have A4 := Aside0.mk A40
    clear A40
    replace H := Option.bind_eq_some_iff.mp H
    obtain ⟨t207, A50, H⟩ := H
    replace H : (if 0 < (t204.length : Int) then (if 1 < (t204.length : Int) then (if 2 < (t204.length : Int) then (if 0 ≤ (IntKind.u64.wrap (Int.tmod (rd t204 2) 20)) then (if 3 < (t204.length : Int) then ((impl_SeRow.f k (wrap64 ((shr .i64 (wrap64 ((wrap64 ((rd t204 0) * 50)) + (Int.tmod (rd t204 1) 50))) (IntKind.u64.wrap (Int.tmod (rd t204 2) 20))) - (wrap64 ((Int.tmod (rd t204 3) 3) * (Int.tmod (rd t204 3) 200)))))).bind fun bt213 => (if t207.size + bt213.1.size ≤ 9223372036854775807 then ((impl_ReadSe.f k (t207 ++ bt213.1) (t207.size : Int)).bind fun bt215 => ((impl_FoldSe.f (wrap64 ((shr .i64 (wrap64 ((wrap64 ((rd t204 0) * 50)) + (Int.tmod (rd t204 1) 50))) (IntKind.u64.wrap (Int.tmod (rd t204 2) 20))) - (wrap64 ((Int.tmod (rd t204 3) 3) * (Int.tmod (rd t204 3) 200)))))).bind fun bt218 => ((impl_OpenSe.f bt218.1).bind fun bt220 => (if (wrap64 ((shr .i64 (wrap64 ((wrap64 ((rd t204 0) * 50)) + (Int.tmod (rd t204 1) 50))) (IntKind.u64.wrap (Int.tmod (rd t204 2) 20))) - (wrap64 ((Int.tmod (rd t204 3) 3) * (Int.tmod (rd t204 3) 200))))) > 0 then (laws_FnSigned.j0 k t207 (wrap64 ((shr .i64 (wrap64 ((wrap64 ((rd t204 0) * 50)) + (Int.tmod (rd t204 1) 50))) (IntKind.u64.wrap (Int.tmod (rd t204 2) 20))) - (wrap64 ((Int.tmod (rd t204 3) 3) * (Int.tmod (rd t204 3) 200))))) bt213.1 bt213.2 bt215.1 bt215.2.1 bt215.2.2 bt218.1 bt218.2 bt220.1 bt220.2 (wrap64 ((wrap64 ((shr .i64 (wrap64 ((wrap64 ((rd t204 0) * 50)) + (Int.tmod (rd t204 1) 50))) (IntKind.u64.wrap (Int.tmod (rd t204 2) 20))) - (wrap64 ((Int.tmod (rd t204 3) 3) * (Int.tmod (rd t204 3) 200))))) - 1))) else (laws_FnSigned.j0 k t207 (wrap64 ((shr .i64 (wrap64 ((wrap64 ((rd t204 0) * 50)) + (Int.tmod (rd t204 1) 50))) (IntKind.u64.wrap (Int.tmod (rd t204 2) 20))) - (wrap64 ((Int.tmod (rd t204 3) 3) * (Int.tmod (rd t204 3) 200))))) bt213.1 bt213.2 bt215.1 bt215.2.1 bt215.2.2 bt218.1 bt218.2 bt220.1 bt220.2 0))))) else (none))) else (none)) else (none)) else (none)) else (none)) else (none)) = some r := H
    have A5 := Aside0.mk A50
    clear A50
    by_cases c6 : 0 < (t204.length : Int)
    · rw [if_pos c6] at H
      have c6b0 : decide (0 < (t204.length : Int)) = true := decide_eq_true c6
      have c6b1 : decide (0 < t204.length) = true := decide_eq_true (by omega)
      clear c6
      by_cases c7 : 1 < (t204.length : Int)
      · rw [if_pos c7] at H
        have c7b0 : decide (1 < (t204.length : Int)) = true := decide_eq_true c7
        have c7b1 : decide (1 < t204.length) = true := decide_eq_true (by omega)
        clear c7
        by_cases c8 : 2 < (t204.length : Int)
        · rw [if_pos c8] at H
          have c8b0 : decide (2 < (t204.length : Int)) = true := decide_eq_true c8
          have c8b1 : decide (2 < t204.length) = true := decide_eq_true (by omega)
          clear c8
          obtain ⟨ji9, hji9⟩ : ∃ j_ : Int, (IntKind.u64.wrap (Int.tmod (rd t204 2) 20)) = j_ := ⟨_, rfl⟩
          replace H : (if 0 ≤ (ji9) then (if 3 < (t204.length : Int) then ((impl_SeRow.f k (wrap64 ((shr .i64 (wrap64 ((wrap64 ((rd t204 0) * 50)) + (Int.tmod (rd t204 1) 50))) (ji9)) - (wrap64 ((Int.tmod (rd t204 3) 3) * (Int.tmod (rd t204 3) 200)))))).bind fun bt213 => (if t207.size + bt213.1.size ≤ 9223372036854775807 then ((impl_ReadSe.f k (t207 ++ bt213.1) (t207.size : Int)).bind fun bt215 => ((impl_FoldSe.f (wrap64 ((shr .i64 (wrap64 ((wrap64 ((rd t204 0) * 50)) + (Int.tmod (rd t204 1) 50))) (ji9)) - (wrap64 ((Int.tmod (rd t204 3) 3) * (Int.tmod (rd t204 3) 200)))))).bind fun bt218 => ((impl_OpenSe.f bt218.1).bind fun bt220 => (if (wrap64 ((shr .i64 (wrap64 ((wrap64 ((rd t204 0) * 50)) + (Int.tmod (rd t204 1) 50))) (ji9)) - (wrap64 ((Int.tmod (rd t204 3) 3) * (Int.tmod (rd t204 3) 200))))) > 0 then (laws_FnSigned.j0 k t207 (wrap64 ((shr .i64 (wrap64 ((wrap64 ((rd t204 0) * 50)) + (Int.tmod (rd t204 1) 50))) (ji9)) - (wrap64 ((Int.tmod (rd t204 3) 3) * (Int.tmod (rd t204 3) 200))))) bt213.1 bt213.2 bt215.1 bt215.2.1 bt215.2.2 bt218.1 bt218.2 bt220.1 bt220.2 (wrap64 ((wrap64 ((shr .i64 (wrap64 ((wrap64 ((rd t204 0) * 50)) + (Int.tmod (rd t204 1) 50))) (ji9)) - (wrap64 ((Int.tmod (rd t204 3) 3) * (Int.tmod (rd t204 3) 200))))) - 1))) else (laws_FnSigned.j0 k t207 (wrap64 ((shr .i64 (wrap64 ((wrap64 ((rd t204 0) * 50)) + (Int.tmod (rd t204 1) 50))) (ji9)) - (wrap64 ((Int.tmod (rd t204 3) 3) * (Int.tmod (rd t204 3) 200))))) bt213.1 bt213.2 bt215.1 bt215.2.1 bt215.2.2 bt218.1 bt218.2 bt220.1 bt220.2 0))))) else (none))) else (none)) else (none)) = some r := by first | (rw [hji9] at H; exact H) | (simp only [hji9] at H ⊢; exact H)
          (try rw [hji9] at A2)
          (try rw [hji9] at A4)
          (try rw [hji9] at A5)
          by_cases c10 : 0 ≤ (ji9)
          · rw [if_pos c10] at H
            have c10b0 := eq_true c10
            have c10b1 : decide (0 ≤ (ji9)) = true := decide_eq_true c10
            clear c10
            obtain ⟨ji11, hji11⟩ : ∃ j_ : Int, (shr .i64 (wrap64 ((wrap64 ((rd t204 0) * 50)) + (Int.tmod (rd t204 1) 50))) (ji9)) = j_ := ⟨_, rfl⟩
            replace H : (if 3 < (t204.length : Int) then ((impl_SeRow.f k (wrap64 ((ji11) - (wrap64 ((Int.tmod (rd t204 3) 3) * (Int.tmod (rd t204 3) 200)))))).bind fun bt213 => (if t207.size + bt213.1.size ≤ 9223372036854775807 then ((impl_ReadSe.f k (t207 ++ bt213.1) (t207.size : Int)).bind fun bt215 => ((impl_FoldSe.f (wrap64 ((ji11) - (wrap64 ((Int.tmod (rd t204 3) 3) * (Int.tmod (rd t204 3) 200)))))).bind fun bt218 => ((impl_OpenSe.f bt218.1).bind fun bt220 => (if (wrap64 ((ji11) - (wrap64 ((Int.tmod (rd t204 3) 3) * (Int.tmod (rd t204 3) 200))))) > 0 then (laws_FnSigned.j0 k t207 (wrap64 ((ji11) - (wrap64 ((Int.tmod (rd t204 3) 3) * (Int.tmod (rd t204 3) 200))))) bt213.1 bt213.2 bt215.1 bt215.2.1 bt215.2.2 bt218.1 bt218.2 bt220.1 bt220.2 (wrap64 ((wrap64 ((ji11) - (wrap64 ((Int.tmod (rd t204 3) 3) * (Int.tmod (rd t204 3) 200))))) - 1))) else (laws_FnSigned.j0 k t207 (wrap64 ((ji11) - (wrap64 ((Int.tmod (rd t204 3) 3) * (Int.tmod (rd t204 3) 200))))) bt213.1 bt213.2 bt215.1 bt215.2.1 bt215.2.2 bt218.1 bt218.2 bt220.1 bt220.2 0))))) else (none))) else (none)) = some r := by first | (rw [hji11] at H; exact H) | (simp only [hji11] at H ⊢; exact H)
            (try rw [hji11] at A2)
            (try rw [hji11] at A4)
            (try rw [hji11] at A5)
            have hji11_ : ((wrap64 ((wrap64 ((rd t204 0) * 50)) + (Int.tmod (rd t204 1) 50))) / 2 ^ min (ji9).toNat 64) = ji11 := hji11
            have hji11z : (ji9) ≤ 64 → ((wrap64 ((wrap64 ((rd t204 0) * 50)) + (Int.tmod (rd t204 1) 50))) / 2 ^ (ji9).toNat) = ji11 := shr_small hji11
            by_cases c12 : 3 < (t204.length : Int)
            · rw [if_pos c12] at H
              have c12b0 : decide (3 < (t204.length : Int)) = true := decide_eq_true c12
              have c12b1 : decide (3 < t204.length) = true := decide_eq_true (by omega)
              clear c12
              replace H := Option.bind_eq_some_iff.mp H
              obtain ⟨⟨t213, t214⟩, A130, H⟩ := H
              replace H : (if t207.size + t213.size ≤ 9223372036854775807 then ((impl_ReadSe.f k (t207 ++ t213) (t207.size : Int)).bind fun bt215 => ((impl_FoldSe.f (wrap64 ((ji11) - (wrap64 ((Int.tmod (rd t204 3) 3) * (Int.tmod (rd t204 3) 200)))))).bind fun bt218 => ((impl_OpenSe.f bt218.1).bind fun bt220 => (if (wrap64 ((ji11) - (wrap64 ((Int.tmod (rd t204 3) 3) * (Int.tmod (rd t204 3) 200))))) > 0 then (laws_FnSigned.j0 k t207 (wrap64 ((ji11) - (wrap64 ((Int.tmod (rd t204 3) 3) * (Int.tmod (rd t204 3) 200))))) t213 t214 bt215.1 bt215.2.1 bt215.2.2 bt218.1 bt218.2 bt220.1 bt220.2 (wrap64 ((wrap64 ((ji11) - (wrap64 ((Int.tmod (rd t204 3) 3) * (Int.tmod (rd t204 3) 200))))) - 1))) else (laws_FnSigned.j0 k t207 (wrap64 ((ji11) - (wrap64 ((Int.tmod (rd t204 3) 3) * (Int.tmod (rd t204 3) 200))))) t213 t214 bt215.1 bt215.2.1 bt215.2.2 bt218.1 bt218.2 bt220.1 bt220.2 0))))) else (none)) = some r := H
              have A13 := Aside0.mk A130
              clear A130
              by_cases c14 : t207.size + t213.size ≤ 9223372036854775807
              · rw [if_pos c14] at H
                have c14b0 := eq_true c14
                have c14b1 : decide (t207.size + t213.size ≤ 9223372036854775807) = true := decide_eq_true c14
                try have c14b2 : (9223372036854775807 < t207.size + t213.size) = False := eq_false (Nat.not_lt.2 c14)
                try clear c14
                replace H := Option.bind_eq_some_iff.mp H
                obtain ⟨⟨t215, t216, t217⟩, A150, H⟩ := H
                replace H : ((impl_FoldSe.f (wrap64 ((ji11) - (wrap64 ((Int.tmod (rd t204 3) 3) * (Int.tmod (rd t204 3) 200)))))).bind fun bt218 => ((impl_OpenSe.f bt218.1).bind fun bt220 => (if (wrap64 ((ji11) - (wrap64 ((Int.tmod (rd t204 3) 3) * (Int.tmod (rd t204 3) 200))))) > 0 then (laws_FnSigned.j0 k t207 (wrap64 ((ji11) - (wrap64 ((Int.tmod (rd t204 3) 3) * (Int.tmod (rd t204 3) 200))))) t213 t214 t215 t216 t217 bt218.1 bt218.2 bt220.1 bt220.2 (wrap64 ((wrap64 ((ji11) - (wrap64 ((Int.tmod (rd t204 3) 3) * (Int.tmod (rd t204 3) 200))))) - 1))) else (laws_FnSigned.j0 k t207 (wrap64 ((ji11) - (wrap64 ((Int.tmod (rd t204 3) 3) * (Int.tmod (rd t204 3) 200))))) t213 t214 t215 t216 t217 bt218.1 bt218.2 bt220.1 bt220.2 0)))) = some r := H
                have A15 := Aside0.mk A150
                clear A150
                replace H := Option.bind_eq_some_iff.mp H
                obtain ⟨⟨t218, t219⟩, A160, H⟩ := H
                replace H : ((impl_OpenSe.f t218).bind fun bt220 => (if (wrap64 ((ji11) - (wrap64 ((Int.tmod (rd t204 3) 3) * (Int.tmod (rd t204 3) 200))))) > 0 then (laws_FnSigned.j0 k t207 (wrap64 ((ji11) - (wrap64 ((Int.tmod (rd t204 3) 3) * (Int.tmod (rd t204 3) 200))))) t213 t214 t215 t216 t217 t218 t219 bt220.1 bt220.2 (wrap64 ((wrap64 ((ji11) - (wrap64 ((Int.tmod (rd t204 3) 3) * (Int.tmod (rd t204 3) 200))))) - 1))) else (laws_FnSigned.j0 k t207 (wrap64 ((ji11) - (wrap64 ((Int.tmod (rd t204 3) 3) * (Int.tmod (rd t204 3) 200))))) t213 t214 t215 t216 t217 t218 t219 bt220.1 bt220.2 0))) = some r := H
                have A16 := Aside0.mk A160
                clear A160
                replace H := Option.bind_eq_some_iff.mp H
                obtain ⟨⟨t220, t221⟩, A170, H⟩ := H
                replace H : (if (wrap64 ((ji11) - (wrap64 ((Int.tmod (rd t204 3) 3) * (Int.tmod (rd t204 3) 200))))) > 0 then (laws_FnSigned.j0 k t207 (wrap64 ((ji11) - (wrap64 ((Int.tmod (rd t204 3) 3) * (Int.tmod (rd t204 3) 200))))) t213 t214 t215 t216 t217 t218 t219 t220 t221 (wrap64 ((wrap64 ((ji11) - (wrap64 ((Int.tmod (rd t204 3) 3) * (Int.tmod (rd t204 3) 200))))) - 1))) else (laws_FnSigned.j0 k t207 (wrap64 ((ji11) - (wrap64 ((Int.tmod (rd t204 3) 3) * (Int.tmod (rd t204 3) 200))))) t213 t214 t215 t216 t217 t218 t219 t220 t221 0)) = some r := H
                have A17 := Aside0.mk A170
                clear A170
                have HC18 := Aside0.mk H
                clear H
                go_enter Try.func3, Try.ntmps3
                go_upto_if 73 with (first | (go_at_call 14; (with_reducible refine (laws_big.calls _ _ l0 false _ ?side1 ?side2 A2.out).mono ?_); (case side1 => repeat (first | exact HR0.out | (with_reducible refine Kd.C_alloc ?_ _) | (with_reducible refine Kd.C_drewN ?_ _) | (with_reducible refine Kd.C_drew ?_))); (case side2 => exact HC0.out); rintro e w' ⟨rfl, ⟨nd, rfl⟩⟩; (try first | exact ⟨rfl, _, World.drewN_drewN _ _ _⟩ | exact ⟨rfl, _, Eq.trans (World.drewN_drewN _ _ _) (congrArg (World.drewN _) (Nat.add_assoc _ _ _))⟩)) | (go_at_call 15; (with_reducible refine (spec_DrawPlaces.calls k _ _ l0 t204 _ ?side1 ?side2 A4.out).mono ?_); (case side1 => repeat (first | exact HR0.out | (with_reducible refine Kd.C_alloc ?_ _) | (with_reducible refine Kd.C_drewN ?_ _) | (with_reducible refine Kd.C_drew ?_))); (case side2 => exact HC0.out); rintro e w19 ⟨v205, rfl, ho0, hb⟩; have n0_ := Aside0.mk (Kd.R_lower ho0 (below_size (by repeat (first | (with_reducible first | exact HB.out | apply below_alloc | apply pw_below_drewN | apply below_drew1) | exact HB.out)))); have n1_ := Aside0.mk (below_step (by repeat (first | (with_reducible first | exact HB.out | apply below_alloc | apply pw_below_drewN | apply below_drew1) | exact HB.out)) hb); clear HB; have HO206 := n0_; have HB := n1_; clear n0_ n1_; (try clear hb); (try clear hb2); (try clear hk); (try clear hi); (try clear ho0)) | (go_at_call 16; (with_reducible refine (spec_DrawRow.calls k _ _ l0 t207 _ ?side1 ?side2 A5.out).mono ?_); (case side1 => repeat (first | exact (Kd.C_below HR0.out HB.out) | (with_reducible refine Kd.C_alloc ?_ _) | (with_reducible refine Kd.C_drewN ?_ _) | (with_reducible refine Kd.C_drew ?_))); (case side2 => exact HC0.out); rintro e w20 ⟨rfl, hb⟩; have n0_ := Aside0.mk (Kd.R_below (by (with_reducible repeat (first | apply Kd.R_alloc | apply Kd.R_drewN | apply Kd.R_drew)); exact HO206.out) hb); have n1_ := Aside0.mk (below_step (by repeat (first | (with_reducible first | exact HB.out | apply below_alloc | apply pw_below_drewN | apply below_drew1) | exact HB.out)) hb); clear HO206; clear HB; have HO206 := n0_; have HB := n1_; clear n0_ n1_; (try clear hb); (try clear hb2); (try clear hk); (try clear hi); obtain ⟨Ao21, co21, eo21⟩ := Kd.R_slice HO206.out; subst eo21; have p208 : 0 ≤ (0 : Int) := (by omega); have q208 : 0 < (t204.length : Int) := of_decide_eq_true (by first | (with_reducible assumption) | assumption); obtain ⟨ad208, e208, hx208_0⟩ := Kd.at_int (Kd.R_reads' HO206.out).2.2 0 p208 q208; cases e208; have qi208 : (0 < t204.length) = True := eq_true (by omega); (try rw [show ((0 : Int)).toNat = 0 from rfl] at hx208_0); (try rw [Addr.add_zero'] at hx208_0); replace p208 := eq_true p208; replace q208 := eq_true q208; have p209 : 0 ≤ (1 : Int) := (by omega); have q209 : 1 < (t204.length : Int) := of_decide_eq_true (by first | (with_reducible assumption) | assumption); obtain ⟨ad209, e209, hx209_0⟩ := Kd.at_int (Kd.R_reads' HO206.out).2.2 1 p209 q209; obtain rfl : ad208 = ad209 := (by injection e209); (try simp only [show (1 : Int).toNat = 1 from rfl, Nat.reduceMul, Nat.reduceEqDiff, Go.Addr.add, ↓reduceIte] at hx209_0); have qi209 : (1 < t204.length) = True := eq_true (by omega); (try rw [show ((1 : Int)).toNat = 1 from rfl] at hx209_0); replace p209 := eq_true p209; replace q209 := eq_true q209; have p210 : 0 ≤ (2 : Int) := (by omega); have q210 : 2 < (t204.length : Int) := of_decide_eq_true (by first | (with_reducible assumption) | assumption); obtain ⟨ad210, e210, hx210_0⟩ := Kd.at_int (Kd.R_reads' HO206.out).2.2 2 p210 q210; obtain rfl : ad208 = ad210 := (by injection e210); (try simp only [show (2 : Int).toNat = 2 from rfl, Nat.reduceMul, Nat.reduceEqDiff, Go.Addr.add, ↓reduceIte] at hx210_0); have qi210 : (2 < t204.length) = True := eq_true (by omega); (try rw [show ((2 : Int)).toNat = 2 from rfl] at hx210_0); replace p210 := eq_true p210; replace q210 := eq_true q210; have p211 : 0 ≤ (3 : Int) := (by omega); have q211 : 3 < (t204.length : Int) := of_decide_eq_true (by first | (with_reducible assumption) | assumption); obtain ⟨ad211, e211, hx211_0⟩ := Kd.at_int (Kd.R_reads' HO206.out).2.2 3 p211 q211; obtain rfl : ad208 = ad211 := (by injection e211); (try simp only [show (3 : Int).toNat = 3 from rfl, Nat.reduceMul, Nat.reduceEqDiff, Go.Addr.add, ↓reduceIte] at hx211_0); have qi211 : (3 < t204.length) = True := eq_true (by omega); (try rw [show ((3 : Int)).toNat = 3 from rfl] at hx211_0); replace p211 := eq_true p211; replace q211 := eq_true q211; have p212 : 0 ≤ (3 : Int) := (by omega); have q212 : 3 < (t204.length : Int) := of_decide_eq_true (by first | (with_reducible assumption) | assumption); obtain ⟨ad212, e212, hx212_0⟩ := Kd.at_int (Kd.R_reads' HO206.out).2.2 3 p212 q212; obtain rfl : ad208 = ad212 := (by injection e212); (try simp only [show (3 : Int).toNat = 3 from rfl, Nat.reduceMul, Nat.reduceEqDiff, Go.Addr.add, ↓reduceIte] at hx212_0); have qi212 : (3 < t204.length) = True := eq_true (by omega); (try rw [show ((3 : Int)).toNat = 3 from rfl] at hx212_0); replace p212 := eq_true p212; replace q212 := eq_true q212) | (go_at_call 17; (with_reducible refine (impl_SeRow.calls k (wrap64 ((ji11) - (wrap64 ((Int.tmod (rd t204 3) 3) * (Int.tmod (rd t204 3) 200))))) t213 t214 _ A13.out).mono ?_); rintro e w22 ⟨rfl, hb⟩; have n0_ := Aside0.mk (Kd.R_below (by (with_reducible repeat (first | apply Kd.R_alloc | apply Kd.R_drewN | apply Kd.R_drew)); exact HO206.out) hb); have n1_ := Aside0.mk (below_step (by repeat (first | (with_reducible first | exact HB.out | apply below_alloc | apply pw_below_drewN | apply below_drew1) | exact HB.out)) hb); clear HO206; clear HB; have HO206 := n0_; have HB := n1_; clear n0_ n1_; (try clear hb); (try clear hb2); (try clear hk); (try clear hi)) | (go_at_call 18; (with_reducible refine (impl_ReadSe.calls k (t207 ++ t213) (t207.size : Int) t215 t216 t217 _ A15.out).mono ?_); rintro e w23 ⟨rfl, hb⟩; have n0_ := Aside0.mk (Kd.R_below (by (with_reducible repeat (first | apply Kd.R_alloc | apply Kd.R_drewN | apply Kd.R_drew)); exact HO206.out) hb); have n1_ := Aside0.mk (below_step (by repeat (first | (with_reducible first | exact HB.out | apply below_alloc | apply pw_below_drewN | apply below_drew1) | exact HB.out)) hb); clear HO206; clear HB; have HO206 := n0_; have HB := n1_; clear n0_ n1_; (try clear hb); (try clear hb2); (try clear hk); (try clear hi)) | (go_at_call 19; (with_reducible refine (impl_FoldSe.calls (wrap64 ((ji11) - (wrap64 ((Int.tmod (rd t204 3) 3) * (Int.tmod (rd t204 3) 200))))) t218 t219 _ A16.out).mono ?_); rintro e w' ⟨rfl, ⟨nd, rfl⟩⟩; (try first | exact ⟨rfl, _, World.drewN_drewN _ _ _⟩ | exact ⟨rfl, _, Eq.trans (World.drewN_drewN _ _ _) (congrArg (World.drewN _) (Nat.add_assoc _ _ _))⟩)) | (go_at_call 20; (with_reducible refine (impl_OpenSe.calls t218 t220 t221 _ A17.out).mono ?_); rintro e w' ⟨rfl, ⟨nd, rfl⟩⟩; (try first | exact ⟨rfl, _, World.drewN_drewN _ _ _⟩ | exact ⟨rfl, _, Eq.trans (World.drewN_drewN _ _ _) (congrArg (World.drewN _) (Nat.add_assoc _ _ _))⟩)))
                repeat (go_quiet (first | (go_at_call 14; (with_reducible refine (laws_big.calls _ _ l0 false _ ?side1 ?side2 A2.out).mono ?_); (case side1 => repeat (first | exact HR0.out | (with_reducible refine Kd.C_alloc ?_ _) | (with_reducible refine Kd.C_drewN ?_ _) | (with_reducible refine Kd.C_drew ?_))); (case side2 => exact HC0.out); rintro e w' ⟨rfl, ⟨nd, rfl⟩⟩; (try first | exact ⟨rfl, _, World.drewN_drewN _ _ _⟩ | exact ⟨rfl, _, Eq.trans (World.drewN_drewN _ _ _) (congrArg (World.drewN _) (Nat.add_assoc _ _ _))⟩)) | (go_at_call 15; (with_reducible refine (spec_DrawPlaces.calls k _ _ l0 t204 _ ?side1 ?side2 A4.out).mono ?_); (case side1 => repeat (first | exact HR0.out | (with_reducible refine Kd.C_alloc ?_ _) | (with_reducible refine Kd.C_drewN ?_ _) | (with_reducible refine Kd.C_drew ?_))); (case side2 => exact HC0.out); rintro e w19 ⟨v205, rfl, ho0, hb⟩; have n0_ := Aside0.mk (Kd.R_lower ho0 (below_size (by repeat (first | (with_reducible first | exact HB.out | apply below_alloc | apply pw_below_drewN | apply below_drew1) | exact HB.out)))); have n1_ := Aside0.mk (below_step (by repeat (first | (with_reducible first | exact HB.out | apply below_alloc | apply pw_below_drewN | apply below_drew1) | exact HB.out)) hb); clear HB; have HO206 := n0_; have HB := n1_; clear n0_ n1_; (try clear hb); (try clear hb2); (try clear hk); (try clear hi); (try clear ho0)) | (go_at_call 16; (with_reducible refine (spec_DrawRow.calls k _ _ l0 t207 _ ?side1 ?side2 A5.out).mono ?_); (case side1 => repeat (first | exact (Kd.C_below HR0.out HB.out) | (with_reducible refine Kd.C_alloc ?_ _) | (with_reducible refine Kd.C_drewN ?_ _) | (with_reducible refine Kd.C_drew ?_))); (case side2 => exact HC0.out); rintro e w20 ⟨rfl, hb⟩; have n0_ := Aside0.mk (Kd.R_below (by (with_reducible repeat (first | apply Kd.R_alloc | apply Kd.R_drewN | apply Kd.R_drew)); exact HO206.out) hb); have n1_ := Aside0.mk (below_step (by repeat (first | (with_reducible first | exact HB.out | apply below_alloc | apply pw_below_drewN | apply below_drew1) | exact HB.out)) hb); clear HO206; clear HB; have HO206 := n0_; have HB := n1_; clear n0_ n1_; (try clear hb); (try clear hb2); (try clear hk); (try clear hi); obtain ⟨Ao21, co21, eo21⟩ := Kd.R_slice HO206.out; subst eo21; have p208 : 0 ≤ (0 : Int) := (by omega); have q208 : 0 < (t204.length : Int) := of_decide_eq_true (by first | (with_reducible assumption) | assumption); obtain ⟨ad208, e208, hx208_0⟩ := Kd.at_int (Kd.R_reads' HO206.out).2.2 0 p208 q208; cases e208; have qi208 : (0 < t204.length) = True := eq_true (by omega); (try rw [show ((0 : Int)).toNat = 0 from rfl] at hx208_0); (try rw [Addr.add_zero'] at hx208_0); replace p208 := eq_true p208; replace q208 := eq_true q208; have p209 : 0 ≤ (1 : Int) := (by omega); have q209 : 1 < (t204.length : Int) := of_decide_eq_true (by first | (with_reducible assumption) | assumption); obtain ⟨ad209, e209, hx209_0⟩ := Kd.at_int (Kd.R_reads' HO206.out).2.2 1 p209 q209; obtain rfl : ad208 = ad209 := (by injection e209); (try simp only [show (1 : Int).toNat = 1 from rfl, Nat.reduceMul, Nat.reduceEqDiff, Go.Addr.add, ↓reduceIte] at hx209_0); have qi209 : (1 < t204.length) = True := eq_true (by omega); (try rw [show ((1 : Int)).toNat = 1 from rfl] at hx209_0); replace p209 := eq_true p209; replace q209 := eq_true q209; have p210 : 0 ≤ (2 : Int) := (by omega); have q210 : 2 < (t204.length : Int) := of_decide_eq_true (by first | (with_reducible assumption) | assumption); obtain ⟨ad210, e210, hx210_0⟩ := Kd.at_int (Kd.R_reads' HO206.out).2.2 2 p210 q210; obtain rfl : ad208 = ad210 := (by injection e210); (try simp only [show (2 : Int).toNat = 2 from rfl, Nat.reduceMul, Nat.reduceEqDiff, Go.Addr.add, ↓reduceIte] at hx210_0); have qi210 : (2 < t204.length) = True := eq_true (by omega); (try rw [show ((2 : Int)).toNat = 2 from rfl] at hx210_0); replace p210 := eq_true p210; replace q210 := eq_true q210; have p211 : 0 ≤ (3 : Int) := (by omega); have q211 : 3 < (t204.length : Int) := of_decide_eq_true (by first | (with_reducible assumption) | assumption); obtain ⟨ad211, e211, hx211_0⟩ := Kd.at_int (Kd.R_reads' HO206.out).2.2 3 p211 q211; obtain rfl : ad208 = ad211 := (by injection e211); (try simp only [show (3 : Int).toNat = 3 from rfl, Nat.reduceMul, Nat.reduceEqDiff, Go.Addr.add, ↓reduceIte] at hx211_0); have qi211 : (3 < t204.length) = True := eq_true (by omega); (try rw [show ((3 : Int)).toNat = 3 from rfl] at hx211_0); replace p211 := eq_true p211; replace q211 := eq_true q211; have p212 : 0 ≤ (3 : Int) := (by omega); have q212 : 3 < (t204.length : Int) := of_decide_eq_true (by first | (with_reducible assumption) | assumption); obtain ⟨ad212, e212, hx212_0⟩ := Kd.at_int (Kd.R_reads' HO206.out).2.2 3 p212 q212; obtain rfl : ad208 = ad212 := (by injection e212); (try simp only [show (3 : Int).toNat = 3 from rfl, Nat.reduceMul, Nat.reduceEqDiff, Go.Addr.add, ↓reduceIte] at hx212_0); have qi212 : (3 < t204.length) = True := eq_true (by omega); (try rw [show ((3 : Int)).toNat = 3 from rfl] at hx212_0); replace p212 := eq_true p212; replace q212 := eq_true q212) | (go_at_call 17; (with_reducible refine (impl_SeRow.calls k (wrap64 ((ji11) - (wrap64 ((Int.tmod (rd t204 3) 3) * (Int.tmod (rd t204 3) 200))))) t213 t214 _ A13.out).mono ?_); rintro e w22 ⟨rfl, hb⟩; have n0_ := Aside0.mk (Kd.R_below (by (with_reducible repeat (first | apply Kd.R_alloc | apply Kd.R_drewN | apply Kd.R_drew)); exact HO206.out) hb); have n1_ := Aside0.mk (below_step (by repeat (first | (with_reducible first | exact HB.out | apply below_alloc | apply pw_below_drewN | apply below_drew1) | exact HB.out)) hb); clear HO206; clear HB; have HO206 := n0_; have HB := n1_; clear n0_ n1_; (try clear hb); (try clear hb2); (try clear hk); (try clear hi)) | (go_at_call 18; (with_reducible refine (impl_ReadSe.calls k (t207 ++ t213) (t207.size : Int) t215 t216 t217 _ A15.out).mono ?_); rintro e w23 ⟨rfl, hb⟩; have n0_ := Aside0.mk (Kd.R_below (by (with_reducible repeat (first | apply Kd.R_alloc | apply Kd.R_drewN | apply Kd.R_drew)); exact HO206.out) hb); have n1_ := Aside0.mk (below_step (by repeat (first | (with_reducible first | exact HB.out | apply below_alloc | apply pw_below_drewN | apply below_drew1) | exact HB.out)) hb); clear HO206; clear HB; have HO206 := n0_; have HB := n1_; clear n0_ n1_; (try clear hb); (try clear hb2); (try clear hk); (try clear hi)) | (go_at_call 19; (with_reducible refine (impl_FoldSe.calls (wrap64 ((ji11) - (wrap64 ((Int.tmod (rd t204 3) 3) * (Int.tmod (rd t204 3) 200))))) t218 t219 _ A16.out).mono ?_); rintro e w' ⟨rfl, ⟨nd, rfl⟩⟩; (try first | exact ⟨rfl, _, World.drewN_drewN _ _ _⟩ | exact ⟨rfl, _, Eq.trans (World.drewN_drewN _ _ _) (congrArg (World.drewN _) (Nat.add_assoc _ _ _))⟩)) | (go_at_call 20; (with_reducible refine (impl_OpenSe.calls t218 t220 t221 _ A17.out).mono ?_); rintro e w' ⟨rfl, ⟨nd, rfl⟩⟩; (try first | exact ⟨rfl, _, World.drewN_drewN _ _ _⟩ | exact ⟨rfl, _, Eq.trans (World.drewN_drewN _ _ _) (congrArg (World.drewN _) (Nat.add_assoc _ _ _))⟩))); go_upto_if 73 with (first | (go_at_call 14; (with_reducible refine (laws_big.calls _ _ l0 false _ ?side1 ?side2 A2.out).mono ?_); (case side1 => repeat (first | exact HR0.out | (with_reducible refine Kd.C_alloc ?_ _) | (with_reducible refine Kd.C_drewN ?_ _) | (with_reducible refine Kd.C_drew ?_))); (case side2 => exact HC0.out); rintro e w' ⟨rfl, ⟨nd, rfl⟩⟩; (try first | exact ⟨rfl, _, World.drewN_drewN _ _ _⟩ | exact ⟨rfl, _, Eq.trans (World.drewN_drewN _ _ _) (congrArg (World.drewN _) (Nat.add_assoc _ _ _))⟩)) | (go_at_call 15; (with_reducible refine (spec_DrawPlaces.calls k _ _ l0 t204 _ ?side1 ?side2 A4.out).mono ?_); (case side1 => repeat (first | exact HR0.out | (with_reducible refine Kd.C_alloc ?_ _) | (with_reducible refine Kd.C_drewN ?_ _) | (with_reducible refine Kd.C_drew ?_))); (case side2 => exact HC0.out); rintro e w19 ⟨v205, rfl, ho0, hb⟩; have n0_ := Aside0.mk (Kd.R_lower ho0 (below_size (by repeat (first | (with_reducible first | exact HB.out | apply below_alloc | apply pw_below_drewN | apply below_drew1) | exact HB.out)))); have n1_ := Aside0.mk (below_step (by repeat (first | (with_reducible first | exact HB.out | apply below_alloc | apply pw_below_drewN | apply below_drew1) | exact HB.out)) hb); clear HB; have HO206 := n0_; have HB := n1_; clear n0_ n1_; (try clear hb); (try clear hb2); (try clear hk); (try clear hi); (try clear ho0)) | (go_at_call 16; (with_reducible refine (spec_DrawRow.calls k _ _ l0 t207 _ ?side1 ?side2 A5.out).mono ?_); (case side1 => repeat (first | exact (Kd.C_below HR0.out HB.out) | (with_reducible refine Kd.C_alloc ?_ _) | (with_reducible refine Kd.C_drewN ?_ _) | (with_reducible refine Kd.C_drew ?_))); (case side2 => exact HC0.out); rintro e w20 ⟨rfl, hb⟩; have n0_ := Aside0.mk (Kd.R_below (by (with_reducible repeat (first | apply Kd.R_alloc | apply Kd.R_drewN | apply Kd.R_drew)); exact HO206.out) hb); have n1_ := Aside0.mk (below_step (by repeat (first | (with_reducible first | exact HB.out | apply below_alloc | apply pw_below_drewN | apply below_drew1) | exact HB.out)) hb); clear HO206; clear HB; have HO206 := n0_; have HB := n1_; clear n0_ n1_; (try clear hb); (try clear hb2); (try clear hk); (try clear hi); obtain ⟨Ao21, co21, eo21⟩ := Kd.R_slice HO206.out; subst eo21; have p208 : 0 ≤ (0 : Int) := (by omega); have q208 : 0 < (t204.length : Int) := of_decide_eq_true (by first | (with_reducible assumption) | assumption); obtain ⟨ad208, e208, hx208_0⟩ := Kd.at_int (Kd.R_reads' HO206.out).2.2 0 p208 q208; cases e208; have qi208 : (0 < t204.length) = True := eq_true (by omega); (try rw [show ((0 : Int)).toNat = 0 from rfl] at hx208_0); (try rw [Addr.add_zero'] at hx208_0); replace p208 := eq_true p208; replace q208 := eq_true q208; have p209 : 0 ≤ (1 : Int) := (by omega); have q209 : 1 < (t204.length : Int) := of_decide_eq_true (by first | (with_reducible assumption) | assumption); obtain ⟨ad209, e209, hx209_0⟩ := Kd.at_int (Kd.R_reads' HO206.out).2.2 1 p209 q209; obtain rfl : ad208 = ad209 := (by injection e209); (try simp only [show (1 : Int).toNat = 1 from rfl, Nat.reduceMul, Nat.reduceEqDiff, Go.Addr.add, ↓reduceIte] at hx209_0); have qi209 : (1 < t204.length) = True := eq_true (by omega); (try rw [show ((1 : Int)).toNat = 1 from rfl] at hx209_0); replace p209 := eq_true p209; replace q209 := eq_true q209; have p210 : 0 ≤ (2 : Int) := (by omega); have q210 : 2 < (t204.length : Int) := of_decide_eq_true (by first | (with_reducible assumption) | assumption); obtain ⟨ad210, e210, hx210_0⟩ := Kd.at_int (Kd.R_reads' HO206.out).2.2 2 p210 q210; obtain rfl : ad208 = ad210 := (by injection e210); (try simp only [show (2 : Int).toNat = 2 from rfl, Nat.reduceMul, Nat.reduceEqDiff, Go.Addr.add, ↓reduceIte] at hx210_0); have qi210 : (2 < t204.length) = True := eq_true (by omega); (try rw [show ((2 : Int)).toNat = 2 from rfl] at hx210_0); replace p210 := eq_true p210; replace q210 := eq_true q210; have p211 : 0 ≤ (3 : Int) := (by omega); have q211 : 3 < (t204.length : Int) := of_decide_eq_true (by first | (with_reducible assumption) | assumption); obtain ⟨ad211, e211, hx211_0⟩ := Kd.at_int (Kd.R_reads' HO206.out).2.2 3 p211 q211; obtain rfl : ad208 = ad211 := (by injection e211); (try simp only [show (3 : Int).toNat = 3 from rfl, Nat.reduceMul, Nat.reduceEqDiff, Go.Addr.add, ↓reduceIte] at hx211_0); have qi211 : (3 < t204.length) = True := eq_true (by omega); (try rw [show ((3 : Int)).toNat = 3 from rfl] at hx211_0); replace p211 := eq_true p211; replace q211 := eq_true q211; have p212 : 0 ≤ (3 : Int) := (by omega); have q212 : 3 < (t204.length : Int) := of_decide_eq_true (by first | (with_reducible assumption) | assumption); obtain ⟨ad212, e212, hx212_0⟩ := Kd.at_int (Kd.R_reads' HO206.out).2.2 3 p212 q212; obtain rfl : ad208 = ad212 := (by injection e212); (try simp only [show (3 : Int).toNat = 3 from rfl, Nat.reduceMul, Nat.reduceEqDiff, Go.Addr.add, ↓reduceIte] at hx212_0); have qi212 : (3 < t204.length) = True := eq_true (by omega); (try rw [show ((3 : Int)).toNat = 3 from rfl] at hx212_0); replace p212 := eq_true p212; replace q212 := eq_true q212) | (go_at_call 17; (with_reducible refine (impl_SeRow.calls k (wrap64 ((ji11) - (wrap64 ((Int.tmod (rd t204 3) 3) * (Int.tmod (rd t204 3) 200))))) t213 t214 _ A13.out).mono ?_); rintro e w22 ⟨rfl, hb⟩; have n0_ := Aside0.mk (Kd.R_below (by (with_reducible repeat (first | apply Kd.R_alloc | apply Kd.R_drewN | apply Kd.R_drew)); exact HO206.out) hb); have n1_ := Aside0.mk (below_step (by repeat (first | (with_reducible first | exact HB.out | apply below_alloc | apply pw_below_drewN | apply below_drew1) | exact HB.out)) hb); clear HO206; clear HB; have HO206 := n0_; have HB := n1_; clear n0_ n1_; (try clear hb); (try clear hb2); (try clear hk); (try clear hi)) | (go_at_call 18; (with_reducible refine (impl_ReadSe.calls k (t207 ++ t213) (t207.size : Int) t215 t216 t217 _ A15.out).mono ?_); rintro e w23 ⟨rfl, hb⟩; have n0_ := Aside0.mk (Kd.R_below (by (with_reducible repeat (first | apply Kd.R_alloc | apply Kd.R_drewN | apply Kd.R_drew)); exact HO206.out) hb); have n1_ := Aside0.mk (below_step (by repeat (first | (with_reducible first | exact HB.out | apply below_alloc | apply pw_below_drewN | apply below_drew1) | exact HB.out)) hb); clear HO206; clear HB; have HO206 := n0_; have HB := n1_; clear n0_ n1_; (try clear hb); (try clear hb2); (try clear hk); (try clear hi)) | (go_at_call 19; (with_reducible refine (impl_FoldSe.calls (wrap64 ((ji11) - (wrap64 ((Int.tmod (rd t204 3) 3) * (Int.tmod (rd t204 3) 200))))) t218 t219 _ A16.out).mono ?_); rintro e w' ⟨rfl, ⟨nd, rfl⟩⟩; (try first | exact ⟨rfl, _, World.drewN_drewN _ _ _⟩ | exact ⟨rfl, _, Eq.trans (World.drewN_drewN _ _ _) (congrArg (World.drewN _) (Nat.add_assoc _ _ _))⟩)) | (go_at_call 20; (with_reducible refine (impl_OpenSe.calls t218 t220 t221 _ A17.out).mono ?_); rintro e w' ⟨rfl, ⟨nd, rfl⟩⟩; (try first | exact ⟨rfl, _, World.drewN_drewN _ _ _⟩ | exact ⟨rfl, _, Eq.trans (World.drewN_drewN _ _ _) (congrArg (World.drewN _) (Nat.add_assoc _ _ _))⟩))))
                (try simp only [Act.put, List.setIfInBounds_toArray, List.set_cons_zero, List.set_cons_succ])
                go_cut [15] (fun v15 wc => ∃ (kq : Nat) (x15_17 : Int), v15 = .int .i64 x15_17 ∧ Aside0 (laws_FnSigned.j0 kq t207 (wrap64 ((ji11) - (wrap64 ((Int.tmod (rd t204 3) 3) * (Int.tmod (rd t204 3) 200))))) t213 t214 t215 t216 t217 t218 t219 t220 t221 x15_17 = some r) ∧ Aside0 (kq ≤ k) ∧ Aside0 (Below w.heap.size w wc))
                case first =>
                  have H := HC18.out
                  clear HC18
                  by_cases c24 : (wrap64 ((ji11) - (wrap64 ((Int.tmod (rd t204 3) 3) * (Int.tmod (rd t204 3) 200))))) > 0
                  · rw [if_pos c24] at H
                    have c24b0 : decide (0 < (wrap64 ((ji11) - (wrap64 ((Int.tmod (rd t204 3) 3) * (Int.tmod (rd t204 3) 200)))))) = true := decide_eq_true c24
                    clear c24
                    (first | rw [c24b0] | (simp only [i64_w, i32_w]; rw [c24b0]) | skip)
                    have H' := Aside0.mk H
                    clear H
                    go_wp2
                    repeat (go_quiet (fail); try go_wp2)
                    go_meet
                    case rel => exact ⟨_, (wrap64 ((wrap64 ((ji11) - (wrap64 ((Int.tmod (rd t204 3) 3) * (Int.tmod (rd t204 3) 200))))) - 1)), (by first | rfl | (simp; done) | (simp only [← hji11] <;> (first | rfl | simp)) | (simp [*]; done)), H', ⟨by first | omega | exact Nat.le_refl _⟩, ⟨by repeat (first | (with_reducible first | exact HB.out | apply below_alloc | apply pw_below_drewN | apply below_drew1) | exact HB.out)⟩⟩
                  · rw [if_neg c24] at H
                    have c24b0 : decide (0 < (wrap64 ((ji11) - (wrap64 ((Int.tmod (rd t204 3) 3) * (Int.tmod (rd t204 3) 200)))))) = false := decide_eq_false c24
                    clear c24
                    (first | rw [c24b0] | (simp only [i64_w, i32_w]; rw [c24b0]) | skip)
                    have H' := Aside0.mk H
                    clear H
                    go_wp2
                    repeat (go_quiet (fail); try go_wp2)
                    go_meet
                    case rel => exact ⟨_, (0), (by first | rfl | (simp; done) | (simp [*]; done)), H', ⟨by first | omega | exact Nat.le_refl _⟩, ⟨by repeat (first | (with_reducible first | exact HB.out | apply below_alloc | apply pw_below_drewN | apply below_drew1) | exact HB.out)⟩⟩
                case rest =>
                  clear HC18
                  try clear c1
                  try clear c2
                  try clear p2
                  try clear q2
                  try clear hx2
                  try clear qi2
                  try clear c3
                  try clear c6
                  try clear c6b0
                  try clear c6b1
                  try clear p6
                  try clear c7
                  try clear c7b0
                  try clear c7b1
                  try clear c8
                  try clear c8b0
                  try clear c8b1
                  try clear c10
                  try clear c10b0
                  try clear c10b1
                  try clear c12
                  try clear c12b0
                  try clear c12b1
                  try clear c14
                  try clear c14b0
                  try clear c14b1
                  try clear c14b2
                  try clear p20
                  try clear q20
                  try clear hx20
                  try clear qi20
                  try clear p21
                  try clear q21
                  try clear hx21
                  try clear qi21
                  try clear c24
                  try clear c24b0
                  try clear hx208_0
                  try clear hx209_0
                  try clear hx210_0
                  try clear hx211_0
                  try clear hx212_0
                  try clear p208
                  try clear p209
                  try clear p210
                  try clear p211
                  try clear p212
                  try clear q208
                  try clear q209
                  try clear q210
                  try clear q211
                  try clear q212
                  obtain ⟨kq, x15_17, rfl, HA, HJ17, HB⟩ := hcut
                  cases kq with
                  | zero => exact absurd HA.out (by simp [laws_FnSigned.j0])
                  | succ kj17 =>
                    have H := HA.out
                    clear HA
                    simp only [laws_FnSigned.j0] at H
                    by_cases c25 : (wrap64 ((ji11) - (wrap64 ((Int.tmod (rd t204 3) 3) * (Int.tmod (rd t204 3) 200))))) < 0
                    · rw [if_pos c25] at H
                      have c25b0 : decide ((wrap64 ((ji11) - (wrap64 ((Int.tmod (rd t204 3) 3) * (Int.tmod (rd t204 3) 200))))) < 0) = true := decide_eq_true c25
                      clear c25
                      by_cases c26 : t214 = true
                      · subst c26
                        have H1 : (if t217 = true then (if t219 = true then (if t221 = true then (if t215 = (wrap64 ((ji11) - (wrap64 ((Int.tmod (rd t204 3) 3) * (Int.tmod (rd t204 3) 200))))) then (if t216 = (wrap64 ((t207.size : Int) + (t213.size : Int))) then (if t220 = (wrap64 ((ji11) - (wrap64 ((Int.tmod (rd t204 3) 3) * (Int.tmod (rd t204 3) 200))))) then (if t218 ≥ 0 then ((impl_SeSize.f kj17 (wrap64 ((ji11) - (wrap64 ((Int.tmod (rd t204 3) 3) * (Int.tmod (rd t204 3) 200)))))).bind fun t222 => (if t222 = (t213.size : Int) then ((impl_SeSize.f kj17 (wrap64 ((wrap64 ((ji11) - (wrap64 ((Int.tmod (rd t204 3) 3) * (Int.tmod (rd t204 3) 200))))) + 1))).bind fun t223 => (if t223 ≤ (t213.size : Int) then ((impl_SeSize.f kj17 (wrap64 ((wrap64 ((ji11) - (wrap64 ((Int.tmod (rd t204 3) 3) * (Int.tmod (rd t204 3) 200))))) + 1))).bind fun t224 => (some (decide (t224 > 0)))) else (some false))) else (some false))) else (some false)) else (some false)) else (some false)) else (some false)) else (some false)) else (some false)) else (some false)) = some r := by rw [if_pos rfl] at H; exact H
                        clear H
                        have H := H1
                        clear H1
                        by_cases c27 : t217 = true
                        · subst c27
                          have H1 : (if t219 = true then (if t221 = true then (if t215 = (wrap64 ((ji11) - (wrap64 ((Int.tmod (rd t204 3) 3) * (Int.tmod (rd t204 3) 200))))) then (if t216 = (wrap64 ((t207.size : Int) + (t213.size : Int))) then (if t220 = (wrap64 ((ji11) - (wrap64 ((Int.tmod (rd t204 3) 3) * (Int.tmod (rd t204 3) 200))))) then (if t218 ≥ 0 then ((impl_SeSize.f kj17 (wrap64 ((ji11) - (wrap64 ((Int.tmod (rd t204 3) 3) * (Int.tmod (rd t204 3) 200)))))).bind fun t222 => (if t222 = (t213.size : Int) then ((impl_SeSize.f kj17 (wrap64 ((wrap64 ((ji11) - (wrap64 ((Int.tmod (rd t204 3) 3) * (Int.tmod (rd t204 3) 200))))) + 1))).bind fun t223 => (if t223 ≤ (t213.size : Int) then ((impl_SeSize.f kj17 (wrap64 ((wrap64 ((ji11) - (wrap64 ((Int.tmod (rd t204 3) 3) * (Int.tmod (rd t204 3) 200))))) + 1))).bind fun t224 => (some (decide (t224 > 0)))) else (some false))) else (some false))) else (some false)) else (some false)) else (some false)) else (some false)) else (some false)) else (some false)) = some r := by rw [if_pos rfl] at H; exact H
                          clear H
                          have H := H1
                          clear H1
                          by_cases c28 : t219 = true
                          · subst c28
                            have H1 : (if t221 = true then (if t215 = (wrap64 ((ji11) - (wrap64 ((Int.tmod (rd t204 3) 3) * (Int.tmod (rd t204 3) 200))))) then (if t216 = (wrap64 ((t207.size : Int) + (t213.size : Int))) then (if t220 = (wrap64 ((ji11) - (wrap64 ((Int.tmod (rd t204 3) 3) * (Int.tmod (rd t204 3) 200))))) then (if t218 ≥ 0 then ((impl_SeSize.f kj17 (wrap64 ((ji11) - (wrap64 ((Int.tmod (rd t204 3) 3) * (Int.tmod (rd t204 3) 200)))))).bind fun t222 => (if t222 = (t213.size : Int) then ((impl_SeSize.f kj17 (wrap64 ((wrap64 ((ji11) - (wrap64 ((Int.tmod (rd t204 3) 3) * (Int.tmod (rd t204 3) 200))))) + 1))).bind fun t223 => (if t223 ≤ (t213.size : Int) then ((impl_SeSize.f kj17 (wrap64 ((wrap64 ((ji11) - (wrap64 ((Int.tmod (rd t204 3) 3) * (Int.tmod (rd t204 3) 200))))) + 1))).bind fun t224 => (some (decide (t224 > 0)))) else (some false))) else (some false))) else (some false)) else (some false)) else (some false)) else (some false)) else (some false)) = some r := by rw [if_pos rfl] at H; exact H
                            clear H
                            have H := H1
                            clear H1
                            by_cases c29 : t221 = true
                            · subst c29
                              have H1 : (if t215 = (wrap64 ((ji11) - (wrap64 ((Int.tmod (rd t204 3) 3) * (Int.tmod (rd t204 3) 200))))) then (if t216 = (wrap64 ((t207.size : Int) + (t213.size : Int))) then (if t220 = (wrap64 ((ji11) - (wrap64 ((Int.tmod (rd t204 3) 3) * (Int.tmod (rd t204 3) 200))))) then (if t218 ≥ 0 then ((impl_SeSize.f kj17 (wrap64 ((ji11) - (wrap64 ((Int.tmod (rd t204 3) 3) * (Int.tmod (rd t204 3) 200)))))).bind fun t222 => (if t222 = (t213.size : Int) then ((impl_SeSize.f kj17 (wrap64 ((wrap64 ((ji11) - (wrap64 ((Int.tmod (rd t204 3) 3) * (Int.tmod (rd t204 3) 200))))) + 1))).bind fun t223 => (if t223 ≤ (t213.size : Int) then ((impl_SeSize.f kj17 (wrap64 ((wrap64 ((ji11) - (wrap64 ((Int.tmod (rd t204 3) 3) * (Int.tmod (rd t204 3) 200))))) + 1))).bind fun t224 => (some (decide (t224 > 0)))) else (some false))) else (some false))) else (some false)) else (some false)) else (some false)) else (some false)) = some r := by rw [if_pos rfl] at H; exact H
                              clear H
                              have H := H1
                              clear H1
                              by_cases c30 : t215 = (wrap64 ((ji11) - (wrap64 ((Int.tmod (rd t204 3) 3) * (Int.tmod (rd t204 3) 200)))))
                              · rw [if_pos c30] at H
                                have c30b0 : (t215 == (wrap64 ((ji11) - (wrap64 ((Int.tmod (rd t204 3) 3) * (Int.tmod (rd t204 3) 200)))))) = true := beq_iff_eq.mpr c30
                                have c30b1 : (t215 != (wrap64 ((ji11) - (wrap64 ((Int.tmod (rd t204 3) 3) * (Int.tmod (rd t204 3) 200)))))) = false := bne_eq_false_iff_eq.mpr c30
                                clear c30
                                by_cases c31 : t216 = (wrap64 ((t207.size : Int) + (t213.size : Int)))
                                · rw [if_pos c31] at H
                                  have c31b0 : (t216 == (wrap64 ((t207.size : Int) + (t213.size : Int)))) = true := beq_iff_eq.mpr c31
                                  have c31b1 : (t216 != (wrap64 ((t207.size : Int) + (t213.size : Int)))) = false := bne_eq_false_iff_eq.mpr c31
                                  clear c31
                                  by_cases c32 : t220 = (wrap64 ((ji11) - (wrap64 ((Int.tmod (rd t204 3) 3) * (Int.tmod (rd t204 3) 200)))))
                                  · rw [if_pos c32] at H
                                    have c32b0 : (t220 == (wrap64 ((ji11) - (wrap64 ((Int.tmod (rd t204 3) 3) * (Int.tmod (rd t204 3) 200)))))) = true := beq_iff_eq.mpr c32
                                    have c32b1 : (t220 != (wrap64 ((ji11) - (wrap64 ((Int.tmod (rd t204 3) 3) * (Int.tmod (rd t204 3) 200)))))) = false := bne_eq_false_iff_eq.mpr c32
                                    clear c32
                                    by_cases c33 : t218 ≥ 0
                                    · rw [if_pos c33] at H
                                      have c33b0 : decide (0 ≤ t218) = true := decide_eq_true c33
                                      clear c33
                                      replace H := Option.bind_eq_some_iff.mp H
                                      obtain ⟨t222, A340, H⟩ := H
                                      replace H : (if t222 = (t213.size : Int) then ((impl_SeSize.f kj17 (wrap64 ((wrap64 ((ji11) - (wrap64 ((Int.tmod (rd t204 3) 3) * (Int.tmod (rd t204 3) 200))))) + 1))).bind fun t223 => (if t223 ≤ (t213.size : Int) then ((impl_SeSize.f kj17 (wrap64 ((wrap64 ((ji11) - (wrap64 ((Int.tmod (rd t204 3) 3) * (Int.tmod (rd t204 3) 200))))) + 1))).bind fun t224 => (some (decide (t224 > 0)))) else (some false))) else (some false)) = some r := H
                                      have A34 := Aside0.mk A340
                                      clear A340
                                      by_cases c35 : t222 = (t213.size : Int)
                                      · rw [if_pos c35] at H
                                        have c35b0 : (t222 == (t213.size : Int)) = true := beq_iff_eq.mpr c35
                                        have c35b1 : (t222 != (t213.size : Int)) = false := bne_eq_false_iff_eq.mpr c35
                                        clear c35
                                        replace H := Option.bind_eq_some_iff.mp H
                                        obtain ⟨t223, A360, H⟩ := H
                                        replace H : (if t223 ≤ (t213.size : Int) then ((impl_SeSize.f kj17 (wrap64 ((wrap64 ((ji11) - (wrap64 ((Int.tmod (rd t204 3) 3) * (Int.tmod (rd t204 3) 200))))) + 1))).bind fun t224 => (some (decide (t224 > 0)))) else (some false)) = some r := H
                                        have A36 := Aside0.mk A360
                                        clear A360
                                        by_cases c37 : t223 ≤ (t213.size : Int)
                                        · rw [if_pos c37] at H
                                          have c37b0 : decide (t223 ≤ (t213.size : Int)) = true := decide_eq_true c37
                                          clear c37
                                          replace H := Option.bind_eq_some_iff.mp H
                                          obtain ⟨t224, A380, H⟩ := H
                                          replace H : (some (decide (t224 > 0))) = some r := H
                                          have A38 := Aside0.mk A380
                                          clear A380
                                          obtain rfl := Option.some.inj H
                                          go_wp2_with (first | (go_at_call 21; (with_reducible refine (impl_SeSize.calls kj17 (wrap64 ((ji11) - (wrap64 ((Int.tmod (rd t204 3) 3) * (Int.tmod (rd t204 3) 200))))) t222 _ A34.out).mono ?_); rintro e w39 ⟨rfl, hb⟩; have n0_ := Aside0.mk (below_step (by repeat (first | (with_reducible first | exact HB.out | apply below_alloc | apply pw_below_drewN | apply below_drew1) | exact HB.out)) hb); clear HB; have HB := n0_; clear n0_; (try clear hb); (try clear hb2); (try clear hk); (try clear hi)) | (go_at_call 21; (with_reducible refine (impl_SeSize.calls kj17 (wrap64 ((wrap64 ((ji11) - (wrap64 ((Int.tmod (rd t204 3) 3) * (Int.tmod (rd t204 3) 200))))) + 1)) t223 _ A36.out).mono ?_); rintro e w40 ⟨rfl, hb⟩; have n0_ := Aside0.mk (below_step (by repeat (first | (with_reducible first | exact HB.out | apply below_alloc | apply pw_below_drewN | apply below_drew1) | exact HB.out)) hb); clear HB; have HB := n0_; clear n0_; (try clear hb); (try clear hb2); (try clear hk); (try clear hi)) | (go_at_call 21; (with_reducible refine (impl_SeSize.calls kj17 (wrap64 ((wrap64 ((ji11) - (wrap64 ((Int.tmod (rd t204 3) 3) * (Int.tmod (rd t204 3) 200))))) + 1)) t224 _ A38.out).mono ?_); rintro e w41 ⟨rfl, hb⟩; have n0_ := Aside0.mk (below_step (by repeat (first | (with_reducible first | exact HB.out | apply below_alloc | apply pw_below_drewN | apply below_drew1) | exact HB.out)) hb); clear HB; have HB := n0_; clear n0_; (try clear hb); (try clear hb2); (try clear hk); (try clear hi)))
                                          repeat (go_quiet (first | (go_at_call 21; (with_reducible refine (impl_SeSize.calls kj17 (wrap64 ((ji11) - (wrap64 ((Int.tmod (rd t204 3) 3) * (Int.tmod (rd t204 3) 200))))) t222 _ A34.out).mono ?_); rintro e w39 ⟨rfl, hb⟩; have n0_ := Aside0.mk (below_step (by repeat (first | (with_reducible first | exact HB.out | apply below_alloc | apply pw_below_drewN | apply below_drew1) | exact HB.out)) hb); clear HB; have HB := n0_; clear n0_; (try clear hb); (try clear hb2); (try clear hk); (try clear hi)) | (go_at_call 21; (with_reducible refine (impl_SeSize.calls kj17 (wrap64 ((wrap64 ((ji11) - (wrap64 ((Int.tmod (rd t204 3) 3) * (Int.tmod (rd t204 3) 200))))) + 1)) t223 _ A36.out).mono ?_); rintro e w40 ⟨rfl, hb⟩; have n0_ := Aside0.mk (below_step (by repeat (first | (with_reducible first | exact HB.out | apply below_alloc | apply pw_below_drewN | apply below_drew1) | exact HB.out)) hb); clear HB; have HB := n0_; clear n0_; (try clear hb); (try clear hb2); (try clear hk); (try clear hi)) | (go_at_call 21; (with_reducible refine (impl_SeSize.calls kj17 (wrap64 ((wrap64 ((ji11) - (wrap64 ((Int.tmod (rd t204 3) 3) * (Int.tmod (rd t204 3) 200))))) + 1)) t224 _ A38.out).mono ?_); rintro e w41 ⟨rfl, hb⟩; have n0_ := Aside0.mk (below_step (by repeat (first | (with_reducible first | exact HB.out | apply below_alloc | apply pw_below_drewN | apply below_drew1) | exact HB.out)) hb); clear HB; have HB := n0_; clear n0_; (try clear hb); (try clear hb2); (try clear hk); (try clear hi))); try go_wp2_with (first | (go_at_call 21; (with_reducible refine (impl_SeSize.calls kj17 (wrap64 ((ji11) - (wrap64 ((Int.tmod (rd t204 3) 3) * (Int.tmod (rd t204 3) 200))))) t222 _ A34.out).mono ?_); rintro e w39 ⟨rfl, hb⟩; have n0_ := Aside0.mk (below_step (by repeat (first | (with_reducible first | exact HB.out | apply below_alloc | apply pw_below_drewN | apply below_drew1) | exact HB.out)) hb); clear HB; have HB := n0_; clear n0_; (try clear hb); (try clear hb2); (try clear hk); (try clear hi)) | (go_at_call 21; (with_reducible refine (impl_SeSize.calls kj17 (wrap64 ((wrap64 ((ji11) - (wrap64 ((Int.tmod (rd t204 3) 3) * (Int.tmod (rd t204 3) 200))))) + 1)) t223 _ A36.out).mono ?_); rintro e w40 ⟨rfl, hb⟩; have n0_ := Aside0.mk (below_step (by repeat (first | (with_reducible first | exact HB.out | apply below_alloc | apply pw_below_drewN | apply below_drew1) | exact HB.out)) hb); clear HB; have HB := n0_; clear n0_; (try clear hb); (try clear hb2); (try clear hk); (try clear hi)) | (go_at_call 21; (with_reducible refine (impl_SeSize.calls kj17 (wrap64 ((wrap64 ((ji11) - (wrap64 ((Int.tmod (rd t204 3) 3) * (Int.tmod (rd t204 3) 200))))) + 1)) t224 _ A38.out).mono ?_); rintro e w41 ⟨rfl, hb⟩; have n0_ := Aside0.mk (below_step (by repeat (first | (with_reducible first | exact HB.out | apply below_alloc | apply pw_below_drewN | apply below_drew1) | exact HB.out)) hb); clear HB; have HB := n0_; clear n0_; (try clear hb); (try clear hb2); (try clear hk); (try clear hi))))
                                          (try obtain rfl : t223 = t224 := Option.some.inj (A36.out.symm.trans A38.out))
                                          go_ret
                                          exact ⟨by first | rfl | (simp [errW_none, errW_some] <;> rfl) | (simp only [← hji9, ← hji11]; first | rfl | (simp [errW_none, errW_some] <;> rfl)) | (simp [*, errW_none, errW_some] <;> rfl), by repeat (first | (with_reducible first | exact HB.out | apply below_alloc | apply pw_below_drewN | apply below_drew1) | exact HB.out)⟩
                                        · rw [if_neg c37] at H
                                          have c37b0 : decide (t223 ≤ (t213.size : Int)) = false := decide_eq_false c37
                                          clear c37
                                          exact absurd (H.trans (congrArg some hr_.out)) (by simp)
                                      · rw [if_neg c35] at H
                                        have c35b0 : (t222 == (t213.size : Int)) = false := beq_eq_false_iff_ne.mpr c35
                                        have c35b1 : (t222 != (t213.size : Int)) = true := bne_iff_ne.mpr c35
                                        exact absurd (H.trans (congrArg some hr_.out)) (by simp)
                                    · rw [if_neg c33] at H
                                      have c33b0 : decide (0 ≤ t218) = false := decide_eq_false c33
                                      clear c33
                                      exact absurd (H.trans (congrArg some hr_.out)) (by simp)
                                  · rw [if_neg c32] at H
                                    have c32b0 : (t220 == (wrap64 ((ji11) - (wrap64 ((Int.tmod (rd t204 3) 3) * (Int.tmod (rd t204 3) 200)))))) = false := beq_eq_false_iff_ne.mpr c32
                                    have c32b1 : (t220 != (wrap64 ((ji11) - (wrap64 ((Int.tmod (rd t204 3) 3) * (Int.tmod (rd t204 3) 200)))))) = true := bne_iff_ne.mpr c32
                                    exact absurd (H.trans (congrArg some hr_.out)) (by simp)
                                · rw [if_neg c31] at H
                                  have c31b0 : (t216 == (wrap64 ((t207.size : Int) + (t213.size : Int)))) = false := beq_eq_false_iff_ne.mpr c31
                                  have c31b1 : (t216 != (wrap64 ((t207.size : Int) + (t213.size : Int)))) = true := bne_iff_ne.mpr c31
                                  exact absurd (H.trans (congrArg some hr_.out)) (by simp)
                              · rw [if_neg c30] at H
                                have c30b0 : (t215 == (wrap64 ((ji11) - (wrap64 ((Int.tmod (rd t204 3) 3) * (Int.tmod (rd t204 3) 200)))))) = false := beq_eq_false_iff_ne.mpr c30
                                have c30b1 : (t215 != (wrap64 ((ji11) - (wrap64 ((Int.tmod (rd t204 3) 3) * (Int.tmod (rd t204 3) 200)))))) = true := bne_iff_ne.mpr c30
                                exact absurd (H.trans (congrArg some hr_.out)) (by simp)
                            · replace c29 := Bool.eq_false_iff.mpr c29
                              subst c29
                              have H1 : (some false) = some r := by rw [if_neg (show ¬ (false = true) by decide)] at H; exact H
                              clear H
                              have H := H1
                              clear H1
                              exact absurd (H.trans (congrArg some hr_.out)) (by simp)
                          · replace c28 := Bool.eq_false_iff.mpr c28
                            subst c28
                            have H1 : (some false) = some r := by rw [if_neg (show ¬ (false = true) by decide)] at H; exact H
                            clear H
                            have H := H1
                            clear H1
                            exact absurd (H.trans (congrArg some hr_.out)) (by simp)
                        · replace c27 := Bool.eq_false_iff.mpr c27
                          subst c27
                          have H1 : (some false) = some r := by rw [if_neg (show ¬ (false = true) by decide)] at H; exact H
                          clear H
                          have H := H1
                          clear H1
                          exact absurd (H.trans (congrArg some hr_.out)) (by simp)
                      · replace c26 := Bool.eq_false_iff.mpr c26
                        subst c26
                        have H1 : (some false) = some r := by rw [if_neg (show ¬ (false = true) by decide)] at H; exact H
                        clear H
                        have H := H1
                        clear H1
                        exact absurd (H.trans (congrArg some hr_.out)) (by simp)
                    · rw [if_neg c25] at H
                      have c25b0 : decide ((wrap64 ((ji11) - (wrap64 ((Int.tmod (rd t204 3) 3) * (Int.tmod (rd t204 3) 200))))) < 0) = false := decide_eq_false c25
                      clear c25
                      by_cases c42 : t214 = true
                      · subst c42
                        have H1 : (if t217 = true then (if t219 = true then (if t221 = true then (if t215 = (wrap64 ((ji11) - (wrap64 ((Int.tmod (rd t204 3) 3) * (Int.tmod (rd t204 3) 200))))) then (if t216 = (wrap64 ((t207.size : Int) + (t213.size : Int))) then (if t220 = (wrap64 ((ji11) - (wrap64 ((Int.tmod (rd t204 3) 3) * (Int.tmod (rd t204 3) 200))))) then (if t218 ≥ 0 then ((impl_SeSize.f kj17 (wrap64 ((ji11) - (wrap64 ((Int.tmod (rd t204 3) 3) * (Int.tmod (rd t204 3) 200)))))).bind fun t225 => (if t225 = (t213.size : Int) then ((impl_SeSize.f kj17 x15_17).bind fun t226 => (if t226 ≤ (t213.size : Int) then ((impl_SeSize.f kj17 x15_17).bind fun t227 => (some (decide (t227 > 0)))) else (some false))) else (some false))) else (some false)) else (some false)) else (some false)) else (some false)) else (some false)) else (some false)) else (some false)) = some r := by rw [if_pos rfl] at H; exact H
                        clear H
                        have H := H1
                        clear H1
                        by_cases c43 : t217 = true
                        · subst c43
                          have H1 : (if t219 = true then (if t221 = true then (if t215 = (wrap64 ((ji11) - (wrap64 ((Int.tmod (rd t204 3) 3) * (Int.tmod (rd t204 3) 200))))) then (if t216 = (wrap64 ((t207.size : Int) + (t213.size : Int))) then (if t220 = (wrap64 ((ji11) - (wrap64 ((Int.tmod (rd t204 3) 3) * (Int.tmod (rd t204 3) 200))))) then (if t218 ≥ 0 then ((impl_SeSize.f kj17 (wrap64 ((ji11) - (wrap64 ((Int.tmod (rd t204 3) 3) * (Int.tmod (rd t204 3) 200)))))).bind fun t225 => (if t225 = (t213.size : Int) then ((impl_SeSize.f kj17 x15_17).bind fun t226 => (if t226 ≤ (t213.size : Int) then ((impl_SeSize.f kj17 x15_17).bind fun t227 => (some (decide (t227 > 0)))) else (some false))) else (some false))) else (some false)) else (some false)) else (some false)) else (some false)) else (some false)) else (some false)) = some r := by rw [if_pos rfl] at H; exact H
                          clear H
                          have H := H1
                          clear H1
                          by_cases c44 : t219 = true
                          · subst c44
                            have H1 : (if t221 = true then (if t215 = (wrap64 ((ji11) - (wrap64 ((Int.tmod (rd t204 3) 3) * (Int.tmod (rd t204 3) 200))))) then (if t216 = (wrap64 ((t207.size : Int) + (t213.size : Int))) then (if t220 = (wrap64 ((ji11) - (wrap64 ((Int.tmod (rd t204 3) 3) * (Int.tmod (rd t204 3) 200))))) then (if t218 ≥ 0 then ((impl_SeSize.f kj17 (wrap64 ((ji11) - (wrap64 ((Int.tmod (rd t204 3) 3) * (Int.tmod (rd t204 3) 200)))))).bind fun t225 => (if t225 = (t213.size : Int) then ((impl_SeSize.f kj17 x15_17).bind fun t226 => (if t226 ≤ (t213.size : Int) then ((impl_SeSize.f kj17 x15_17).bind fun t227 => (some (decide (t227 > 0)))) else (some false))) else (some false))) else (some false)) else (some false)) else (some false)) else (some false)) else (some false)) = some r := by rw [if_pos rfl] at H; exact H
                            clear H
                            have H := H1
                            clear H1
                            by_cases c45 : t221 = true
                            · subst c45
                              have H1 : (if t215 = (wrap64 ((ji11) - (wrap64 ((Int.tmod (rd t204 3) 3) * (Int.tmod (rd t204 3) 200))))) then (if t216 = (wrap64 ((t207.size : Int) + (t213.size : Int))) then (if t220 = (wrap64 ((ji11) - (wrap64 ((Int.tmod (rd t204 3) 3) * (Int.tmod (rd t204 3) 200))))) then (if t218 ≥ 0 then ((impl_SeSize.f kj17 (wrap64 ((ji11) - (wrap64 ((Int.tmod (rd t204 3) 3) * (Int.tmod (rd t204 3) 200)))))).bind fun t225 => (if t225 = (t213.size : Int) then ((impl_SeSize.f kj17 x15_17).bind fun t226 => (if t226 ≤ (t213.size : Int) then ((impl_SeSize.f kj17 x15_17).bind fun t227 => (some (decide (t227 > 0)))) else (some false))) else (some false))) else (some false)) else (some false)) else (some false)) else (some false)) = some r := by rw [if_pos rfl] at H; exact H
                              clear H
                              have H := H1
                              clear H1
                              by_cases c46 : t215 = (wrap64 ((ji11) - (wrap64 ((Int.tmod (rd t204 3) 3) * (Int.tmod (rd t204 3) 200)))))
                              · rw [if_pos c46] at H
                                have c46b0 : (t215 == (wrap64 ((ji11) - (wrap64 ((Int.tmod (rd t204 3) 3) * (Int.tmod (rd t204 3) 200)))))) = true := beq_iff_eq.mpr c46
                                have c46b1 : (t215 != (wrap64 ((ji11) - (wrap64 ((Int.tmod (rd t204 3) 3) * (Int.tmod (rd t204 3) 200)))))) = false := bne_eq_false_iff_eq.mpr c46
                                clear c46
                                by_cases c47 : t216 = (wrap64 ((t207.size : Int) + (t213.size : Int)))
                                · rw [if_pos c47] at H
                                  have c47b0 : (t216 == (wrap64 ((t207.size : Int) + (t213.size : Int)))) = true := beq_iff_eq.mpr c47
                                  have c47b1 : (t216 != (wrap64 ((t207.size : Int) + (t213.size : Int)))) = false := bne_eq_false_iff_eq.mpr c47
                                  clear c47
                                  by_cases c48 : t220 = (wrap64 ((ji11) - (wrap64 ((Int.tmod (rd t204 3) 3) * (Int.tmod (rd t204 3) 200)))))
                                  · rw [if_pos c48] at H
                                    have c48b0 : (t220 == (wrap64 ((ji11) - (wrap64 ((Int.tmod (rd t204 3) 3) * (Int.tmod (rd t204 3) 200)))))) = true := beq_iff_eq.mpr c48
                                    have c48b1 : (t220 != (wrap64 ((ji11) - (wrap64 ((Int.tmod (rd t204 3) 3) * (Int.tmod (rd t204 3) 200)))))) = false := bne_eq_false_iff_eq.mpr c48
                                    clear c48
                                    by_cases c49 : t218 ≥ 0
                                    · rw [if_pos c49] at H
                                      have c49b0 : decide (0 ≤ t218) = true := decide_eq_true c49
                                      clear c49
                                      replace H := Option.bind_eq_some_iff.mp H
                                      obtain ⟨t225, A500, H⟩ := H
                                      replace H : (if t225 = (t213.size : Int) then ((impl_SeSize.f kj17 x15_17).bind fun t226 => (if t226 ≤ (t213.size : Int) then ((impl_SeSize.f kj17 x15_17).bind fun t227 => (some (decide (t227 > 0)))) else (some false))) else (some false)) = some r := H
                                      have A50 := Aside0.mk A500
                                      clear A500
                                      by_cases c51 : t225 = (t213.size : Int)
                                      · rw [if_pos c51] at H
                                        have c51b0 : (t225 == (t213.size : Int)) = true := beq_iff_eq.mpr c51
                                        have c51b1 : (t225 != (t213.size : Int)) = false := bne_eq_false_iff_eq.mpr c51
                                        clear c51
                                        replace H := Option.bind_eq_some_iff.mp H
                                        obtain ⟨t226, A520, H⟩ := H
                                        replace H : (if t226 ≤ (t213.size : Int) then ((impl_SeSize.f kj17 x15_17).bind fun t227 => (some (decide (t227 > 0)))) else (some false)) = some r := H
                                        have A52 := Aside0.mk A520
                                        clear A520
                                        by_cases c53 : t226 ≤ (t213.size : Int)
                                        · rw [if_pos c53] at H
                                          have c53b0 : decide (t226 ≤ (t213.size : Int)) = true := decide_eq_true c53
                                          clear c53
                                          replace H := Option.bind_eq_some_iff.mp H
                                          obtain ⟨t227, A540, H⟩ := H
                                          replace H : (some (decide (t227 > 0))) = some r := H
                                          have A54 := Aside0.mk A540
                                          clear A540
                                          obtain rfl := Option.some.inj H
                                          go_wp2_with (first | (go_at_call 21; (with_reducible refine (impl_SeSize.calls kj17 (wrap64 ((ji11) - (wrap64 ((Int.tmod (rd t204 3) 3) * (Int.tmod (rd t204 3) 200))))) t225 _ A50.out).mono ?_); rintro e w55 ⟨rfl, hb⟩; have n0_ := Aside0.mk (below_step (by repeat (first | (with_reducible first | exact HB.out | apply below_alloc | apply pw_below_drewN | apply below_drew1) | exact HB.out)) hb); clear HB; have HB := n0_; clear n0_; (try clear hb); (try clear hb2); (try clear hk); (try clear hi)) | (go_at_call 21; (with_reducible refine (impl_SeSize.calls kj17 x15_17 t226 _ A52.out).mono ?_); rintro e w56 ⟨rfl, hb⟩; have n0_ := Aside0.mk (below_step (by repeat (first | (with_reducible first | exact HB.out | apply below_alloc | apply pw_below_drewN | apply below_drew1) | exact HB.out)) hb); clear HB; have HB := n0_; clear n0_; (try clear hb); (try clear hb2); (try clear hk); (try clear hi)) | (go_at_call 21; (with_reducible refine (impl_SeSize.calls kj17 x15_17 t227 _ A54.out).mono ?_); rintro e w57 ⟨rfl, hb⟩; have n0_ := Aside0.mk (below_step (by repeat (first | (with_reducible first | exact HB.out | apply below_alloc | apply pw_below_drewN | apply below_drew1) | exact HB.out)) hb); clear HB; have HB := n0_; clear n0_; (try clear hb); (try clear hb2); (try clear hk); (try clear hi)))
                                          repeat (go_quiet (first | (go_at_call 21; (with_reducible refine (impl_SeSize.calls kj17 (wrap64 ((ji11) - (wrap64 ((Int.tmod (rd t204 3) 3) * (Int.tmod (rd t204 3) 200))))) t225 _ A50.out).mono ?_); rintro e w55 ⟨rfl, hb⟩; have n0_ := Aside0.mk (below_step (by repeat (first | (with_reducible first | exact HB.out | apply below_alloc | apply pw_below_drewN | apply below_drew1) | exact HB.out)) hb); clear HB; have HB := n0_; clear n0_; (try clear hb); (try clear hb2); (try clear hk); (try clear hi)) | (go_at_call 21; (with_reducible refine (impl_SeSize.calls kj17 x15_17 t226 _ A52.out).mono ?_); rintro e w56 ⟨rfl, hb⟩; have n0_ := Aside0.mk (below_step (by repeat (first | (with_reducible first | exact HB.out | apply below_alloc | apply pw_below_drewN | apply below_drew1) | exact HB.out)) hb); clear HB; have HB := n0_; clear n0_; (try clear hb); (try clear hb2); (try clear hk); (try clear hi)) | (go_at_call 21; (with_reducible refine (impl_SeSize.calls kj17 x15_17 t227 _ A54.out).mono ?_); rintro e w57 ⟨rfl, hb⟩; have n0_ := Aside0.mk (below_step (by repeat (first | (with_reducible first | exact HB.out | apply below_alloc | apply pw_below_drewN | apply below_drew1) | exact HB.out)) hb); clear HB; have HB := n0_; clear n0_; (try clear hb); (try clear hb2); (try clear hk); (try clear hi))); try go_wp2_with (first | (go_at_call 21; (with_reducible refine (impl_SeSize.calls kj17 (wrap64 ((ji11) - (wrap64 ((Int.tmod (rd t204 3) 3) * (Int.tmod (rd t204 3) 200))))) t225 _ A50.out).mono ?_); rintro e w55 ⟨rfl, hb⟩; have n0_ := Aside0.mk (below_step (by repeat (first | (with_reducible first | exact HB.out | apply below_alloc | apply pw_below_drewN | apply below_drew1) | exact HB.out)) hb); clear HB; have HB := n0_; clear n0_; (try clear hb); (try clear hb2); (try clear hk); (try clear hi)) | (go_at_call 21; (with_reducible refine (impl_SeSize.calls kj17 x15_17 t226 _ A52.out).mono ?_); rintro e w56 ⟨rfl, hb⟩; have n0_ := Aside0.mk (below_step (by repeat (first | (with_reducible first | exact HB.out | apply below_alloc | apply pw_below_drewN | apply below_drew1) | exact HB.out)) hb); clear HB; have HB := n0_; clear n0_; (try clear hb); (try clear hb2); (try clear hk); (try clear hi)) | (go_at_call 21; (with_reducible refine (impl_SeSize.calls kj17 x15_17 t227 _ A54.out).mono ?_); rintro e w57 ⟨rfl, hb⟩; have n0_ := Aside0.mk (below_step (by repeat (first | (with_reducible first | exact HB.out | apply below_alloc | apply pw_below_drewN | apply below_drew1) | exact HB.out)) hb); clear HB; have HB := n0_; clear n0_; (try clear hb); (try clear hb2); (try clear hk); (try clear hi))))
                                          (try obtain rfl : t226 = t227 := Option.some.inj (A52.out.symm.trans A54.out))
                                          go_ret
                                          exact ⟨by first | rfl | (simp [errW_none, errW_some] <;> rfl) | (simp only [← hji9, ← hji11]; first | rfl | (simp [errW_none, errW_some] <;> rfl)) | (simp [*, errW_none, errW_some] <;> rfl), by repeat (first | (with_reducible first | exact HB.out | apply below_alloc | apply pw_below_drewN | apply below_drew1) | exact HB.out)⟩
                                        · rw [if_neg c53] at H
                                          have c53b0 : decide (t226 ≤ (t213.size : Int)) = false := decide_eq_false c53
                                          clear c53
                                          exact absurd (H.trans (congrArg some hr_.out)) (by simp)
                                      · rw [if_neg c51] at H
                                        have c51b0 : (t225 == (t213.size : Int)) = false := beq_eq_false_iff_ne.mpr c51
                                        have c51b1 : (t225 != (t213.size : Int)) = true := bne_iff_ne.mpr c51
                                        exact absurd (H.trans (congrArg some hr_.out)) (by simp)
                                    · rw [if_neg c49] at H
                                      have c49b0 : decide (0 ≤ t218) = false := decide_eq_false c49
                                      clear c49
                                      exact absurd (H.trans (congrArg some hr_.out)) (by simp)
                                  · rw [if_neg c48] at H
                                    have c48b0 : (t220 == (wrap64 ((ji11) - (wrap64 ((Int.tmod (rd t204 3) 3) * (Int.tmod (rd t204 3) 200)))))) = false := beq_eq_false_iff_ne.mpr c48
                                    have c48b1 : (t220 != (wrap64 ((ji11) - (wrap64 ((Int.tmod (rd t204 3) 3) * (Int.tmod (rd t204 3) 200)))))) = true := bne_iff_ne.mpr c48
                                    exact absurd (H.trans (congrArg some hr_.out)) (by simp)
                                · rw [if_neg c47] at H
                                  have c47b0 : (t216 == (wrap64 ((t207.size : Int) + (t213.size : Int)))) = false := beq_eq_false_iff_ne.mpr c47
                                  have c47b1 : (t216 != (wrap64 ((t207.size : Int) + (t213.size : Int)))) = true := bne_iff_ne.mpr c47
                                  exact absurd (H.trans (congrArg some hr_.out)) (by simp)
                              · rw [if_neg c46] at H
                                have c46b0 : (t215 == (wrap64 ((ji11) - (wrap64 ((Int.tmod (rd t204 3) 3) * (Int.tmod (rd t204 3) 200)))))) = false := beq_eq_false_iff_ne.mpr c46
                                have c46b1 : (t215 != (wrap64 ((ji11) - (wrap64 ((Int.tmod (rd t204 3) 3) * (Int.tmod (rd t204 3) 200)))))) = true := bne_iff_ne.mpr c46
                                exact absurd (H.trans (congrArg some hr_.out)) (by simp)
                            · replace c45 := Bool.eq_false_iff.mpr c45
                              subst c45
                              have H1 : (some false) = some r := by rw [if_neg (show ¬ (false = true) by decide)] at H; exact H
                              clear H
                              have H := H1
                              clear H1
                              exact absurd (H.trans (congrArg some hr_.out)) (by simp)
                          · replace c44 := Bool.eq_false_iff.mpr c44
                            subst c44
                            have H1 : (some false) = some r := by rw [if_neg (show ¬ (false = true) by decide)] at H; exact H
                            clear H
                            have H := H1
                            clear H1
                            exact absurd (H.trans (congrArg some hr_.out)) (by simp)
                        · replace c43 := Bool.eq_false_iff.mpr c43
                          subst c43
                          have H1 : (some false) = some r := by rw [if_neg (show ¬ (false = true) by decide)] at H; exact H
                          clear H
                          have H := H1
                          clear H1
                          exact absurd (H.trans (congrArg some hr_.out)) (by simp)
                      · replace c42 := Bool.eq_false_iff.mpr c42
                        subst c42
                        have H1 : (some false) = some r := by rw [if_neg (show ¬ (false = true) by decide)] at H; exact H
                        clear H
                        have H := H1
                        clear H1
                        exact absurd (H.trans (congrArg some hr_.out)) (by simp)
              · rw [if_neg c14] at H
                exact absurd H (by simp)
            · rw [if_neg c12] at H
              exact absurd H (by simp)
          · rw [if_neg c10] at H
            exact absurd H (by simp)
        · rw [if_neg c8] at H
          exact absurd H (by simp)
      · rw [if_neg c7] at H
        exact absurd H (by simp)
    · rw [if_neg c6] at H
      exact absurd H (by simp)

/-- THE ONE PURE STATEMENT of laws_FnSigned: yours. -/
def laws_FnSigned.Pure : Prop := ∀ (l0 : List Int), l0.length ≤ maxLen → l0.length * 1 ≤ 140737488351232 → (∀ x ∈ l0, (Lit.int .u8 x).wf = true) → ∃ k, laws_FnSigned.f k l0 = some true
theorem laws_FnSigned.walk (P : laws_FnSigned.Pure) (a0 : Option Addr) (len0 cap0 : Nat) (z0 : List Int) (w : World) (w0 : (a0 = none ∧ len0 = 0 ∧ cap0 = 0 ∧ z0 = []) ∨ ∃ x, a0 = some x ∧ len0 ≤ cap0 ∧ cap0 ≤ maxLen ∧ z0.length = cap0 ∧ (∀ i, i < z0.length → w.cell? (x.add i) = some (.int .u8 (z0.getD i 0))) ∧ ∀ n ∈ z0, (Lit.int .u8 n).wf = true) (y0 : len0 * 1 ≤ 140737488351232) :
    Calls Try.prog 3 #[.slice a0 len0 cap0] w fun e w' => e = .returned (.bool true) ∧ Below w.heap.size w w' := by
  obtain ⟨l0, rfl, hr0, hm0, hw0, hc0⟩ := ReadsInt.ofRowC w0
  obtain ⟨k, h⟩ := P l0 hm0 y0 hw0
  refine (laws_FnSigned.calls k _ _ l0 true w (Kd.C_of_reads (d := (0 : Int)) (h1 := fun _ => rfl) hr0) hc0 h ⟨rfl⟩).mono ?_
  rintro e w' ⟨rfl, hd⟩
  exact ⟨rfl, hd⟩

end Go.Proofs.Ytheafkkpapnmdaa.QFnSigned
