/- The machine side of a law's functions, written by this session's own program (a variant of the print); Lean checks it. -/
import Derived.Test.YtmidnldhfidlkaaQFnFixedx0
import Derived.Test.YtmidnldhfidlkaaQFnFixedx1
import Derived.Test.YtmidnldhfidlkaaQFnFixedx2
namespace Go.Proofs.Ytmidnldhfidlkaa.QFnFixed
open Go.RowKit Go.Proofs.YtmidnldhfidlkaaW.PrintWords Go.Proofs.YtmidnldhfidlkaaW.PrintLast Go.Proofs.YtmidnldhfidlkaaW.PrintMore
attribute [local go_sem] max2_int min2_int max_two min_two max_three min_three max_four min_four   -- for this text's walks alone
set_option linter.unusedVariables false
set_option linter.unusedSimpArgs false

/-! ### laws_FnFixed: function 6 -/
def laws_FnFixed.f (k : Nat) (l0 : List Int) : Option (Bool) := (laws_big.f l0).bind fun t175 => (if t175 = true then (some true) else ((spec_DrawPlaces.f k l0).bind fun t176 => ((spec_DrawRow.f k l0).bind fun t179 => (if 0 < (t176.length : Int) then (if 1 < (t176.length : Int) then (if 2 < (t176.length : Int) then (if 0 ≤ (IntKind.u64.wrap (Int.tmod (rd t176 0) 31)) then (if (shl .i64 1 (IntKind.u64.wrap (Int.tmod (rd t176 0) 31))) = 0 then (none) else ((impl_FixRow.f k (Int.tmod (wrap64 ((wrap64 ((rd t176 1) * 10000)) + (rd t176 2))) (shl .i64 1 (IntKind.u64.wrap (Int.tmod (rd t176 0) 31)))) (Int.tmod (rd t176 0) 31)).bind fun bt183 => (if t179.size + bt183.1.size ≤ 9223372036854775807 then (if (t179 ++ bt183.1).size + 2 ≤ 9223372036854775807 then ((impl_ReadFix.f k ((t179 ++ bt183.1) ++ (⟨#[48, 49]⟩ : ByteArray)) (t179.size : Int) (Int.tmod (rd t176 0) 31)).bind fun bt185 => (if bt183.2 = true then (if bt185.2.2 = true then (if bt185.1 = (Int.tmod (wrap64 ((wrap64 ((rd t176 1) * 10000)) + (rd t176 2))) (shl .i64 1 (IntKind.u64.wrap (Int.tmod (rd t176 0) 31)))) then (if (bt183.1.size : Int) = (Int.tmod (rd t176 0) 31) then (some (bt185.2.1 == (wrap64 ((t179.size : Int) + (Int.tmod (rd t176 0) 31))))) else (some false)) else (some false)) else (some false)) else (some false))) else (none)) else (none)))) else (none)) else (none)) else (none)) else (none)))))
theorem laws_FnFixed.mono : ∀ a0 k, LeO (laws_FnFixed.f k a0) (laws_FnFixed.f (k + 1) a0) := by
  intro a0 k
  unfold laws_FnFixed.f
  repeat' first
      | (with_reducible exact impl_FixRow.mono _ _ _)
      | (with_reducible exact impl_ReadFix.mono _ _ _ _)
      | (with_reducible exact spec_DrawPlaces.mono _ _)
      | (with_reducible exact spec_DrawRow.mono _ _)
      | (with_reducible exact LeO.refl _)
      | (with_reducible exact LeO.none _)
      | (with_reducible refine LeO.ite ?_ ?_)
      | (with_reducible refine LeO.bind ?_ (fun _ => ?_))
      | exact impl_FixRow.mono _ _ _
      | exact impl_ReadFix.mono _ _ _ _
      | exact spec_DrawPlaces.mono _ _
      | exact spec_DrawRow.mono _ _
      | exact LeO.none _
      | refine LeO.ite ?_ ?_
      | refine LeO.bind ?_ (fun _ => ?_)
set_option maxHeartbeats 8000000 in
set_option maxRecDepth 100000 in
theorem laws_FnFixed.calls (k : Nat) (A0 : Option Addr) (c0 : Nat) (l0 : List Int) (r : Bool) (w : World) (hr0 : Kd.C (Kd.int .u8) w A0 l0.length l0) (hc0 : l0.length ≤ c0) (h : laws_FnFixed.f k l0 = some r) (hr_ : Aside0 (r = true)) :
    Calls Try.prog 6 #[.slice A0 l0.length c0] w fun e w' => e = .returned (.bool r) ∧ Below w.heap.size w w' := by
  have HR0 := Aside0.mk hr0
  have HC0 := Aside0.mk hc0
  clear hr0 hc0
  have HB := Aside0.mk (Below.refl w.heap.size w)
  have H : ((laws_big.f l0).bind fun t175 => (if t175 = true then (some true) else ((spec_DrawPlaces.f k l0).bind fun t176 => ((spec_DrawRow.f k l0).bind fun t179 => (if 0 < (t176.length : Int) then (if 1 < (t176.length : Int) then (if 2 < (t176.length : Int) then (if 0 ≤ (IntKind.u64.wrap (Int.tmod (rd t176 0) 31)) then (if (shl .i64 1 (IntKind.u64.wrap (Int.tmod (rd t176 0) 31))) = 0 then (none) else ((impl_FixRow.f k (Int.tmod (wrap64 ((wrap64 ((rd t176 1) * 10000)) + (rd t176 2))) (shl .i64 1 (IntKind.u64.wrap (Int.tmod (rd t176 0) 31)))) (Int.tmod (rd t176 0) 31)).bind fun bt183 => (if t179.size + bt183.1.size ≤ 9223372036854775807 then (if (t179 ++ bt183.1).size + 2 ≤ 9223372036854775807 then ((impl_ReadFix.f k ((t179 ++ bt183.1) ++ (⟨#[48, 49]⟩ : ByteArray)) (t179.size : Int) (Int.tmod (rd t176 0) 31)).bind fun bt185 => (if bt183.2 = true then (if bt185.2.2 = true then (if bt185.1 = (Int.tmod (wrap64 ((wrap64 ((rd t176 1) * 10000)) + (rd t176 2))) (shl .i64 1 (IntKind.u64.wrap (Int.tmod (rd t176 0) 31)))) then (if (bt183.1.size : Int) = (Int.tmod (rd t176 0) 31) then (some (bt185.2.1 == (wrap64 ((t179.size : Int) + (Int.tmod (rd t176 0) 31))))) else (some false)) else (some false)) else (some false)) else (some false))) else (none)) else (none)))) else (none)) else (none)) else (none)) else (none)))))) = some r := h
  clear h
  replace H := Option.bind_eq_some_iff.mp H
  obtain ⟨t175, A20, H⟩ := H
  replace H : (if t175 = true then (some true) else ((spec_DrawPlaces.f k l0).bind fun t176 => ((spec_DrawRow.f k l0).bind fun t179 => (if 0 < (t176.length : Int) then (if 1 < (t176.length : Int) then (if 2 < (t176.length : Int) then (if 0 ≤ (IntKind.u64.wrap (Int.tmod (rd t176 0) 31)) then (if (shl .i64 1 (IntKind.u64.wrap (Int.tmod (rd t176 0) 31))) = 0 then (none) else ((impl_FixRow.f k (Int.tmod (wrap64 ((wrap64 ((rd t176 1) * 10000)) + (rd t176 2))) (shl .i64 1 (IntKind.u64.wrap (Int.tmod (rd t176 0) 31)))) (Int.tmod (rd t176 0) 31)).bind fun bt183 => (if t179.size + bt183.1.size ≤ 9223372036854775807 then (if (t179 ++ bt183.1).size + 2 ≤ 9223372036854775807 then ((impl_ReadFix.f k ((t179 ++ bt183.1) ++ (⟨#[48, 49]⟩ : ByteArray)) (t179.size : Int) (Int.tmod (rd t176 0) 31)).bind fun bt185 => (if bt183.2 = true then (if bt185.2.2 = true then (if bt185.1 = (Int.tmod (wrap64 ((wrap64 ((rd t176 1) * 10000)) + (rd t176 2))) (shl .i64 1 (IntKind.u64.wrap (Int.tmod (rd t176 0) 31)))) then (if (bt183.1.size : Int) = (Int.tmod (rd t176 0) 31) then (some (bt185.2.1 == (wrap64 ((t179.size : Int) + (Int.tmod (rd t176 0) 31))))) else (some false)) else (some false)) else (some false)) else (some false))) else (none)) else (none)))) else (none)) else (none)) else (none)) else (none))))) = some r := H
  have A2 := Aside0.mk A20
  clear A20
  by_cases c3 : t175 = true
  · subst c3
    have H1 : (some true) = some r := by rw [if_pos rfl] at H; exact H
    clear H
    have H := H1
    clear H1
    obtain rfl := Option.some.inj H
    go_enter Try.func6, Try.ntmps6
    go_wp2_with (first | (go_at_call 29; (with_reducible refine (laws_big.calls _ _ l0 true _ ?side1 ?side2 A2.out).mono ?_); (case side1 => repeat (first | exact HR0.out | (with_reducible refine Kd.C_alloc ?_ _) | (with_reducible refine Kd.C_drewN ?_ _) | (with_reducible refine Kd.C_drew ?_))); (case side2 => exact HC0.out); rintro e w' ⟨rfl, ⟨nd, rfl⟩⟩; (try first | exact ⟨rfl, _, World.drewN_drewN _ _ _⟩ | exact ⟨rfl, _, Eq.trans (World.drewN_drewN _ _ _) (congrArg (World.drewN _) (Nat.add_assoc _ _ _))⟩)))
    repeat (go_quiet (first | (go_at_call 29; (with_reducible refine (laws_big.calls _ _ l0 true _ ?side1 ?side2 A2.out).mono ?_); (case side1 => repeat (first | exact HR0.out | (with_reducible refine Kd.C_alloc ?_ _) | (with_reducible refine Kd.C_drewN ?_ _) | (with_reducible refine Kd.C_drew ?_))); (case side2 => exact HC0.out); rintro e w' ⟨rfl, ⟨nd, rfl⟩⟩; (try first | exact ⟨rfl, _, World.drewN_drewN _ _ _⟩ | exact ⟨rfl, _, Eq.trans (World.drewN_drewN _ _ _) (congrArg (World.drewN _) (Nat.add_assoc _ _ _))⟩))); try go_wp2_with (first | (go_at_call 29; (with_reducible refine (laws_big.calls _ _ l0 true _ ?side1 ?side2 A2.out).mono ?_); (case side1 => repeat (first | exact HR0.out | (with_reducible refine Kd.C_alloc ?_ _) | (with_reducible refine Kd.C_drewN ?_ _) | (with_reducible refine Kd.C_drew ?_))); (case side2 => exact HC0.out); rintro e w' ⟨rfl, ⟨nd, rfl⟩⟩; (try first | exact ⟨rfl, _, World.drewN_drewN _ _ _⟩ | exact ⟨rfl, _, Eq.trans (World.drewN_drewN _ _ _) (congrArg (World.drewN _) (Nat.add_assoc _ _ _))⟩))))
    go_ret
    exact ⟨by first | rfl | (simp [errW_none, errW_some] <;> rfl) | (simp [*, errW_none, errW_some] <;> rfl), by repeat (first | (with_reducible first | exact HB.out | apply below_alloc | apply pw_below_drewN | apply below_drew1) | exact HB.out)⟩
  · replace c3 := Bool.eq_false_iff.mpr c3
    subst c3
    have H1 : ((spec_DrawPlaces.f k l0).bind fun t176 => ((spec_DrawRow.f k l0).bind fun t179 => (if 0 < (t176.length : Int) then (if 1 < (t176.length : Int) then (if 2 < (t176.length : Int) then (if 0 ≤ (IntKind.u64.wrap (Int.tmod (rd t176 0) 31)) then (if (shl .i64 1 (IntKind.u64.wrap (Int.tmod (rd t176 0) 31))) = 0 then (none) else ((impl_FixRow.f k (Int.tmod (wrap64 ((wrap64 ((rd t176 1) * 10000)) + (rd t176 2))) (shl .i64 1 (IntKind.u64.wrap (Int.tmod (rd t176 0) 31)))) (Int.tmod (rd t176 0) 31)).bind fun bt183 => (if t179.size + bt183.1.size ≤ 9223372036854775807 then (if (t179 ++ bt183.1).size + 2 ≤ 9223372036854775807 then ((impl_ReadFix.f k ((t179 ++ bt183.1) ++ (⟨#[48, 49]⟩ : ByteArray)) (t179.size : Int) (Int.tmod (rd t176 0) 31)).bind fun bt185 => (if bt183.2 = true then (if bt185.2.2 = true then (if bt185.1 = (Int.tmod (wrap64 ((wrap64 ((rd t176 1) * 10000)) + (rd t176 2))) (shl .i64 1 (IntKind.u64.wrap (Int.tmod (rd t176 0) 31)))) then (if (bt183.1.size : Int) = (Int.tmod (rd t176 0) 31) then (some (bt185.2.1 == (wrap64 ((t179.size : Int) + (Int.tmod (rd t176 0) 31))))) else (some false)) else (some false)) else (some false)) else (some false))) else (none)) else (none)))) else (none)) else (none)) else (none)) else (none)))) = some r := by rw [if_neg (show ¬ (false = true) by decide)] at H; exact H
    clear H
    have H := H1
    clear H1
    replace H := Option.bind_eq_some_iff.mp H
    obtain ⟨t176, A40, H⟩ := H
    replace H : ((spec_DrawRow.f k l0).bind fun t179 => (if 0 < (t176.length : Int) then (if 1 < (t176.length : Int) then (if 2 < (t176.length : Int) then (if 0 ≤ (IntKind.u64.wrap (Int.tmod (rd t176 0) 31)) then (if (shl .i64 1 (IntKind.u64.wrap (Int.tmod (rd t176 0) 31))) = 0 then (none) else ((impl_FixRow.f k (Int.tmod (wrap64 ((wrap64 ((rd t176 1) * 10000)) + (rd t176 2))) (shl .i64 1 (IntKind.u64.wrap (Int.tmod (rd t176 0) 31)))) (Int.tmod (rd t176 0) 31)).bind fun bt183 => (if t179.size + bt183.1.size ≤ 9223372036854775807 then (if (t179 ++ bt183.1).size + 2 ≤ 9223372036854775807 then ((impl_ReadFix.f k ((t179 ++ bt183.1) ++ (⟨#[48, 49]⟩ : ByteArray)) (t179.size : Int) (Int.tmod (rd t176 0) 31)).bind fun bt185 => (if bt183.2 = true then (if bt185.2.2 = true then (if bt185.1 = (Int.tmod (wrap64 ((wrap64 ((rd t176 1) * 10000)) + (rd t176 2))) (shl .i64 1 (IntKind.u64.wrap (Int.tmod (rd t176 0) 31)))) then (if (bt183.1.size : Int) = (Int.tmod (rd t176 0) 31) then (some (bt185.2.1 == (wrap64 ((t179.size : Int) + (Int.tmod (rd t176 0) 31))))) else (some false)) else (some false)) else (some false)) else (some false))) else (none)) else (none)))) else (none)) else (none)) else (none)) else (none))) = some r := H
    have A4 := Aside0.mk A40
    clear A40
    replace H := Option.bind_eq_some_iff.mp H
    obtain ⟨t179, A50, H⟩ := H
    replace H : (if 0 < (t176.length : Int) then (if 1 < (t176.length : Int) then (if 2 < (t176.length : Int) then (if 0 ≤ (IntKind.u64.wrap (Int.tmod (rd t176 0) 31)) then (if (shl .i64 1 (IntKind.u64.wrap (Int.tmod (rd t176 0) 31))) = 0 then (none) else ((impl_FixRow.f k (Int.tmod (wrap64 ((wrap64 ((rd t176 1) * 10000)) + (rd t176 2))) (shl .i64 1 (IntKind.u64.wrap (Int.tmod (rd t176 0) 31)))) (Int.tmod (rd t176 0) 31)).bind fun bt183 => (if t179.size + bt183.1.size ≤ 9223372036854775807 then (if (t179 ++ bt183.1).size + 2 ≤ 9223372036854775807 then ((impl_ReadFix.f k ((t179 ++ bt183.1) ++ (⟨#[48, 49]⟩ : ByteArray)) (t179.size : Int) (Int.tmod (rd t176 0) 31)).bind fun bt185 => (if bt183.2 = true then (if bt185.2.2 = true then (if bt185.1 = (Int.tmod (wrap64 ((wrap64 ((rd t176 1) * 10000)) + (rd t176 2))) (shl .i64 1 (IntKind.u64.wrap (Int.tmod (rd t176 0) 31)))) then (if (bt183.1.size : Int) = (Int.tmod (rd t176 0) 31) then (some (bt185.2.1 == (wrap64 ((t179.size : Int) + (Int.tmod (rd t176 0) 31))))) else (some false)) else (some false)) else (some false)) else (some false))) else (none)) else (none)))) else (none)) else (none)) else (none)) else (none)) = some r := H
    have A5 := Aside0.mk A50
    clear A50
    by_cases c6 : 0 < (t176.length : Int)
    · rw [if_pos c6] at H
      have c6b0 : decide (0 < (t176.length : Int)) = true := decide_eq_true c6
      have c6b1 : decide (0 < t176.length) = true := decide_eq_true (by omega)
      clear c6
      by_cases c7 : 1 < (t176.length : Int)
      · rw [if_pos c7] at H
        have c7b0 : decide (1 < (t176.length : Int)) = true := decide_eq_true c7
        have c7b1 : decide (1 < t176.length) = true := decide_eq_true (by omega)
        clear c7
        by_cases c8 : 2 < (t176.length : Int)
        · rw [if_pos c8] at H
          have c8b0 : decide (2 < (t176.length : Int)) = true := decide_eq_true c8
          have c8b1 : decide (2 < t176.length) = true := decide_eq_true (by omega)
          clear c8
          obtain ⟨ji9, hji9⟩ : ∃ j_ : Int, (IntKind.u64.wrap (Int.tmod (rd t176 0) 31)) = j_ := ⟨_, rfl⟩
          replace H : (if 0 ≤ (ji9) then (if (shl .i64 1 (ji9)) = 0 then (none) else ((impl_FixRow.f k (Int.tmod (wrap64 ((wrap64 ((rd t176 1) * 10000)) + (rd t176 2))) (shl .i64 1 (ji9))) (Int.tmod (rd t176 0) 31)).bind fun bt183 => (if t179.size + bt183.1.size ≤ 9223372036854775807 then (if (t179 ++ bt183.1).size + 2 ≤ 9223372036854775807 then ((impl_ReadFix.f k ((t179 ++ bt183.1) ++ (⟨#[48, 49]⟩ : ByteArray)) (t179.size : Int) (Int.tmod (rd t176 0) 31)).bind fun bt185 => (if bt183.2 = true then (if bt185.2.2 = true then (if bt185.1 = (Int.tmod (wrap64 ((wrap64 ((rd t176 1) * 10000)) + (rd t176 2))) (shl .i64 1 (ji9))) then (if (bt183.1.size : Int) = (Int.tmod (rd t176 0) 31) then (some (bt185.2.1 == (wrap64 ((t179.size : Int) + (Int.tmod (rd t176 0) 31))))) else (some false)) else (some false)) else (some false)) else (some false))) else (none)) else (none)))) else (none)) = some r := by first | (rw [hji9] at H; exact H) | (simp only [hji9] at H ⊢; exact H)
          (try rw [hji9] at A2)
          (try rw [hji9] at A4)
          (try rw [hji9] at A5)
          by_cases c10 : 0 ≤ (ji9)
          · rw [if_pos c10] at H
            have c10b0 := eq_true c10
            have c10b1 : decide (0 ≤ (ji9)) = true := decide_eq_true c10
            clear c10
            obtain ⟨ji11, hji11⟩ : ∃ j_ : Int, (shl .i64 1 (ji9)) = j_ := ⟨_, rfl⟩
            replace H : (if (ji11) = 0 then (none) else ((impl_FixRow.f k (Int.tmod (wrap64 ((wrap64 ((rd t176 1) * 10000)) + (rd t176 2))) (ji11)) (Int.tmod (rd t176 0) 31)).bind fun bt183 => (if t179.size + bt183.1.size ≤ 9223372036854775807 then (if (t179 ++ bt183.1).size + 2 ≤ 9223372036854775807 then ((impl_ReadFix.f k ((t179 ++ bt183.1) ++ (⟨#[48, 49]⟩ : ByteArray)) (t179.size : Int) (Int.tmod (rd t176 0) 31)).bind fun bt185 => (if bt183.2 = true then (if bt185.2.2 = true then (if bt185.1 = (Int.tmod (wrap64 ((wrap64 ((rd t176 1) * 10000)) + (rd t176 2))) (ji11)) then (if (bt183.1.size : Int) = (Int.tmod (rd t176 0) 31) then (some (bt185.2.1 == (wrap64 ((t179.size : Int) + (Int.tmod (rd t176 0) 31))))) else (some false)) else (some false)) else (some false)) else (some false))) else (none)) else (none)))) = some r := by first | (rw [hji11] at H; exact H) | (simp only [hji11] at H ⊢; exact H)
            (try rw [hji11] at A2)
            (try rw [hji11] at A4)
            (try rw [hji11] at A5)
            have hji11_ : (IntKind.i64.wrap (1 * 2 ^ min (ji9).toNat 64)) = ji11 := hji11
            have hji11z : (ji9) ≤ 64 → (IntKind.i64.wrap (1 * 2 ^ (ji9).toNat)) = ji11 := shl_small hji11
            have hji11u : (IntKind.i64.wrap (2 ^ min (ji9).toNat 64)) = ji11 := by have h_ := hji11_; rw [Int.one_mul] at h_; exact h_
            have hji11v : (ji9) ≤ 64 → (IntKind.i64.wrap (2 ^ (ji9).toNat)) = ji11 := fun hle_ => by have h_ := hji11z hle_; rw [Int.one_mul] at h_; exact h_
            have hji11y : (wrap64 (1 * 2 ^ min (ji9).toNat 64)) = ji11 := (i64_w _).symm.trans hji11_
            have hji11x : (ji9) ≤ 64 → (wrap64 (1 * 2 ^ (ji9).toNat)) = ji11 := fun h_ => (i64_w _).symm.trans (hji11z h_)
            by_cases c12 : (ji11) = 0
            · rw [if_pos c12] at H
              exact absurd H (by simp)
            · rw [if_neg c12] at H
              have c12b0 : ((ji11) == 0) = false := beq_eq_false_iff_ne.mpr c12
              have c12b1 : ((ji11) != 0) = true := bne_iff_ne.mpr c12
              replace H := Option.bind_eq_some_iff.mp H
              obtain ⟨⟨t183, t184⟩, A130, H⟩ := H
              replace H : (if t179.size + t183.size ≤ 9223372036854775807 then (if (t179 ++ t183).size + 2 ≤ 9223372036854775807 then ((impl_ReadFix.f k ((t179 ++ t183) ++ (⟨#[48, 49]⟩ : ByteArray)) (t179.size : Int) (Int.tmod (rd t176 0) 31)).bind fun bt185 => (if t184 = true then (if bt185.2.2 = true then (if bt185.1 = (Int.tmod (wrap64 ((wrap64 ((rd t176 1) * 10000)) + (rd t176 2))) (ji11)) then (if (t183.size : Int) = (Int.tmod (rd t176 0) 31) then (some (bt185.2.1 == (wrap64 ((t179.size : Int) + (Int.tmod (rd t176 0) 31))))) else (some false)) else (some false)) else (some false)) else (some false))) else (none)) else (none)) = some r := H
              have A13 := Aside0.mk A130
              clear A130
              by_cases c14 : t179.size + t183.size ≤ 9223372036854775807
              · rw [if_pos c14] at H
                have c14b0 := eq_true c14
                have c14b1 : decide (t179.size + t183.size ≤ 9223372036854775807) = true := decide_eq_true c14
                try have c14b2 : (9223372036854775807 < t179.size + t183.size) = False := eq_false (Nat.not_lt.2 c14)
                by_cases c15 : (t179 ++ t183).size + 2 ≤ 9223372036854775807
                · rw [if_pos c15] at H
                  have c15b0 := eq_true c15
                  have c15b1 : decide ((t179 ++ t183).size + 2 ≤ 9223372036854775807) = true := decide_eq_true c15
                  try have c15b2 : (9223372036854775807 < (t179 ++ t183).size + 2) = False := eq_false (Nat.not_lt.2 c15)
                  try (have c15b3 := c15b2; simp only [ByteArray.size_append] at c15b3)
                  replace H := Option.bind_eq_some_iff.mp H
                  obtain ⟨⟨t185, t186, t187⟩, A160, H⟩ := H
                  replace H : (if t184 = true then (if t187 = true then (if t185 = (Int.tmod (wrap64 ((wrap64 ((rd t176 1) * 10000)) + (rd t176 2))) (ji11)) then (if (t183.size : Int) = (Int.tmod (rd t176 0) 31) then (some (t186 == (wrap64 ((t179.size : Int) + (Int.tmod (rd t176 0) 31))))) else (some false)) else (some false)) else (some false)) else (some false)) = some r := H
                  have A16 := Aside0.mk A160
                  clear A160
                  by_cases c17 : t184 = true
                  · subst c17
                    have H1 : (if t187 = true then (if t185 = (Int.tmod (wrap64 ((wrap64 ((rd t176 1) * 10000)) + (rd t176 2))) (ji11)) then (if (t183.size : Int) = (Int.tmod (rd t176 0) 31) then (some (t186 == (wrap64 ((t179.size : Int) + (Int.tmod (rd t176 0) 31))))) else (some false)) else (some false)) else (some false)) = some r := by rw [if_pos rfl] at H; exact H
                    clear H
                    have H := H1
                    clear H1
                    by_cases c18 : t187 = true
                    · subst c18
                      have H1 : (if t185 = (Int.tmod (wrap64 ((wrap64 ((rd t176 1) * 10000)) + (rd t176 2))) (ji11)) then (if (t183.size : Int) = (Int.tmod (rd t176 0) 31) then (some (t186 == (wrap64 ((t179.size : Int) + (Int.tmod (rd t176 0) 31))))) else (some false)) else (some false)) = some r := by rw [if_pos rfl] at H; exact H
                      clear H
                      have H := H1
                      clear H1
                      by_cases c19 : t185 = (Int.tmod (wrap64 ((wrap64 ((rd t176 1) * 10000)) + (rd t176 2))) (ji11))
                      · rw [if_pos c19] at H
                        have c19b0 : (t185 == (Int.tmod (wrap64 ((wrap64 ((rd t176 1) * 10000)) + (rd t176 2))) (ji11))) = true := beq_iff_eq.mpr c19
                        have c19b1 : (t185 != (Int.tmod (wrap64 ((wrap64 ((rd t176 1) * 10000)) + (rd t176 2))) (ji11))) = false := bne_eq_false_iff_eq.mpr c19
                        clear c19
                        by_cases c20 : (t183.size : Int) = (Int.tmod (rd t176 0) 31)
                        · rw [if_pos c20] at H
                          have c20b0 : ((t183.size : Int) == (Int.tmod (rd t176 0) 31)) = true := beq_iff_eq.mpr c20
                          have c20b1 : ((t183.size : Int) != (Int.tmod (rd t176 0) 31)) = false := bne_eq_false_iff_eq.mpr c20
                          clear c20
                          obtain rfl := Option.some.inj H
                          go_enter Try.func6, Try.ntmps6
                          go_wp2_with (first | (go_at_call 29; (with_reducible refine (laws_big.calls _ _ l0 false _ ?side1 ?side2 A2.out).mono ?_); (case side1 => repeat (first | exact HR0.out | (with_reducible refine Kd.C_alloc ?_ _) | (with_reducible refine Kd.C_drewN ?_ _) | (with_reducible refine Kd.C_drew ?_))); (case side2 => exact HC0.out); rintro e w' ⟨rfl, ⟨nd, rfl⟩⟩; (try first | exact ⟨rfl, _, World.drewN_drewN _ _ _⟩ | exact ⟨rfl, _, Eq.trans (World.drewN_drewN _ _ _) (congrArg (World.drewN _) (Nat.add_assoc _ _ _))⟩)) | (go_at_call 30; (with_reducible refine (spec_DrawPlaces.calls k _ _ l0 t176 _ ?side1 ?side2 A4.out).mono ?_); (case side1 => repeat (first | exact HR0.out | (with_reducible refine Kd.C_alloc ?_ _) | (with_reducible refine Kd.C_drewN ?_ _) | (with_reducible refine Kd.C_drew ?_))); (case side2 => exact HC0.out); rintro e w21 ⟨v177, rfl, ho0, hb⟩; have n0_ := Aside0.mk (Kd.R_lower ho0 (below_size (by repeat (first | (with_reducible first | exact HB.out | apply below_alloc | apply pw_below_drewN | apply below_drew1) | exact HB.out)))); have n1_ := Aside0.mk (below_step (by repeat (first | (with_reducible first | exact HB.out | apply below_alloc | apply pw_below_drewN | apply below_drew1) | exact HB.out)) hb); clear HB; have HO178 := n0_; have HB := n1_; clear n0_ n1_; (try clear hb); (try clear hb2); (try clear hk); (try clear hi); (try clear ho0)) | (go_at_call 31; (with_reducible refine (spec_DrawRow.calls k _ _ l0 t179 _ ?side1 ?side2 A5.out).mono ?_); (case side1 => repeat (first | exact (Kd.C_below HR0.out HB.out) | (with_reducible refine Kd.C_alloc ?_ _) | (with_reducible refine Kd.C_drewN ?_ _) | (with_reducible refine Kd.C_drew ?_))); (case side2 => exact HC0.out); rintro e w22 ⟨rfl, hb⟩; have n0_ := Aside0.mk (Kd.R_below (by (with_reducible repeat (first | apply Kd.R_alloc | apply Kd.R_drewN | apply Kd.R_drew)); exact HO178.out) hb); have n1_ := Aside0.mk (below_step (by repeat (first | (with_reducible first | exact HB.out | apply below_alloc | apply pw_below_drewN | apply below_drew1) | exact HB.out)) hb); clear HO178; clear HB; have HO178 := n0_; have HB := n1_; clear n0_ n1_; (try clear hb); (try clear hb2); (try clear hk); (try clear hi); obtain ⟨Ao23, co23, eo23⟩ := Kd.R_slice HO178.out; subst eo23; have p180 : 0 ≤ (0 : Int) := (by omega); have q180 : 0 < (t176.length : Int) := of_decide_eq_true (by first | (with_reducible assumption) | assumption); obtain ⟨ad180, e180, hx180_0⟩ := Kd.at_int (Kd.R_reads' HO178.out).2.2 0 p180 q180; cases e180; have qi180 : (0 < t176.length) = True := eq_true (by omega); (try rw [show ((0 : Int)).toNat = 0 from rfl] at hx180_0); (try rw [Addr.add_zero'] at hx180_0); replace p180 := eq_true p180; replace q180 := eq_true q180; have p181 : 0 ≤ (1 : Int) := (by omega); have q181 : 1 < (t176.length : Int) := of_decide_eq_true (by first | (with_reducible assumption) | assumption); obtain ⟨ad181, e181, hx181_0⟩ := Kd.at_int (Kd.R_reads' HO178.out).2.2 1 p181 q181; obtain rfl : ad180 = ad181 := (by injection e181); (try simp only [show (1 : Int).toNat = 1 from rfl, Nat.reduceMul, Nat.reduceEqDiff, Go.Addr.add, ↓reduceIte] at hx181_0); have qi181 : (1 < t176.length) = True := eq_true (by omega); (try rw [show ((1 : Int)).toNat = 1 from rfl] at hx181_0); replace p181 := eq_true p181; replace q181 := eq_true q181; have p182 : 0 ≤ (2 : Int) := (by omega); have q182 : 2 < (t176.length : Int) := of_decide_eq_true (by first | (with_reducible assumption) | assumption); obtain ⟨ad182, e182, hx182_0⟩ := Kd.at_int (Kd.R_reads' HO178.out).2.2 2 p182 q182; obtain rfl : ad180 = ad182 := (by injection e182); (try simp only [show (2 : Int).toNat = 2 from rfl, Nat.reduceMul, Nat.reduceEqDiff, Go.Addr.add, ↓reduceIte] at hx182_0); have qi182 : (2 < t176.length) = True := eq_true (by omega); (try rw [show ((2 : Int)).toNat = 2 from rfl] at hx182_0); replace p182 := eq_true p182; replace q182 := eq_true q182) | (go_at_call 32; (with_reducible refine (impl_FixRow.calls k (Int.tmod (wrap64 ((wrap64 ((rd t176 1) * 10000)) + (rd t176 2))) (ji11)) (Int.tmod (rd t176 0) 31) t183 true _ A13.out).mono ?_); rintro e w24 ⟨rfl, hb⟩; have n0_ := Aside0.mk (Kd.R_below (by (with_reducible repeat (first | apply Kd.R_alloc | apply Kd.R_drewN | apply Kd.R_drew)); exact HO178.out) hb); have n1_ := Aside0.mk (below_step (by repeat (first | (with_reducible first | exact HB.out | apply below_alloc | apply pw_below_drewN | apply below_drew1) | exact HB.out)) hb); clear HO178; clear HB; have HO178 := n0_; have HB := n1_; clear n0_ n1_; (try clear hb); (try clear hb2); (try clear hk); (try clear hi)) | (go_at_call 33; (with_reducible refine (impl_ReadFix.calls k ((t179 ++ t183) ++ (⟨#[48, 49]⟩ : ByteArray)) (t179.size : Int) (Int.tmod (rd t176 0) 31) t185 t186 true _ A16.out).mono ?_); rintro e w25 ⟨rfl, hb⟩; have n0_ := Aside0.mk (Kd.R_below (by (with_reducible repeat (first | apply Kd.R_alloc | apply Kd.R_drewN | apply Kd.R_drew)); exact HO178.out) hb); have n1_ := Aside0.mk (below_step (by repeat (first | (with_reducible first | exact HB.out | apply below_alloc | apply pw_below_drewN | apply below_drew1) | exact HB.out)) hb); clear HO178; clear HB; have HO178 := n0_; have HB := n1_; clear n0_ n1_; (try clear hb); (try clear hb2); (try clear hk); (try clear hi)))
                          repeat (go_quiet (first | (go_at_call 29; (with_reducible refine (laws_big.calls _ _ l0 false _ ?side1 ?side2 A2.out).mono ?_); (case side1 => repeat (first | exact HR0.out | (with_reducible refine Kd.C_alloc ?_ _) | (with_reducible refine Kd.C_drewN ?_ _) | (with_reducible refine Kd.C_drew ?_))); (case side2 => exact HC0.out); rintro e w' ⟨rfl, ⟨nd, rfl⟩⟩; (try first | exact ⟨rfl, _, World.drewN_drewN _ _ _⟩ | exact ⟨rfl, _, Eq.trans (World.drewN_drewN _ _ _) (congrArg (World.drewN _) (Nat.add_assoc _ _ _))⟩)) | (go_at_call 30; (with_reducible refine (spec_DrawPlaces.calls k _ _ l0 t176 _ ?side1 ?side2 A4.out).mono ?_); (case side1 => repeat (first | exact HR0.out | (with_reducible refine Kd.C_alloc ?_ _) | (with_reducible refine Kd.C_drewN ?_ _) | (with_reducible refine Kd.C_drew ?_))); (case side2 => exact HC0.out); rintro e w21 ⟨v177, rfl, ho0, hb⟩; have n0_ := Aside0.mk (Kd.R_lower ho0 (below_size (by repeat (first | (with_reducible first | exact HB.out | apply below_alloc | apply pw_below_drewN | apply below_drew1) | exact HB.out)))); have n1_ := Aside0.mk (below_step (by repeat (first | (with_reducible first | exact HB.out | apply below_alloc | apply pw_below_drewN | apply below_drew1) | exact HB.out)) hb); clear HB; have HO178 := n0_; have HB := n1_; clear n0_ n1_; (try clear hb); (try clear hb2); (try clear hk); (try clear hi); (try clear ho0)) | (go_at_call 31; (with_reducible refine (spec_DrawRow.calls k _ _ l0 t179 _ ?side1 ?side2 A5.out).mono ?_); (case side1 => repeat (first | exact (Kd.C_below HR0.out HB.out) | (with_reducible refine Kd.C_alloc ?_ _) | (with_reducible refine Kd.C_drewN ?_ _) | (with_reducible refine Kd.C_drew ?_))); (case side2 => exact HC0.out); rintro e w22 ⟨rfl, hb⟩; have n0_ := Aside0.mk (Kd.R_below (by (with_reducible repeat (first | apply Kd.R_alloc | apply Kd.R_drewN | apply Kd.R_drew)); exact HO178.out) hb); have n1_ := Aside0.mk (below_step (by repeat (first | (with_reducible first | exact HB.out | apply below_alloc | apply pw_below_drewN | apply below_drew1) | exact HB.out)) hb); clear HO178; clear HB; have HO178 := n0_; have HB := n1_; clear n0_ n1_; (try clear hb); (try clear hb2); (try clear hk); (try clear hi); obtain ⟨Ao23, co23, eo23⟩ := Kd.R_slice HO178.out; subst eo23; have p180 : 0 ≤ (0 : Int) := (by omega); have q180 : 0 < (t176.length : Int) := of_decide_eq_true (by first | (with_reducible assumption) | assumption); obtain ⟨ad180, e180, hx180_0⟩ := Kd.at_int (Kd.R_reads' HO178.out).2.2 0 p180 q180; cases e180; have qi180 : (0 < t176.length) = True := eq_true (by omega); (try rw [show ((0 : Int)).toNat = 0 from rfl] at hx180_0); (try rw [Addr.add_zero'] at hx180_0); replace p180 := eq_true p180; replace q180 := eq_true q180; have p181 : 0 ≤ (1 : Int) := (by omega); have q181 : 1 < (t176.length : Int) := of_decide_eq_true (by first | (with_reducible assumption) | assumption); obtain ⟨ad181, e181, hx181_0⟩ := Kd.at_int (Kd.R_reads' HO178.out).2.2 1 p181 q181; obtain rfl : ad180 = ad181 := (by injection e181); (try simp only [show (1 : Int).toNat = 1 from rfl, Nat.reduceMul, Nat.reduceEqDiff, Go.Addr.add, ↓reduceIte] at hx181_0); have qi181 : (1 < t176.length) = True := eq_true (by omega); (try rw [show ((1 : Int)).toNat = 1 from rfl] at hx181_0); replace p181 := eq_true p181; replace q181 := eq_true q181; have p182 : 0 ≤ (2 : Int) := (by omega); have q182 : 2 < (t176.length : Int) := of_decide_eq_true (by first | (with_reducible assumption) | assumption); obtain ⟨ad182, e182, hx182_0⟩ := Kd.at_int (Kd.R_reads' HO178.out).2.2 2 p182 q182; obtain rfl : ad180 = ad182 := (by injection e182); (try simp only [show (2 : Int).toNat = 2 from rfl, Nat.reduceMul, Nat.reduceEqDiff, Go.Addr.add, ↓reduceIte] at hx182_0); have qi182 : (2 < t176.length) = True := eq_true (by omega); (try rw [show ((2 : Int)).toNat = 2 from rfl] at hx182_0); replace p182 := eq_true p182; replace q182 := eq_true q182) | (go_at_call 32; (with_reducible refine (impl_FixRow.calls k (Int.tmod (wrap64 ((wrap64 ((rd t176 1) * 10000)) + (rd t176 2))) (ji11)) (Int.tmod (rd t176 0) 31) t183 true _ A13.out).mono ?_); rintro e w24 ⟨rfl, hb⟩; have n0_ := Aside0.mk (Kd.R_below (by (with_reducible repeat (first | apply Kd.R_alloc | apply Kd.R_drewN | apply Kd.R_drew)); exact HO178.out) hb); have n1_ := Aside0.mk (below_step (by repeat (first | (with_reducible first | exact HB.out | apply below_alloc | apply pw_below_drewN | apply below_drew1) | exact HB.out)) hb); clear HO178; clear HB; have HO178 := n0_; have HB := n1_; clear n0_ n1_; (try clear hb); (try clear hb2); (try clear hk); (try clear hi)) | (go_at_call 33; (with_reducible refine (impl_ReadFix.calls k ((t179 ++ t183) ++ (⟨#[48, 49]⟩ : ByteArray)) (t179.size : Int) (Int.tmod (rd t176 0) 31) t185 t186 true _ A16.out).mono ?_); rintro e w25 ⟨rfl, hb⟩; have n0_ := Aside0.mk (Kd.R_below (by (with_reducible repeat (first | apply Kd.R_alloc | apply Kd.R_drewN | apply Kd.R_drew)); exact HO178.out) hb); have n1_ := Aside0.mk (below_step (by repeat (first | (with_reducible first | exact HB.out | apply below_alloc | apply pw_below_drewN | apply below_drew1) | exact HB.out)) hb); clear HO178; clear HB; have HO178 := n0_; have HB := n1_; clear n0_ n1_; (try clear hb); (try clear hb2); (try clear hk); (try clear hi))); try go_wp2_with (first | (go_at_call 29; (with_reducible refine (laws_big.calls _ _ l0 false _ ?side1 ?side2 A2.out).mono ?_); (case side1 => repeat (first | exact HR0.out | (with_reducible refine Kd.C_alloc ?_ _) | (with_reducible refine Kd.C_drewN ?_ _) | (with_reducible refine Kd.C_drew ?_))); (case side2 => exact HC0.out); rintro e w' ⟨rfl, ⟨nd, rfl⟩⟩; (try first | exact ⟨rfl, _, World.drewN_drewN _ _ _⟩ | exact ⟨rfl, _, Eq.trans (World.drewN_drewN _ _ _) (congrArg (World.drewN _) (Nat.add_assoc _ _ _))⟩)) | (go_at_call 30; (with_reducible refine (spec_DrawPlaces.calls k _ _ l0 t176 _ ?side1 ?side2 A4.out).mono ?_); (case side1 => repeat (first | exact HR0.out | (with_reducible refine Kd.C_alloc ?_ _) | (with_reducible refine Kd.C_drewN ?_ _) | (with_reducible refine Kd.C_drew ?_))); (case side2 => exact HC0.out); rintro e w21 ⟨v177, rfl, ho0, hb⟩; have n0_ := Aside0.mk (Kd.R_lower ho0 (below_size (by repeat (first | (with_reducible first | exact HB.out | apply below_alloc | apply pw_below_drewN | apply below_drew1) | exact HB.out)))); have n1_ := Aside0.mk (below_step (by repeat (first | (with_reducible first | exact HB.out | apply below_alloc | apply pw_below_drewN | apply below_drew1) | exact HB.out)) hb); clear HB; have HO178 := n0_; have HB := n1_; clear n0_ n1_; (try clear hb); (try clear hb2); (try clear hk); (try clear hi); (try clear ho0)) | (go_at_call 31; (with_reducible refine (spec_DrawRow.calls k _ _ l0 t179 _ ?side1 ?side2 A5.out).mono ?_); (case side1 => repeat (first | exact (Kd.C_below HR0.out HB.out) | (with_reducible refine Kd.C_alloc ?_ _) | (with_reducible refine Kd.C_drewN ?_ _) | (with_reducible refine Kd.C_drew ?_))); (case side2 => exact HC0.out); rintro e w22 ⟨rfl, hb⟩; have n0_ := Aside0.mk (Kd.R_below (by (with_reducible repeat (first | apply Kd.R_alloc | apply Kd.R_drewN | apply Kd.R_drew)); exact HO178.out) hb); have n1_ := Aside0.mk (below_step (by repeat (first | (with_reducible first | exact HB.out | apply below_alloc | apply pw_below_drewN | apply below_drew1) | exact HB.out)) hb); clear HO178; clear HB; have HO178 := n0_; have HB := n1_; clear n0_ n1_; (try clear hb); (try clear hb2); (try clear hk); (try clear hi); obtain ⟨Ao23, co23, eo23⟩ := Kd.R_slice HO178.out; subst eo23; have p180 : 0 ≤ (0 : Int) := (by omega); have q180 : 0 < (t176.length : Int) := of_decide_eq_true (by first | (with_reducible assumption) | assumption); obtain ⟨ad180, e180, hx180_0⟩ := Kd.at_int (Kd.R_reads' HO178.out).2.2 0 p180 q180; cases e180; have qi180 : (0 < t176.length) = True := eq_true (by omega); (try rw [show ((0 : Int)).toNat = 0 from rfl] at hx180_0); (try rw [Addr.add_zero'] at hx180_0); replace p180 := eq_true p180; replace q180 := eq_true q180; have p181 : 0 ≤ (1 : Int) := (by omega); have q181 : 1 < (t176.length : Int) := of_decide_eq_true (by first | (with_reducible assumption) | assumption); obtain ⟨ad181, e181, hx181_0⟩ := Kd.at_int (Kd.R_reads' HO178.out).2.2 1 p181 q181; obtain rfl : ad180 = ad181 := (by injection e181); (try simp only [show (1 : Int).toNat = 1 from rfl, Nat.reduceMul, Nat.reduceEqDiff, Go.Addr.add, ↓reduceIte] at hx181_0); have qi181 : (1 < t176.length) = True := eq_true (by omega); (try rw [show ((1 : Int)).toNat = 1 from rfl] at hx181_0); replace p181 := eq_true p181; replace q181 := eq_true q181; have p182 : 0 ≤ (2 : Int) := (by omega); have q182 : 2 < (t176.length : Int) := of_decide_eq_true (by first | (with_reducible assumption) | assumption); obtain ⟨ad182, e182, hx182_0⟩ := Kd.at_int (Kd.R_reads' HO178.out).2.2 2 p182 q182; obtain rfl : ad180 = ad182 := (by injection e182); (try simp only [show (2 : Int).toNat = 2 from rfl, Nat.reduceMul, Nat.reduceEqDiff, Go.Addr.add, ↓reduceIte] at hx182_0); have qi182 : (2 < t176.length) = True := eq_true (by omega); (try rw [show ((2 : Int)).toNat = 2 from rfl] at hx182_0); replace p182 := eq_true p182; replace q182 := eq_true q182) | (go_at_call 32; (with_reducible refine (impl_FixRow.calls k (Int.tmod (wrap64 ((wrap64 ((rd t176 1) * 10000)) + (rd t176 2))) (ji11)) (Int.tmod (rd t176 0) 31) t183 true _ A13.out).mono ?_); rintro e w24 ⟨rfl, hb⟩; have n0_ := Aside0.mk (Kd.R_below (by (with_reducible repeat (first | apply Kd.R_alloc | apply Kd.R_drewN | apply Kd.R_drew)); exact HO178.out) hb); have n1_ := Aside0.mk (below_step (by repeat (first | (with_reducible first | exact HB.out | apply below_alloc | apply pw_below_drewN | apply below_drew1) | exact HB.out)) hb); clear HO178; clear HB; have HO178 := n0_; have HB := n1_; clear n0_ n1_; (try clear hb); (try clear hb2); (try clear hk); (try clear hi)) | (go_at_call 33; (with_reducible refine (impl_ReadFix.calls k ((t179 ++ t183) ++ (⟨#[48, 49]⟩ : ByteArray)) (t179.size : Int) (Int.tmod (rd t176 0) 31) t185 t186 true _ A16.out).mono ?_); rintro e w25 ⟨rfl, hb⟩; have n0_ := Aside0.mk (Kd.R_below (by (with_reducible repeat (first | apply Kd.R_alloc | apply Kd.R_drewN | apply Kd.R_drew)); exact HO178.out) hb); have n1_ := Aside0.mk (below_step (by repeat (first | (with_reducible first | exact HB.out | apply below_alloc | apply pw_below_drewN | apply below_drew1) | exact HB.out)) hb); clear HO178; clear HB; have HO178 := n0_; have HB := n1_; clear n0_ n1_; (try clear hb); (try clear hb2); (try clear hk); (try clear hi))))
                          go_ret
                          exact ⟨by first | rfl | (simp [errW_none, errW_some] <;> rfl) | (simp only [← hji9, ← hji11]; first | rfl | (simp [errW_none, errW_some] <;> rfl)) | (simp [*, errW_none, errW_some] <;> rfl), by repeat (first | (with_reducible first | exact HB.out | apply below_alloc | apply pw_below_drewN | apply below_drew1) | exact HB.out)⟩
                        · rw [if_neg c20] at H
                          have c20b0 : ((t183.size : Int) == (Int.tmod (rd t176 0) 31)) = false := beq_eq_false_iff_ne.mpr c20
                          have c20b1 : ((t183.size : Int) != (Int.tmod (rd t176 0) 31)) = true := bne_iff_ne.mpr c20
                          exact absurd (H.trans (congrArg some hr_.out)) (by simp)
                      · rw [if_neg c19] at H
                        have c19b0 : (t185 == (Int.tmod (wrap64 ((wrap64 ((rd t176 1) * 10000)) + (rd t176 2))) (ji11))) = false := beq_eq_false_iff_ne.mpr c19
                        have c19b1 : (t185 != (Int.tmod (wrap64 ((wrap64 ((rd t176 1) * 10000)) + (rd t176 2))) (ji11))) = true := bne_iff_ne.mpr c19
                        exact absurd (H.trans (congrArg some hr_.out)) (by simp)
                    · replace c18 := Bool.eq_false_iff.mpr c18
                      subst c18
                      have H1 : (some false) = some r := by rw [if_neg (show ¬ (false = true) by decide)] at H; exact H
                      clear H
                      have H := H1
                      clear H1
                      exact absurd (H.trans (congrArg some hr_.out)) (by simp)
                  · replace c17 := Bool.eq_false_iff.mpr c17
                    subst c17
                    have H1 : (some false) = some r := by rw [if_neg (show ¬ (false = true) by decide)] at H; exact H
                    clear H
                    have H := H1
                    clear H1
                    exact absurd (H.trans (congrArg some hr_.out)) (by simp)
                · rw [if_neg c15] at H
                  exact absurd H (by simp)
              · rw [if_neg c14] at H
                exact absurd H (by simp)
          · rw [if_neg c10] at H
            exact absurd H (by simp)
        · rw [if_neg c8] at H
          exact absurd H (by simp)
      · rw [if_neg c7] at H
        exact absurd H (by simp)
    · rw [if_neg c6] at H
      exact absurd H (by simp)

/-- THE ONE PURE STATEMENT of laws_FnFixed: yours. -/
def laws_FnFixed.Pure : Prop := ∀ (l0 : List Int), l0.length ≤ maxLen → l0.length * 1 ≤ 140737488351232 → (∀ x ∈ l0, (Lit.int .u8 x).wf = true) → ∃ k, laws_FnFixed.f k l0 = some true
theorem laws_FnFixed.walk (P : laws_FnFixed.Pure) (a0 : Option Addr) (len0 cap0 : Nat) (z0 : List Int) (w : World) (w0 : (a0 = none ∧ len0 = 0 ∧ cap0 = 0 ∧ z0 = []) ∨ ∃ x, a0 = some x ∧ len0 ≤ cap0 ∧ cap0 ≤ maxLen ∧ z0.length = cap0 ∧ (∀ i, i < z0.length → w.cell? (x.add i) = some (.int .u8 (z0.getD i 0))) ∧ ∀ n ∈ z0, (Lit.int .u8 n).wf = true) (y0 : len0 * 1 ≤ 140737488351232) :
    Calls Try.prog 6 #[.slice a0 len0 cap0] w fun e w' => e = .returned (.bool true) ∧ Below w.heap.size w w' := by
  obtain ⟨l0, rfl, hr0, hm0, hw0, hc0⟩ := ReadsInt.ofRowC w0
  obtain ⟨k, h⟩ := P l0 hm0 y0 hw0
  refine (laws_FnFixed.calls k _ _ l0 true w (Kd.C_of_reads (d := (0 : Int)) (h1 := fun _ => rfl) hr0) hc0 h ⟨rfl⟩).mono ?_
  rintro e w' ⟨rfl, hd⟩
  exact ⟨rfl, hd⟩

end Go.Proofs.Ytmidnldhfidlkaa.QFnFixed
