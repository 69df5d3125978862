/- The machine side of a law's functions, written by this session's own program (a variant of the print) and shortened by it; Lean checks it. -/
import Derived.Test.YtibnnodjockcbaaQFnHeadsx0
import Derived.Test.YtibnnodjockcbaaQFnHeadsx1
import Derived.Test.YtibnnodjockcbaaQFnHeadsx4
import Derived.Test.YtibnnodjockcbaaQFnHeadsx6
import Derived.Test.YtibnnodjockcbaaQFnHeadsx8
import Derived.Test.YtibnnodjockcbaaQFnHeadsx9
import Derived.Test.YtibnnodjockcbaaQFnHeadsx10
namespace Go.Proofs.Ytibnnodjockcbaa.QFnHeads
open Go.RowKit Go.Proofs.YtibnnodjockcbaaW.PrintWords Go.Proofs.YtibnnodjockcbaaW.PrintLast Go.Proofs.YtibnnodjockcbaaW.PrintMore
attribute [local go_sem] max2_int min2_int max_two min_two max_three min_three max_four min_four
set_option linter.unusedVariables false
set_option linter.unusedSimpArgs false
attribute [local go_sem high] eqA34
mutual
def impl_BytesRow.j0 : Nat → ByteArray → Int → Bool → Option (ByteArray × Bool)
  | 0, _, _, _ => none
  | k + 1, x0, x4, x23 => if x23 = true then (some ((⟨#[]⟩ : ByteArray), false)) else (if 0 ≤ x4 then (if (x4 : Int).toNat ≤ 281474976710656 then (impl_BytesRow.l0 k x0 x4 (([] : List Int)) 0) else (none)) else (none))
def impl_BytesRow.l0 : Nat → ByteArray → Int → List Int → Int → Option (ByteArray × Bool)
  | 0, _, _, _, _ => none
  | k + 1, x0, x4, x5, x6 => if x6 < x4 then (if 0 ≤ (wrap64 (Int.tdiv x6 8)) then (if (wrap64 (Int.tdiv x6 8)) < (x0.size : Int) then (if 0 ≤ (wrap64 (7 - (Int.tmod x6 8))) then (if x5.length < 140737488355328 then (impl_BytesRow.l0 k x0 x4 (x5 ++ [(48 + (Go.bits .and .u8 (shr .u8 (bt x0 (wrap64 (Int.tdiv x6 8))) (wrap64 (7 - (Int.tmod x6 8)))) 1)) % 256]) (wrap64 (x6 + 1))) else (none)) else (none)) else (none)) else (none)) else (impl_BytesRow.l1 k x4 x5)
def impl_BytesRow.l1 : Nat → Int → List Int → Option (ByteArray × Bool)
  | 0, _, _ => none
  | k + 1, x4, x5 => if 0 ≤ (wrap64 (x4 - 1)) then (if (wrap64 (x4 - 1)) < (x5.length : Int) then (if (rd x5 (wrap64 (x4 - 1))) = 48 then (impl_BytesRow.l1 k (wrap64 (x4 - 1)) x5) else (if (wrap64 (x4 - 1)) > 400000 then (some ((⟨#[]⟩ : ByteArray), false)) else (if (wrap64 (x4 - 1)) ≤ (x5.length : Int) then (some (strOfNums (x5.take ((wrap64 (x4 - 1)) : Int).toNat), true)) else (none)))) else (none)) else (none)
end
def impl_BytesRow.f (k : Nat) (a0 : ByteArray) : Option (ByteArray × Bool) := if (wrap64 (8 * (a0.size : Int))) = 0 then (impl_BytesRow.j0 k a0 (wrap64 (8 * (a0.size : Int))) true) else (if 0 ≤ (wrap64 ((a0.size : Int) - 1)) then (if (wrap64 ((a0.size : Int) - 1)) < (a0.size : Int) then (if (bt a0 (wrap64 ((a0.size : Int) - 1))) = 0 then (impl_BytesRow.j0 k a0 (wrap64 (8 * (a0.size : Int))) true) else (impl_BytesRow.j0 k a0 (wrap64 (8 * (a0.size : Int))) (decide ((wrap64 (8 * (a0.size : Int))) > 400008)))) else (none)) else (none))
theorem impl_BytesRow.mono_l : ∀ k, (∀ y0 y1 y2, LeO (impl_BytesRow.j0 k y0 y1 y2) (impl_BytesRow.j0 (k + 1) y0 y1 y2)) ∧ (∀ y0 y1 y2 y3, LeO (impl_BytesRow.l0 k y0 y1 y2 y3) (impl_BytesRow.l0 (k + 1) y0 y1 y2 y3)) ∧ (∀ y0 y1, LeO (impl_BytesRow.l1 k y0 y1) (impl_BytesRow.l1 (k + 1) y0 y1))
  | 0 => ⟨fun _ _ _ r h => by simp [impl_BytesRow.j0] at h, fun _ _ _ _ r h => by simp [impl_BytesRow.l0] at h, fun _ _ r h => by simp [impl_BytesRow.l1] at h⟩
  | k + 1 => by
    obtain ⟨ih0, ih1, ih2⟩ := impl_BytesRow.mono_l k
    refine ⟨?_, ?_, ?_⟩
    · intro y0 y1 y2
      unfold impl_BytesRow.j0
      repeat' first
      | (with_reducible exact ih0 _ _ _)
      | (with_reducible exact ih1 _ _ _ _)
      | (with_reducible exact ih2 _ _)
      | (with_reducible exact LeO.refl _)
      | (with_reducible exact LeO.none _)
      | (with_reducible refine LeO.ite ?_ ?_)
      | (with_reducible refine LeO.bind ?_ (fun _ => ?_))
      | exact ih0 _ _ _
      | exact ih1 _ _ _ _
      | exact ih2 _ _
      | exact LeO.none _
      | refine LeO.ite ?_ ?_
      | refine LeO.bind ?_ (fun _ => ?_)
    · intro y0 y1 y2 y3
      unfold impl_BytesRow.l0
      repeat' first
      | (with_reducible exact ih0 _ _ _)
      | (with_reducible exact ih1 _ _ _ _)
      | (with_reducible exact ih2 _ _)
      | (with_reducible exact LeO.refl _)
      | (with_reducible exact LeO.none _)
      | (with_reducible refine LeO.ite ?_ ?_)
      | (with_reducible refine LeO.bind ?_ (fun _ => ?_))
      | exact ih0 _ _ _
      | exact ih1 _ _ _ _
      | exact ih2 _ _
      | exact LeO.none _
      | refine LeO.ite ?_ ?_
      | refine LeO.bind ?_ (fun _ => ?_)
    · intro y0 y1
      unfold impl_BytesRow.l1
      repeat' first
      | (with_reducible exact ih0 _ _ _)
      | (with_reducible exact ih1 _ _ _ _)
      | (with_reducible exact ih2 _ _)
      | (with_reducible exact LeO.refl _)
      | (with_reducible exact LeO.none _)
      | (with_reducible refine LeO.ite ?_ ?_)
      | (with_reducible refine LeO.bind ?_ (fun _ => ?_))
      | exact ih0 _ _ _
      | exact ih1 _ _ _ _
      | exact ih2 _ _
      | exact LeO.none _
      | refine LeO.ite ?_ ?_
      | refine LeO.bind ?_ (fun _ => ?_)
theorem impl_BytesRow.mono : ∀ a0 k, LeO (impl_BytesRow.f k a0) (impl_BytesRow.f (k + 1) a0) := by
  intro a0 k
  obtain ⟨ih0, ih1, ih2⟩ := impl_BytesRow.mono_l k
  unfold impl_BytesRow.f
  repeat' first
      | (with_reducible exact ih0 _ _ _)
      | (with_reducible exact ih1 _ _ _ _)
      | (with_reducible exact ih2 _ _)
      | (with_reducible exact LeO.refl _)
      | (with_reducible exact LeO.none _)
      | (with_reducible refine LeO.ite ?_ ?_)
      | (with_reducible refine LeO.bind ?_ (fun _ => ?_))
      | exact ih0 _ _ _
      | exact ih1 _ _ _ _
      | exact ih2 _ _
      | exact LeO.none _
      | refine LeO.ite ?_ ?_
      | refine LeO.bind ?_ (fun _ => ?_)
set_option maxHeartbeats 8000000 in
set_option maxRecDepth 100000 in
theorem impl_BytesRow.calls (k : Nat) (a0 : ByteArray) (r1 : ByteArray) (r2 : Bool) (w : World) (h : impl_BytesRow.f k a0 = some (r1, r2)) :
    Calls Try.prog 27 #[.string a0] w fun e w' => e = .returned (.tuple #[.string r1, .bool r2]) ∧ Below w.heap.size w w' := by
  have HB := Aside0.mk (Below.refl w.heap.size w)
  have H : (if (wrap64 (8 * (a0.size : Int))) = 0 then (impl_BytesRow.j0 k a0 (wrap64 (8 * (a0.size : Int))) true) else (if 0 ≤ (wrap64 ((a0.size : Int) - 1)) then (if (wrap64 ((a0.size : Int) - 1)) < (a0.size : Int) then (if (bt a0 (wrap64 ((a0.size : Int) - 1))) = 0 then (impl_BytesRow.j0 k a0 (wrap64 (8 * (a0.size : Int))) true) else (impl_BytesRow.j0 k a0 (wrap64 (8 * (a0.size : Int))) (decide ((wrap64 (8 * (a0.size : Int))) > 400008)))) else (none)) else (none))) = some (r1, r2) := h
  clear h
  have HC2 := Aside0.mk H
  clear H
  go_enter Try.func27, Try.ntmps27
  go_upto_region 2 with (fail)
  go_cut [23] (fun v23 wc => ∃ (kq : Nat) (x23_1 : Bool), v23 = .bool x23_1 ∧ Aside0 (impl_BytesRow.j0 kq a0 (wrap64 (8 * (a0.size : Int))) x23_1 = some (r1, r2)) ∧ Aside0 (kq ≤ k) ∧ Aside0 (Below w.heap.size w wc))
  case first =>
    have H := HC2.out
    clear HC2
    by_cases c3 : (wrap64 (8 * (a0.size : Int))) = 0
    · rw [if_pos c3] at H
      have c3b0 : ((wrap64 (8 * (a0.size : Int))) == 0) = true := beq_iff_eq.mpr c3
      have c3b1 : ((wrap64 (8 * (a0.size : Int))) != 0) = false := bne_eq_false_iff_eq.mpr c3
      clear c3
      (first | rw [c3b0] | (simp only [i64_w, i32_w]; rw [c3b0]) | skip)
      have H' := Aside0.mk H
      clear H
      go_wp2
      go_meet
      case rel => exact ⟨_, (true), (by first | rfl | (simp; done) | (simp [*]; done)), H', ⟨by first | omega | exact Nat.le_refl _⟩, ⟨by repeat (first | (with_reducible first | exact HB.out | apply below_alloc | apply pw_below_drewN | apply below_drew1) | exact HB.out)⟩⟩
    · rw [if_neg c3] at H
      have c3b0 : ((wrap64 (8 * (a0.size : Int))) == 0) = false := beq_eq_false_iff_ne.mpr c3
      have c3b1 : ((wrap64 (8 * (a0.size : Int))) != 0) = true := bne_iff_ne.mpr c3
      (first | rw [c3b0] | (simp only [i64_w, i32_w]; rw [c3b0]) | skip)
      obtain ⟨ji4, hji4⟩ : ∃ j_ : Int, (wrap64 ((a0.size : Int) - 1)) = j_ := ⟨_, rfl⟩
      replace H : (if 0 ≤ (ji4) then (if (ji4) < (a0.size : Int) then (if (bt a0 (ji4)) = 0 then (impl_BytesRow.j0 k a0 (wrap64 (8 * (a0.size : Int))) true) else (impl_BytesRow.j0 k a0 (wrap64 (8 * (a0.size : Int))) (decide ((wrap64 (8 * (a0.size : Int))) > 400008)))) else (none)) else (none)) = some (r1, r2) := by first | (rw [hji4] at H; exact H) | (simp only [hji4] at H ⊢; exact H)
      have hji4w : (IntKind.i64.wrap ((a0.size : Int) - 1)) = ji4 := (i64_w _).trans hji4
      by_cases c5 : 0 ≤ (ji4)
      · rw [if_pos c5] at H
        have c5b0 : decide (0 ≤ (ji4)) = true := decide_eq_true c5
        clear c5
        by_cases c6 : (ji4) < (a0.size : Int)
        · rw [if_pos c6] at H
          have c6b0 : decide ((ji4) < (a0.size : Int)) = true := decide_eq_true c6
          clear c6
          by_cases c8 : (bt a0 (ji4)) = 0
          · rw [if_pos c8] at H
            have c8b0 : ((bt a0 (ji4)) == 0) = true := beq_iff_eq.mpr c8
            have c8b1 : ((bt a0 (ji4)) != 0) = false := bne_eq_false_iff_eq.mpr c8
            clear c8
            have H' := Aside0.mk H
            clear H
            have p7 : 0 ≤ ((ji4) : Int) := of_decide_eq_true (by first | (with_reducible assumption) | assumption)
            have q7 : (ji4) < (a0.size : Int) := of_decide_eq_true (by first | (with_reducible assumption) | assumption)
            have hx7 := bt_at a0 (ji4)
            replace p7 := eq_true p7
            replace q7 := eq_true q7
            go_wp2
            go_meet
            case rel => exact ⟨_, (true), (by first | rfl | (simp; done) | (simp [*]; done)), H', ⟨by first | omega | exact Nat.le_refl _⟩, ⟨by repeat (first | (with_reducible first | exact HB.out | apply below_alloc | apply pw_below_drewN | apply below_drew1) | exact HB.out)⟩⟩
          · rw [if_neg c8] at H
            have c8b0 : ((bt a0 (ji4)) == 0) = false := beq_eq_false_iff_ne.mpr c8
            have c8b1 : ((bt a0 (ji4)) != 0) = true := bne_iff_ne.mpr c8
            have H' := Aside0.mk H
            clear H
            have p7 : 0 ≤ ((ji4) : Int) := of_decide_eq_true (by first | (with_reducible assumption) | assumption)
            have q7 : (ji4) < (a0.size : Int) := of_decide_eq_true (by first | (with_reducible assumption) | assumption)
            have hx7 := bt_at a0 (ji4)
            replace p7 := eq_true p7
            replace q7 := eq_true q7
            go_wp2
            go_meet
            case rel => exact ⟨_, (decide ((wrap64 (8 * (a0.size : Int))) > 400008)), (by first | rfl | (simp; done) | (simp [*]; done)), H', ⟨by first | omega | exact Nat.le_refl _⟩, ⟨by repeat (first | (with_reducible first | exact HB.out | apply below_alloc | apply pw_below_drewN | apply below_drew1) | exact HB.out)⟩⟩
        · rw [if_neg c6] at H
          exact absurd H (by simp)
      · rw [if_neg c5] at H
        exact absurd H (by simp)
  case rest =>
    clear HC2
    try clear c2
    try clear p2
    try clear c3
    try clear c3b0
    try clear c3b1
    try clear c5
    try clear c5b0
    try clear c6
    try clear c6b0
    try clear p6
    try clear p7
    try clear q7
    try clear hx7
    try clear c8
    try clear c8b0
    try clear c8b1
    try clear p7
    try clear q7
    obtain ⟨kq, x23_1, rfl, HA, HJ1, HB⟩ := hcut
    cases kq with
    | zero => exact absurd HA.out (by simp [impl_BytesRow.j0])
    | succ kj1 =>
      have H := HA.out
      clear HA
      simp only [impl_BytesRow.j0] at H
      by_cases c9 : x23_1 = true
      · subst c9
        have H1 : (some ((⟨#[]⟩ : ByteArray), false)) = some (r1, r2) := by rw [if_pos rfl] at H; exact H
        clear H
        have H := H1
        clear H1
        simp only [Option.some.injEq, Prod.mk.injEq] at H
        obtain ⟨rfl, rfl⟩ := H
        go_wp2
        go_ret2
        exact ⟨by first | rfl | (simp [errW_none, errW_some] <;> rfl) | (simp [*, errW_none, errW_some] <;> rfl), by repeat (first | (with_reducible first | exact HB.out | apply below_alloc | apply pw_below_drewN | apply below_drew1) | exact HB.out)⟩
      · replace c9 := Bool.eq_false_iff.mpr c9
        subst c9
        have H1 : (if 0 ≤ (wrap64 (8 * (a0.size : Int))) then (if ((wrap64 (8 * (a0.size : Int))) : Int).toNat ≤ 281474976710656 then (impl_BytesRow.l0 kj1 a0 (wrap64 (8 * (a0.size : Int))) (([] : List Int)) 0) else (none)) else (none)) = some (r1, r2) := by rw [if_neg (show ¬ (false = true) by decide)] at H; exact H
        clear H
        have H := H1
        clear H1
        obtain ⟨ji10, hji10⟩ : ∃ j_ : Int, (wrap64 (8 * (a0.size : Int))) = j_ := ⟨_, rfl⟩
        replace H : (if 0 ≤ (ji10) then (if ((ji10) : Int).toNat ≤ 281474976710656 then (impl_BytesRow.l0 kj1 a0 (ji10) (([] : List Int)) 0) else (none)) else (none)) = some (r1, r2) := by first | (rw [hji10] at H; exact H) | (simp only [hji10] at H ⊢; exact H)
        have hji10w : (IntKind.i64.wrap (8 * (a0.size : Int))) = ji10 := (i64_w _).trans hji10
        by_cases c11 : 0 ≤ (ji10)
        · rw [if_pos c11] at H
          have c11b0 := eq_true c11
          have c11b1 : decide (0 ≤ (ji10)) = true := decide_eq_true c11
          clear c11
          by_cases c12 : ((ji10) : Int).toNat ≤ 281474976710656
          · rw [if_pos c12] at H
            have c12b0 := eq_true c12
            have c12b1 : decide (((ji10) : Int).toNat ≤ 281474976710656) = true := decide_eq_true c12
            clear c12
            obtain ⟨y352, hy352⟩ : ∃ y_ : List Int, y_ = (([] : List Int)) := ⟨_, rfl⟩
            replace H : (impl_BytesRow.l0 kj1 a0 (ji10) y352 0) = some (r1, r2) := by first | (rw [hy352]; with_reducible exact H) | (have H2_ := (Option.bind_some _ _).symm.trans H; rw [hy352]; with_reducible exact H2_) | (have H2_ := (Option.bind_some _ _).symm.trans H; with_reducible exact H2_) | with_reducible exact H | (rw [hy352]; exact H) | exact H
            have Ny352 := Aside0.mk hy352
            clear hy352
            have H' := Aside0.mk H
            clear H
            go_wp2_with (first | ((with_reducible refine gate_dst (N := 25) rfl ?_); (try (refine gate_guard (by rfl) ?_; dsimp only)); refine Go.Proofs.YtibnnodjockcbaaX.R_makecap (Kd.int .u8) _ 5 rfl (N := 25) rfl 48 _ _ rfl (ji10) rfl (by first | rfl | exact congrArg (Value.int .i64) (by assumption)) Try.underlying48 (.int .u8 0) 1 info5 rfl (by decide) (by omega) (ok := fun _ => True) trivial (of_decide_eq_true (by first | (with_reducible assumption) | assumption)) (Nat.le_trans (Nat.mul_le_mul_right _ (of_decide_eq_true (by first | (with_reducible assumption) | assumption) : (ji10).toNat ≤ 281474976710656)) (by omega)) (Below.refl _ _) (Nat.le_refl _) ?_; intro v353 w13 ho14 hb hg_ hnew_; clear hg_ hnew_; (first | rw [← Ny352.out] at ho14 | (simp only [Int.reduceToNat] at ho14; rw [← Ny352.out] at ho14)); have n0_ := Aside0.mk (Kd.R_lower ho14 (below_size (by repeat (first | (with_reducible first | exact HB.out | apply below_alloc | apply pw_below_drewN | apply below_drew1) | exact HB.out)))); have n1_ := Aside0.mk (below_step (by repeat (first | (with_reducible first | exact HB.out | apply below_alloc | apply pw_below_drewN | apply below_drew1) | exact HB.out)) hb); clear HB; have HO354 := n0_; have HB := n1_; clear n0_ n1_; clear hb ho14))
            go_loopg [5, 6] kj1 (fun kq v5 v6 w' => ∃ (x5_2 : List Int) (x6_2 : Int), v6 = .int .i64 x6_2 ∧ Aside0 (impl_BytesRow.l0 kq a0 (ji10) x5_2 x6_2 = some (r1, r2)) ∧ Aside0 (kq ≤ kj1) ∧ Aside0 (Kd.R (Kd.int .u8) 5 w' w.heap.size (fun _ => True) v5 x5_2) ∧ Aside0 (Below w.heap.size w w'))
            case atStart => exact ⟨(y352), (0), (by first | rfl | (simp; done) | (simp [*]; done)), H', ⟨Nat.le_refl _⟩, ⟨by (with_reducible repeat (first | apply Kd.R_alloc | apply Kd.R_drewN | apply Kd.R_drew)); exact HO354.out⟩, ⟨by repeat (first | (with_reducible first | exact HB.out | apply below_alloc | apply pw_below_drewN | apply below_drew1) | exact HB.out)⟩⟩
            case round =>
              clear H'
              try clear c1
              try clear c2
              try clear p2
              try clear c3
              try clear c3b0
              try clear c3b1
              try clear c5
              try clear c5b0
              try clear c6
              try clear c6b0
              try clear p6
              try clear p7
              try clear q7
              try clear hx7
              try clear c8
              try clear c8b0
              try clear c8b1
              try clear c9
              try clear c11
              try clear c11b0
              try clear c11b1
              try clear c12
              try clear c12b0
              try clear c12b1
              try clear p2
              try clear p6
              try clear p7
              try clear q7
              obtain ⟨x5_2, x6_2, rfl, HA, HK2, HO_5, HB⟩ := hrel
              cases gk with
              | zero => exact absurd HA.out (by simp [impl_BytesRow.l0])
              | succ k2 =>
                have H := HA.out
                clear HA
                simp only [impl_BytesRow.l0] at H
                by_cases c15 : x6_2 < (ji10)
                · rw [if_pos c15] at H
                  have c15b0 : decide (x6_2 < (ji10)) = true := decide_eq_true c15
                  clear c15
                  obtain ⟨ji16, hji16⟩ : ∃ j_ : Int, (wrap64 (Int.tdiv x6_2 8)) = j_ := ⟨_, rfl⟩
                  replace H : (if 0 ≤ (ji16) then (if (ji16) < (a0.size : Int) then (if 0 ≤ (wrap64 (7 - (Int.tmod x6_2 8))) then (if x5_2.length < 140737488355328 then (impl_BytesRow.l0 k2 a0 (ji10) (x5_2 ++ [(48 + (Go.bits .and .u8 (shr .u8 (bt a0 (ji16)) (wrap64 (7 - (Int.tmod x6_2 8)))) 1)) % 256]) (wrap64 (x6_2 + 1))) else (none)) else (none)) else (none)) else (none)) = some (r1, r2) := by first | (rw [hji16] at H; exact H) | (simp only [hji16] at H ⊢; exact H)
                  have hji16w : (IntKind.i64.wrap (Int.tdiv x6_2 8)) = ji16 := (i64_w _).trans hji16
                  by_cases c17 : 0 ≤ (ji16)
                  · rw [if_pos c17] at H
                    have c17b0 : decide (0 ≤ (ji16)) = true := decide_eq_true c17
                    clear c17
                    by_cases c18 : (ji16) < (a0.size : Int)
                    · rw [if_pos c18] at H
                      have c18b0 : decide ((ji16) < (a0.size : Int)) = true := decide_eq_true c18
                      clear c18
                      obtain ⟨ji20, hji20⟩ : ∃ j_ : Int, (wrap64 (7 - (Int.tmod x6_2 8))) = j_ := ⟨_, rfl⟩
                      replace H : (if 0 ≤ (ji20) then (if x5_2.length < 140737488355328 then (impl_BytesRow.l0 k2 a0 (ji10) (x5_2 ++ [(48 + (Go.bits .and .u8 (shr .u8 (bt a0 (ji16)) (ji20)) 1)) % 256]) (wrap64 (x6_2 + 1))) else (none)) else (none)) = some (r1, r2) := by first | (rw [hji20] at H; exact H) | (simp only [hji20] at H ⊢; exact H)
                      have hji20w : (IntKind.i64.wrap (7 - (Int.tmod x6_2 8))) = ji20 := (i64_w _).trans hji20
                      by_cases c21 : 0 ≤ (ji20)
                      · rw [if_pos c21] at H
                        have c21b0 := eq_true c21
                        have c21b1 : decide (0 ≤ (ji20)) = true := decide_eq_true c21
                        clear c21
                        obtain ⟨ji22, hji22⟩ : ∃ j_ : Int, (shr .u8 (bt a0 (ji16)) (ji20)) = j_ := ⟨_, rfl⟩
                        replace H : (if x5_2.length < 140737488355328 then (impl_BytesRow.l0 k2 a0 (ji10) (x5_2 ++ [(48 + (Go.bits .and .u8 (ji22) 1)) % 256]) (wrap64 (x6_2 + 1))) else (none)) = some (r1, r2) := by first | (rw [hji22] at H; exact H) | (simp only [hji22] at H ⊢; exact H)
                        have hji22_ : ((bt a0 (ji16)) / 2 ^ min (ji20).toNat 8) = ji22 := hji22
                        have hji22z : (ji20) ≤ 8 → ((bt a0 (ji16)) / 2 ^ (ji20).toNat) = ji22 := shr_small hji22
                        by_cases c23 : x5_2.length < 140737488355328
                        · rw [if_pos c23] at H
                          have LMc23 := Aside0.mk c23
                          clear c23
                          obtain ⟨y355, hy355⟩ : ∃ y_ : List Int, y_ = (x5_2 ++ [(48 + (Go.bits .and .u8 (ji22) 1)) % 256]) := ⟨_, rfl⟩
                          replace H : (impl_BytesRow.l0 k2 a0 (ji10) y355 (wrap64 (x6_2 + 1))) = some (r1, r2) := by first | (rw [hy355]; with_reducible exact H) | (have H2_ := (Option.bind_some _ _).symm.trans H; rw [hy355]; with_reducible exact H2_) | (have H2_ := (Option.bind_some _ _).symm.trans H; with_reducible exact H2_) | with_reducible exact H | (rw [hy355]; exact H) | exact H
                          have Ny355 := Aside0.mk hy355
                          clear hy355
                          have H' := Aside0.mk H
                          clear H
                          have p19 : 0 ≤ ((ji16) : Int) := of_decide_eq_true (by first | (with_reducible assumption) | assumption)
                          have q19 : (ji16) < (a0.size : Int) := of_decide_eq_true (by first | (with_reducible assumption) | assumption)
                          have hx19 := bt_at a0 (ji16)
                          replace p19 := eq_true p19
                          replace q19 := eq_true q19
                          go_wp2_with (first | ((with_reducible refine gate_builtin (b := .append) (xs := #[.tmp 31, .tmp 42]) rfl ?_); (try (refine gate_guard (by rfl) ?_; dsimp only)); at_builtin; refine Kd.R_append (Kd.int .u8) (w0 := w) w.heap.size rfl (.tmp 31) (.tmp 42) 48 5 (.int .u8 0) 1 rfl Try.underlying48 info5 rfl (by decide) (by omega) u5 x5_2 ((48 + (Go.bits .and .u8 (ji22) 1)) % 256) [.int .u8 ((48 + (Go.bits .and .u8 (ji22) 1)) % 256)] (fun _ => True) (fun _ => False) rfl rfl ?aP (fun _ hk => hk.elim) ?aF ?aO ?aB ?aS ?aL ?_; (case aP => exact rfl); (case aB => exact (by repeat (first | (with_reducible first | exact HB.out | apply below_alloc | apply pw_below_drewN | apply below_drew1) | exact HB.out))); (case aF => exact (fun _ _ => trivial)); (case aO => exact (by (with_reducible repeat (first | apply Kd.R_alloc | apply Kd.R_drewN | apply Kd.R_drew)); exact HO_5.out)); (case aS => exact (below_size (by repeat (first | (with_reducible first | exact HB.out | apply below_alloc | apply pw_below_drewN | apply below_drew1) | exact HB.out)))); (case aL => have := LMc23.out; omega); intro v356 w24 ho hb hg hat; rw [← Ny355.out] at ho; have n0_ := Aside0.mk (hb); have n1_ := Aside0.mk (ho); clear HB; clear HO_5; have HB := n0_; have HO357 := n1_; clear n0_ n1_; clear ho hb hg hat))
                          go_roundg k2
                          case measure => have := HJ1.out; have := HK2.out; omega
                          case rel => exact ⟨(y355), (wrap64 (x6_2 + 1)), (by first | rfl | (simp; done) | (simp [*]; done)), H', ⟨by have := HJ1.out; have := HK2.out; omega⟩, ⟨by (with_reducible repeat (first | apply Kd.R_alloc | apply Kd.R_drewN | apply Kd.R_drew)); exact HO357.out⟩, ⟨by repeat (first | (with_reducible first | exact HB.out | apply below_alloc | apply pw_below_drewN | apply below_drew1) | exact HB.out)⟩⟩
                        · rw [if_neg c23] at H
                          exact absurd H (by simp)
                      · rw [if_neg c21] at H
                        exact absurd H (by simp)
                    · rw [if_neg c18] at H
                      exact absurd H (by simp)
                  · rw [if_neg c17] at H
                    exact absurd H (by simp)
                · rw [if_neg c15] at H
                  have c15b0 : decide (x6_2 < (ji10)) = false := decide_eq_false c15
                  clear c15
                  have H' := Aside0.mk H
                  clear H
                  go_wp2
                  go_loopg [4] k2 (fun kq v4 w' => ∃ (x4_3 : Int), v4 = .int .i64 x4_3 ∧ Aside0 (impl_BytesRow.l1 kq x4_3 x5_2 = some (r1, r2)) ∧ Aside0 (kq ≤ k2) ∧ Aside0 (Kd.R (Kd.int .u8) 5 w' w.heap.size (fun _ => True) u5 x5_2) ∧ Aside0 (Below w.heap.size w w'))
                  case atStart => exact ⟨((ji10)), (by first | rfl | (simp; done) | (simp only [← hji10] <;> (first | rfl | simp)) | (simp [*]; done)), H', ⟨Nat.le_refl _⟩, ⟨by (with_reducible repeat (first | apply Kd.R_alloc | apply Kd.R_drewN | apply Kd.R_drew)); exact HO_5.out⟩, ⟨by repeat (first | (with_reducible first | exact HB.out | apply below_alloc | apply pw_below_drewN | apply below_drew1) | exact HB.out)⟩⟩
                  case round =>
                    clear H'
                    try clear c1
                    try clear p1
                    try clear q1
                    try clear hx1
                    try clear c2
                    try clear p2
                    try clear c3
                    try clear c3b0
                    try clear c3b1
                    try clear c5
                    try clear c5b0
                    try clear c6
                    try clear c6b0
                    try clear p6
                    try clear p7
                    try clear q7
                    try clear hx7
                    try clear c8
                    try clear c8b0
                    try clear c8b1
                    try clear c9
                    try clear c11
                    try clear c11b0
                    try clear c11b1
                    try clear c12
                    try clear c12b0
                    try clear c12b1
                    try clear c15
                    try clear c15b0
                    try clear c17
                    try clear c17b0
                    try clear c18
                    try clear c18b0
                    try clear p19
                    try clear q19
                    try clear hx19
                    try clear c21
                    try clear c21b0
                    try clear c21b1
                    try clear c23
                    try clear p19
                    try clear p2
                    try clear p6
                    try clear p7
                    try clear q19
                    try clear q7
                    obtain ⟨x4_3, rfl, HA, HK3, HO_5, HB⟩ := hrel
                    cases gk with
                    | zero => exact absurd HA.out (by simp [impl_BytesRow.l1])
                    | succ k3 =>
                      have H := HA.out
                      clear HA
                      simp only [impl_BytesRow.l1] at H
                      obtain ⟨ji25, hji25⟩ : ∃ j_ : Int, (wrap64 (x4_3 - 1)) = j_ := ⟨_, rfl⟩
                      replace H : (if 0 ≤ (ji25) then (if (ji25) < (x5_2.length : Int) then (if (rd x5_2 (ji25)) = 48 then (impl_BytesRow.l1 k3 ji25 x5_2) else (if (ji25) > 400000 then (some ((⟨#[]⟩ : ByteArray), false)) else (if (ji25) ≤ (x5_2.length : Int) then (some (strOfNums (x5_2.take ((ji25) : Int).toNat), true)) else (none)))) else (none)) else (none)) = some (r1, r2) := by first | (rw [hji25] at H; exact H) | (simp only [hji25] at H ⊢; exact H)
                      have hji25w : (IntKind.i64.wrap (x4_3 - 1)) = ji25 := (i64_w _).trans hji25
                      by_cases c26 : 0 ≤ (ji25)
                      · rw [if_pos c26] at H
                        have c26b0 : decide (0 ≤ (ji25)) = true := decide_eq_true c26
                        clear c26
                        by_cases c27 : (ji25) < (x5_2.length : Int)
                        · rw [if_pos c27] at H
                          have c27b0 : decide ((ji25) < (x5_2.length : Int)) = true := decide_eq_true c27
                          clear c27
                          by_cases c28 : (rd x5_2 (ji25)) = 48
                          · rw [if_pos c28] at H
                            have c28b0 : ((rd x5_2 (ji25)) == 48) = true := beq_iff_eq.mpr c28
                            have c28b1 : ((rd x5_2 (ji25)) != 48) = false := bne_eq_false_iff_eq.mpr c28
                            clear c28
                            have H' := Aside0.mk H
                            clear H
                            obtain ⟨Ao29, co29, eo29⟩ := Kd.R_slice HO_5.out
                            subst eo29
                            have p358 : 0 ≤ ((ji25) : Int) := of_decide_eq_true (by first | (with_reducible assumption) | assumption)
                            have q358 : (ji25) < (x5_2.length : Int) := of_decide_eq_true (by first | (with_reducible assumption) | assumption)
                            obtain ⟨ad358, e358, hx358_0⟩ := Kd.at_int (Kd.R_reads' HO_5.out).2.2 (ji25) p358 q358
                            cases e358
                            replace p358 := eq_true p358
                            replace q358 := eq_true q358
                            go_wp2
                            go_roundg k3
                            case measure => have := HJ1.out; have := HK2.out; have := HK3.out; omega
                            case rel => exact ⟨(ji25), (by first | rfl | (simp; done) | (simp only [← hji25] <;> (first | rfl | simp)) | (simp [*]; done)), H', ⟨by have := HJ1.out; have := HK2.out; have := HK3.out; omega⟩, ⟨by (with_reducible repeat (first | apply Kd.R_alloc | apply Kd.R_drewN | apply Kd.R_drew)); exact HO_5.out⟩, ⟨by repeat (first | (with_reducible first | exact HB.out | apply below_alloc | apply pw_below_drewN | apply below_drew1) | exact HB.out)⟩⟩
                          · rw [if_neg c28] at H
                            have c28b0 : ((rd x5_2 (ji25)) == 48) = false := beq_eq_false_iff_ne.mpr c28
                            have c28b1 : ((rd x5_2 (ji25)) != 48) = true := bne_iff_ne.mpr c28
                            by_cases c30 : (ji25) > 400000
                            · rw [if_pos c30] at H
                              have c30b0 : decide (400000 < (ji25)) = true := decide_eq_true c30
                              clear c30
                              simp only [Option.some.injEq, Prod.mk.injEq] at H
                              obtain ⟨rfl, rfl⟩ := H
                              obtain ⟨Ao31, co31, eo31⟩ := Kd.R_slice HO_5.out
                              subst eo31
                              have p358 : 0 ≤ ((ji25) : Int) := of_decide_eq_true (by first | (with_reducible assumption) | assumption)
                              have q358 : (ji25) < (x5_2.length : Int) := of_decide_eq_true (by first | (with_reducible assumption) | assumption)
                              obtain ⟨ad358, e358, hx358_0⟩ := Kd.at_int (Kd.R_reads' HO_5.out).2.2 (ji25) p358 q358
                              cases e358
                              replace p358 := eq_true p358
                              replace q358 := eq_true q358
                              go_wp2
                              go_ret2
                              exact ⟨by first | rfl | (simp [errW_none, errW_some] <;> rfl) | (simp only [← hji10, ← hji25]; first | rfl | (simp [errW_none, errW_some] <;> rfl)) | (simp [*, errW_none, errW_some] <;> rfl), by repeat (first | (with_reducible first | exact HB.out | apply below_alloc | apply pw_below_drewN | apply below_drew1) | exact HB.out)⟩
                            · rw [if_neg c30] at H
                              have c30b0 : decide (400000 < (ji25)) = false := decide_eq_false c30
                              clear c30
                              have c32b0 := eq_true (of_decide_eq_true (by first | (with_reducible assumption) | assumption) : 0 ≤ (ji25))
                              by_cases c33 : (ji25) ≤ (x5_2.length : Int)
                              · rw [if_pos c33] at H
                                have c33b0 := eq_true c33
                                have c33b1 : decide ((ji25) ≤ (x5_2.length : Int)) = true := decide_eq_true c33
                                clear c33
                                obtain ⟨y359, hy359⟩ : ∃ y_ : List Int, y_ = (x5_2.take ((ji25) : Int).toNat) := ⟨_, rfl⟩
                                replace H : (some (strOfNums y359, true)) = some (r1, r2) := by first | (rw [hy359]; with_reducible exact H) | (have H2_ := (Option.bind_some _ _).symm.trans H; rw [hy359]; with_reducible exact H2_) | (have H2_ := (Option.bind_some _ _).symm.trans H; with_reducible exact H2_) | with_reducible exact H | (rw [hy359]; exact H) | exact H
                                have Ny359 := Aside0.mk hy359
                                clear hy359
                                simp only [Option.some.injEq, Prod.mk.injEq] at H
                                obtain ⟨rfl, rfl⟩ := H
                                obtain ⟨Ao34, co34, eo34⟩ := Kd.R_slice HO_5.out
                                subst eo34
                                have p358 : 0 ≤ ((ji25) : Int) := of_decide_eq_true (by first | (with_reducible assumption) | assumption)
                                have q358 : (ji25) < (x5_2.length : Int) := of_decide_eq_true (by first | (with_reducible assumption) | assumption)
                                obtain ⟨ad358, e358, hx358_0⟩ := Kd.at_int (Kd.R_reads' HO_5.out).2.2 (ji25) p358 q358
                                cases e358
                                replace p358 := eq_true p358
                                replace q358 := eq_true q358
                                have q35 : ((ji25) : Int) ≤ ((x5_2.length : Int) : Int) := of_decide_eq_true (by first | (with_reducible assumption) | assumption)
                                obtain ⟨i035, hi035, _, hsz35, _⟩ := info_parts info5
                                have hroom35 : x5_2.length ≤ co34 := (Kd.R_reads' HO_5.out).2.1
                                have hC35 : Kd.C (Kd.int .u8) _ (some ad358) x5_2.length x5_2 := (Kd.R_reads' HO_5.out).2.2
                                have hcut35 := cut_to (P := Try.prog) 48 5 .i64 Try.underlying48 hi035 (some ad358) x5_2.length co34 (ji25) (of_decide_eq_true (by first | (with_reducible assumption) | assumption)) q35 hroom35
                                have hr35 := Kd.C_take (m := ((ji25) : Int).toNat) hC35 (by omega)
                                have hy35 : y359.length = ((ji25) : Int).toNat := (by rw [Ny359.out, List.length_take]; omega)
                                rw [← Ny359.out] at hr35
                                rw [← hy35] at hcut35
                                have HR362 := Aside0.mk hr35
                                have HC362 := Aside0.mk (show y359.length ≤ co34 from by omega)
                                clear hr35 hC35 hroom35 hi035 hsz35
                                have KY35 := Aside0.mk hy35
                                clear hy35
                                have KL35 := Aside0.mk (show ((ji25) : Int).toNat ≤ x5_2.length from by omega)
                                replace q35 := eq_true q35
                                have hcv36 := Kd.C_string (P := Try.prog) (A := (some ad358)) (c := co34) Try.underlying48 Try.underlying5 Try.underlying9 (by repeat (first | (with_reducible exact HR362.out) | (with_reducible refine Kd.C_alloc ?_ _) | (with_reducible refine Kd.C_drewN ?_ _) | (with_reducible refine Kd.C_drew ?_) | exact HR362.out))
                                go_wp2
                                go_ret2
                                exact ⟨by first | rfl | (simp [errW_none, errW_some] <;> rfl) | (simp only [← hji10, ← hji25]; first | rfl | (simp [errW_none, errW_some] <;> rfl)) | (simp [*, errW_none, errW_some] <;> rfl), by repeat (first | (with_reducible first | exact HB.out | apply below_alloc | apply pw_below_drewN | apply below_drew1) | exact HB.out)⟩
                              · rw [if_neg c33] at H
                                exact absurd H (by simp)
                        · rw [if_neg c27] at H
                          exact absurd H (by simp)
                      · rw [if_neg c26] at H
                        exact absurd H (by simp)
          · rw [if_neg c12] at H
            exact absurd H (by simp)
        · rw [if_neg c11] at H
          exact absurd H (by simp)
def impl_UnitIn.j0 : Nat → ByteArray → Bool → Option (Int × ByteArray × Bool)
  | 0, _, _ => none
  | k + 1, x0, x15 => if x15 = true then (some (0, (⟨#[]⟩ : ByteArray), false)) else (if 1 ≤ (x0.size : Int) then ((impl_BytesRow.f k (x0.extract 1 x0.size)).bind fun bt364 => (if bt364.2 = true then (if 0 < (x0.size : Int) then (some (wrap64 (bt x0 0), bt364.1, true)) else (none)) else (some (0, (⟨#[]⟩ : ByteArray), false)))) else (none))
def impl_UnitIn.f (k : Nat) (a0 : ByteArray) : Option (Int × ByteArray × Bool) := if a0.toList = ([] : List UInt8) then (impl_UnitIn.j0 k a0 true) else (if 0 < (a0.size : Int) then ((impl_isKind.f (wrap64 (bt a0 0))).bind fun t363 => (impl_UnitIn.j0 k a0 (!t363))) else (none))
theorem impl_UnitIn.mono_l : ∀ k, (∀ y0 y1, LeO (impl_UnitIn.j0 k y0 y1) (impl_UnitIn.j0 (k + 1) y0 y1))
  | 0 => fun _ _ r h => by simp [impl_UnitIn.j0] at h
  | k + 1 => by
    have ih0 := impl_UnitIn.mono_l k
    · intro y0 y1
      unfold impl_UnitIn.j0
      repeat' first
      | (with_reducible exact ih0 _ _)
      | (with_reducible exact impl_BytesRow.mono _ _)
      | (with_reducible exact LeO.refl _)
      | (with_reducible exact LeO.none _)
      | (with_reducible refine LeO.ite ?_ ?_)
      | (with_reducible refine LeO.bind ?_ (fun _ => ?_))
      | exact ih0 _ _
      | exact impl_BytesRow.mono _ _
      | exact LeO.none _
      | refine LeO.ite ?_ ?_
      | refine LeO.bind ?_ (fun _ => ?_)
theorem impl_UnitIn.mono : ∀ a0 k, LeO (impl_UnitIn.f k a0) (impl_UnitIn.f (k + 1) a0) := by
  intro a0 k
  have ih0 := impl_UnitIn.mono_l k
  unfold impl_UnitIn.f
  repeat' first
      | (with_reducible exact ih0 _ _)
      | (with_reducible exact impl_BytesRow.mono _ _)
      | (with_reducible exact LeO.refl _)
      | (with_reducible exact LeO.none _)
      | (with_reducible refine LeO.ite ?_ ?_)
      | (with_reducible refine LeO.bind ?_ (fun _ => ?_))
      | exact ih0 _ _
      | exact impl_BytesRow.mono _ _
      | exact LeO.none _
      | refine LeO.ite ?_ ?_
      | refine LeO.bind ?_ (fun _ => ?_)
set_option maxHeartbeats 8000000 in
set_option maxRecDepth 100000 in
theorem impl_UnitIn.calls (k : Nat) (a0 : ByteArray) (r1 : Int) (r2 : ByteArray) (r3 : Bool) (w : World) (h : impl_UnitIn.f k a0 = some (r1, r2, r3)) :
    Calls Try.prog 43 #[.string a0] w fun e w' => e = .returned (.tuple #[.int .i64 r1, .string r2, .bool r3]) ∧ Below w.heap.size w w' := by
  have HB := Aside0.mk (Below.refl w.heap.size w)
  have H : (if a0.toList = ([] : List UInt8) then (impl_UnitIn.j0 k a0 true) else (if 0 < (a0.size : Int) then ((impl_isKind.f (wrap64 (bt a0 0))).bind fun t363 => (impl_UnitIn.j0 k a0 (!t363))) else (none))) = some (r1, r2, r3) := h
  clear h
  have HC2 := Aside0.mk H
  clear H
  go_enter Try.func43, Try.ntmps43
  go_upto_region 1 with (fail)
  go_cut [15] (fun v15 wc => ∃ (kq : Nat) (x15_1 : Bool), v15 = .bool x15_1 ∧ Aside0 (impl_UnitIn.j0 kq a0 x15_1 = some (r1, r2, r3)) ∧ Aside0 (kq ≤ k) ∧ Aside0 (Below w.heap.size w wc))
  case first =>
    have H := HC2.out
    clear HC2
    by_cases c3 : a0.toList = ([] : List UInt8)
    · rw [if_pos c3] at H
      have c3b0 : (a0.toList == ([] : List UInt8)) = true := beq_iff_eq.mpr c3
      have c3b1 : (a0.toList != ([] : List UInt8)) = false := bne_eq_false_iff_eq.mpr c3
      clear c3
      (first | rw [c3b0] | (simp only [i64_w, i32_w]; rw [c3b0]) | skip)
      have H' := Aside0.mk H
      clear H
      go_wp2
      go_meet
      case rel => exact ⟨_, (true), (by first | rfl | (simp; done) | (simp [*]; done)), H', ⟨by first | omega | exact Nat.le_refl _⟩, ⟨by repeat (first | (with_reducible first | exact HB.out | apply below_alloc | apply pw_below_drewN | apply below_drew1) | exact HB.out)⟩⟩
    · rw [if_neg c3] at H
      have c3b0 : (a0.toList == ([] : List UInt8)) = false := beq_eq_false_iff_ne.mpr c3
      have c3b1 : (a0.toList != ([] : List UInt8)) = true := bne_iff_ne.mpr c3
      (first | rw [c3b0] | (simp only [i64_w, i32_w]; rw [c3b0]) | skip)
      by_cases c4 : 0 < (a0.size : Int)
      · rw [if_pos c4] at H
        have c4b0 : decide (0 < (a0.size : Int)) = true := decide_eq_true c4
        have c4b1 : decide (0 < a0.size) = true := decide_eq_true (by omega)
        clear c4
        replace H := Option.bind_eq_some_iff.mp H
        obtain ⟨t363, A60, H⟩ := H
        replace H : (impl_UnitIn.j0 k a0 (!t363)) = some (r1, r2, r3) := H
        have A6 := Aside0.mk A60
        clear A60
        have H' := Aside0.mk H
        clear H
        have p5 : 0 ≤ (0 : Int) := (by omega)
        have q5 : 0 < a0.size := (by have : (0 : Int) < (a0.size : Int) := of_decide_eq_true (by first | (with_reducible assumption) | assumption); omega)
        have hx5 : ∀ h : 0 < a0.size, ((a0[0]'h).toNat : Int) = bt a0 0 := bt_at a0 0
        clear p5
        have qi5 : (0 < (a0.size : Int)) = True := eq_true (of_decide_eq_true (by first | (with_reducible assumption) | assumption))
        replace q5 := eq_true q5
        go_wp2_with (first | (go_at_call 86; (with_reducible refine (impl_isKind.calls (wrap64 (bt a0 0)) t363 _ A6.out).mono ?_); rintro e w' ⟨rfl, ⟨nd, rfl⟩⟩))
        go_meet
        case rel => exact ⟨_, (!t363), (by first | rfl | (simp; done) | (simp [*]; done)), H', ⟨by first | omega | exact Nat.le_refl _⟩, ⟨by repeat (first | (with_reducible first | exact HB.out | apply below_alloc | apply pw_below_drewN | apply below_drew1) | exact HB.out)⟩⟩
      · rw [if_neg c4] at H
        exact absurd H (by simp)
  case rest =>
    clear HC2
    try clear p2
    try clear c3
    try clear c3b0
    try clear c3b1
    try clear c4
    try clear c4b0
    try clear c4b1
    try clear p5
    try clear q5
    try clear hx5
    try clear qi5
    try clear p6
    try clear p5
    try clear q5
    obtain ⟨kq, x15_1, rfl, HA, HJ1, HB⟩ := hcut
    cases kq with
    | zero => exact absurd HA.out (by simp [impl_UnitIn.j0])
    | succ kj1 =>
      have H := HA.out
      clear HA
      simp only [impl_UnitIn.j0] at H
      by_cases c7 : x15_1 = true
      · subst c7
        have H1 : (some (0, (⟨#[]⟩ : ByteArray), false)) = some (r1, r2, r3) := by rw [if_pos rfl] at H; exact H
        clear H
        have H := H1
        clear H1
        simp only [Option.some.injEq, Prod.mk.injEq] at H
        obtain ⟨rfl, rfl, rfl⟩ := H
        go_wp2
        go_ret3
        exact ⟨by first | rfl | (simp [errW_none, errW_some] <;> rfl) | (simp [*, errW_none, errW_some] <;> rfl), by repeat (first | (with_reducible first | exact HB.out | apply below_alloc | apply pw_below_drewN | apply below_drew1) | exact HB.out)⟩
      · replace c7 := Bool.eq_false_iff.mpr c7
        subst c7
        have H1 : (if 1 ≤ (a0.size : Int) then ((impl_BytesRow.f kj1 (a0.extract 1 a0.size)).bind fun bt364 => (if bt364.2 = true then (if 0 < (a0.size : Int) then (some (wrap64 (bt a0 0), bt364.1, true)) else (none)) else (some (0, (⟨#[]⟩ : ByteArray), false)))) else (none)) = some (r1, r2, r3) := by rw [if_neg (show ¬ (false = true) by decide)] at H; exact H
        clear H
        have H := H1
        clear H1
        by_cases c8 : 1 ≤ (a0.size : Int)
        · rw [if_pos c8] at H
          have c8b0 := eq_true c8
          have c8b1 : decide (1 ≤ (a0.size : Int)) = true := decide_eq_true c8
          clear c8
          replace H := Option.bind_eq_some_iff.mp H
          obtain ⟨⟨t364, t365⟩, A90, H⟩ := H
          replace H : (if t365 = true then (if 0 < (a0.size : Int) then (some (wrap64 (bt a0 0), t364, true)) else (none)) else (some (0, (⟨#[]⟩ : ByteArray), false))) = some (r1, r2, r3) := H
          have A9 := Aside0.mk A90
          clear A90
          by_cases c10 : t365 = true
          · subst c10
            have H1 : (if 0 < (a0.size : Int) then (some (wrap64 (bt a0 0), t364, true)) else (none)) = some (r1, r2, r3) := by rw [if_pos rfl] at H; exact H
            clear H
            have H := H1
            clear H1
            by_cases c11 : 0 < (a0.size : Int)
            · rw [if_pos c11] at H
              have c11b0 : decide (0 < (a0.size : Int)) = true := decide_eq_true c11
              have c11b1 : decide (0 < a0.size) = true := decide_eq_true (by omega)
              clear c11
              simp only [Option.some.injEq, Prod.mk.injEq] at H
              obtain ⟨rfl, rfl, rfl⟩ := H
              go_wp2_with (first | ((with_reducible refine gate_callee (f := 27) rfl ?_); refine goesL_ (some 19) rfl rfl Try.func27 (by kernel_rfl) rfl #[.string (a0.extract 1 a0.size)] rfl (by (try simp only [List.map_toArray, List.map_cons, List.map_nil]); first | done | rfl | (simp only [List.length_drop, List.length_take]; rfl)) ?_; (with_reducible refine (impl_BytesRow.calls kj1 (a0.extract 1 a0.size) t364 true _ A9.out).mono ?_); rintro e w13 ⟨rfl, hb⟩; refine ⟨_, rfl, ?_⟩; have n0_ := Aside0.mk (below_step (by repeat (first | (with_reducible first | exact HB.out | apply below_alloc | apply pw_below_drewN | apply below_drew1) | exact HB.out)) hb); clear HB; have HB := n0_; clear n0_; (try clear hb); (try clear hb2); (try clear hk); (try clear hi); have p12 : 0 ≤ (0 : Int) := (by omega); have q12 : 0 < a0.size := (by have : (0 : Int) < (a0.size : Int) := of_decide_eq_true (by first | (with_reducible assumption) | assumption); omega); have hx12 : ∀ h : 0 < a0.size, ((a0[0]'h).toNat : Int) = bt a0 0 := bt_at a0 0; clear p12; have qi12 : (0 < (a0.size : Int)) = True := eq_true (of_decide_eq_true (by first | (with_reducible assumption) | assumption)); replace q12 := eq_true q12))
              go_ret3
              exact ⟨by first | rfl | (simp [errW_none, errW_some] <;> rfl) | (simp [*, errW_none, errW_some] <;> rfl), by repeat (first | (with_reducible first | exact HB.out | apply below_alloc | apply pw_below_drewN | apply below_drew1) | exact HB.out)⟩
            · rw [if_neg c11] at H
              exact absurd H (by simp)
          · replace c10 := Bool.eq_false_iff.mpr c10
            subst c10
            have H1 : (some (0, (⟨#[]⟩ : ByteArray), false)) = some (r1, r2, r3) := by rw [if_neg (show ¬ (false = true) by decide)] at H; exact H
            clear H
            have H := H1
            clear H1
            simp only [Option.some.injEq, Prod.mk.injEq] at H
            obtain ⟨rfl, rfl, rfl⟩ := H
            go_wp2_with (first | ((with_reducible refine gate_callee (f := 27) rfl ?_); refine goesL_ (some 19) rfl rfl Try.func27 (by kernel_rfl) rfl #[.string (a0.extract 1 a0.size)] rfl (by (try simp only [List.map_toArray, List.map_cons, List.map_nil]); first | done | rfl | (simp only [List.length_drop, List.length_take]; rfl)) ?_; (with_reducible refine (impl_BytesRow.calls kj1 (a0.extract 1 a0.size) t364 false _ A9.out).mono ?_); rintro e w14 ⟨rfl, hb⟩; refine ⟨_, rfl, ?_⟩; have n0_ := Aside0.mk (below_step (by repeat (first | (with_reducible first | exact HB.out | apply below_alloc | apply pw_below_drewN | apply below_drew1) | exact HB.out)) hb); clear HB; have HB := n0_; clear n0_; (try clear hb); (try clear hb2); (try clear hk); (try clear hi)))
            go_ret3
            exact ⟨by first | rfl | (simp [errW_none, errW_some] <;> rfl) | (simp [*, errW_none, errW_some] <;> rfl), by repeat (first | (with_reducible first | exact HB.out | apply below_alloc | apply pw_below_drewN | apply below_drew1) | exact HB.out)⟩
        · rw [if_neg c8] at H
          exact absurd H (by simp)
def laws_FnHeads.f (k : Nat) (l0 : List Int) : Option (Bool) := (laws_big.f l0).bind fun t366 => (if t366 = true then (some true) else ((spec_DrawSets.f k l0).bind fun bt367 => ((spec_DrawRow.f k l0).bind fun t385 => ((impl_HeadRow.f k bt367.1 bt367.2.1 bt367.2.2.1 bt367.2.2.2.1 bt367.2.2.2.2.1 bt367.2.2.2.2.2.1 bt367.2.2.2.2.2.2.1 bt367.2.2.2.2.2.2.2.1 bt367.2.2.2.2.2.2.2.2.1 bt367.2.2.2.2.2.2.2.2.2.1 bt367.2.2.2.2.2.2.2.2.2.2).bind fun bt386 => (if bt386.1.size + t385.size ≤ 9223372036854775807 then ((impl_UnitOf.f k 5 (bt386.1 ++ t385)).bind fun bt388 => ((impl_UnitIn.f k bt388.1).bind fun bt390 => ((impl_ReadHead.f k bt367.1 bt367.2.1 bt367.2.2.1 bt367.2.2.2.1 bt367.2.2.2.2.1 bt367.2.2.2.2.2.1 bt367.2.2.2.2.2.2.1 bt367.2.2.2.2.2.2.2.1 bt390.2.1).bind fun bt393 => (if bt386.2 = true then (if bt388.2 = true then (if bt390.2.2 = true then (if bt393.2.2.2.2 = true then ((impl_HeadOk.f k bt367.1 bt367.2.1 bt367.2.2.1 bt367.2.2.2.1 bt367.2.2.2.2.1 bt367.2.2.2.2.2.1 bt367.2.2.2.2.2.2.1 bt367.2.2.2.2.2.2.2.1 bt367.2.2.2.2.2.2.2.2.1 bt367.2.2.2.2.2.2.2.2.2.1 bt367.2.2.2.2.2.2.2.2.2.2).bind fun t399 => (if t399 = true then (if bt390.1 = 5 then (if bt390.2.1.toList = (bt386.1 ++ t385).toList then (if (bt393.1 == bt367.2.2.2.2.2.2.2.2.1 && (bt393.2.1 == bt367.2.2.2.2.2.2.2.2.2.1 && (bt393.2.2.1 == bt367.2.2.2.2.2.2.2.2.2.2))) = true then (if bt393.2.2.2.1 = (bt386.1.size : Int) then (if 0 ≤ bt393.2.2.2.1 then (if bt393.2.2.2.1 ≤ (bt390.2.1.size : Int) then (some ((bt390.2.1.extract (bt393.2.2.2.1 : Int).toNat bt390.2.1.size).toList == t385.toList)) else (none)) else (none)) else (some false)) else (some false)) else (some false)) else (some false)) else (some false))) else (some false)) else (some false)) else (some false)) else (some false))))) else (none))))))
theorem laws_FnHeads.mono : ∀ a0 k, LeO (laws_FnHeads.f k a0) (laws_FnHeads.f (k + 1) a0) := by
  intro a0 k
  unfold laws_FnHeads.f
  repeat' first
      | (with_reducible exact impl_HeadOk.mono _ _ _ _ _ _ _ _ _ _ _ _)
      | (with_reducible exact impl_HeadRow.mono _ _ _ _ _ _ _ _ _ _ _ _)
      | (with_reducible exact impl_ReadHead.mono _ _ _ _ _ _ _ _ _ _)
      | (with_reducible exact impl_UnitIn.mono _ _)
      | (with_reducible exact impl_UnitOf.mono _ _ _)
      | (with_reducible exact spec_DrawRow.mono _ _)
      | (with_reducible exact spec_DrawSets.mono _ _)
      | (with_reducible exact LeO.refl _)
      | (with_reducible exact LeO.none _)
      | (with_reducible refine LeO.ite ?_ ?_)
      | (with_reducible refine LeO.bind ?_ (fun _ => ?_))
      | exact impl_HeadOk.mono _ _ _ _ _ _ _ _ _ _ _ _
      | exact impl_HeadRow.mono _ _ _ _ _ _ _ _ _ _ _ _
      | exact impl_ReadHead.mono _ _ _ _ _ _ _ _ _ _
      | exact impl_UnitIn.mono _ _
      | exact impl_UnitOf.mono _ _ _
      | exact spec_DrawRow.mono _ _
      | exact spec_DrawSets.mono _ _
      | exact LeO.none _
      | refine LeO.ite ?_ ?_
      | refine LeO.bind ?_ (fun _ => ?_)
set_option maxHeartbeats 8000000 in
set_option maxRecDepth 100000 in
theorem laws_FnHeads.calls (k : Nat) (A0 : Option Addr) (c0 : Nat) (l0 : List Int) (r : Bool) (w : World) (hr0 : Kd.C (Kd.int .u8) w A0 l0.length l0) (hc0 : l0.length ≤ c0) (h : laws_FnHeads.f k l0 = some r) (hr_ : Aside0 (r = true)) :
    Calls Try.prog 12 #[.slice A0 l0.length c0] w fun e w' => e = .returned (.bool r) ∧ Below w.heap.size w w' := by
  have hu37 := Try.underlying37
  have hu39 := Try.underlying39
  have hu34 := Try.underlying34
  have HR0 := Aside0.mk hr0
  have HC0 := Aside0.mk hc0
  clear hr0 hc0
  have HB := Aside0.mk (Below.refl w.heap.size w)
  have H : ((laws_big.f l0).bind fun t366 => (if t366 = true then (some true) else ((spec_DrawSets.f k l0).bind fun bt367 => ((spec_DrawRow.f k l0).bind fun t385 => ((impl_HeadRow.f k bt367.1 bt367.2.1 bt367.2.2.1 bt367.2.2.2.1 bt367.2.2.2.2.1 bt367.2.2.2.2.2.1 bt367.2.2.2.2.2.2.1 bt367.2.2.2.2.2.2.2.1 bt367.2.2.2.2.2.2.2.2.1 bt367.2.2.2.2.2.2.2.2.2.1 bt367.2.2.2.2.2.2.2.2.2.2).bind fun bt386 => (if bt386.1.size + t385.size ≤ 9223372036854775807 then ((impl_UnitOf.f k 5 (bt386.1 ++ t385)).bind fun bt388 => ((impl_UnitIn.f k bt388.1).bind fun bt390 => ((impl_ReadHead.f k bt367.1 bt367.2.1 bt367.2.2.1 bt367.2.2.2.1 bt367.2.2.2.2.1 bt367.2.2.2.2.2.1 bt367.2.2.2.2.2.2.1 bt367.2.2.2.2.2.2.2.1 bt390.2.1).bind fun bt393 => (if bt386.2 = true then (if bt388.2 = true then (if bt390.2.2 = true then (if bt393.2.2.2.2 = true then ((impl_HeadOk.f k bt367.1 bt367.2.1 bt367.2.2.1 bt367.2.2.2.1 bt367.2.2.2.2.1 bt367.2.2.2.2.2.1 bt367.2.2.2.2.2.2.1 bt367.2.2.2.2.2.2.2.1 bt367.2.2.2.2.2.2.2.2.1 bt367.2.2.2.2.2.2.2.2.2.1 bt367.2.2.2.2.2.2.2.2.2.2).bind fun t399 => (if t399 = true then (if bt390.1 = 5 then (if bt390.2.1.toList = (bt386.1 ++ t385).toList then (if (bt393.1 == bt367.2.2.2.2.2.2.2.2.1 && (bt393.2.1 == bt367.2.2.2.2.2.2.2.2.2.1 && (bt393.2.2.1 == bt367.2.2.2.2.2.2.2.2.2.2))) = true then (if bt393.2.2.2.1 = (bt386.1.size : Int) then (if 0 ≤ bt393.2.2.2.1 then (if bt393.2.2.2.1 ≤ (bt390.2.1.size : Int) then (some ((bt390.2.1.extract (bt393.2.2.2.1 : Int).toNat bt390.2.1.size).toList == t385.toList)) else (none)) else (none)) else (some false)) else (some false)) else (some false)) else (some false)) else (some false))) else (some false)) else (some false)) else (some false)) else (some false))))) else (none))))))) = some r := h
  clear h
  replace H := Option.bind_eq_some_iff.mp H
  obtain ⟨t366, A20, H⟩ := H
  replace H : (if t366 = true then (some true) else ((spec_DrawSets.f k l0).bind fun bt367 => ((spec_DrawRow.f k l0).bind fun t385 => ((impl_HeadRow.f k bt367.1 bt367.2.1 bt367.2.2.1 bt367.2.2.2.1 bt367.2.2.2.2.1 bt367.2.2.2.2.2.1 bt367.2.2.2.2.2.2.1 bt367.2.2.2.2.2.2.2.1 bt367.2.2.2.2.2.2.2.2.1 bt367.2.2.2.2.2.2.2.2.2.1 bt367.2.2.2.2.2.2.2.2.2.2).bind fun bt386 => (if bt386.1.size + t385.size ≤ 9223372036854775807 then ((impl_UnitOf.f k 5 (bt386.1 ++ t385)).bind fun bt388 => ((impl_UnitIn.f k bt388.1).bind fun bt390 => ((impl_ReadHead.f k bt367.1 bt367.2.1 bt367.2.2.1 bt367.2.2.2.1 bt367.2.2.2.2.1 bt367.2.2.2.2.2.1 bt367.2.2.2.2.2.2.1 bt367.2.2.2.2.2.2.2.1 bt390.2.1).bind fun bt393 => (if bt386.2 = true then (if bt388.2 = true then (if bt390.2.2 = true then (if bt393.2.2.2.2 = true then ((impl_HeadOk.f k bt367.1 bt367.2.1 bt367.2.2.1 bt367.2.2.2.1 bt367.2.2.2.2.1 bt367.2.2.2.2.2.1 bt367.2.2.2.2.2.2.1 bt367.2.2.2.2.2.2.2.1 bt367.2.2.2.2.2.2.2.2.1 bt367.2.2.2.2.2.2.2.2.2.1 bt367.2.2.2.2.2.2.2.2.2.2).bind fun t399 => (if t399 = true then (if bt390.1 = 5 then (if bt390.2.1.toList = (bt386.1 ++ t385).toList then (if (bt393.1 == bt367.2.2.2.2.2.2.2.2.1 && (bt393.2.1 == bt367.2.2.2.2.2.2.2.2.2.1 && (bt393.2.2.1 == bt367.2.2.2.2.2.2.2.2.2.2))) = true then (if bt393.2.2.2.1 = (bt386.1.size : Int) then (if 0 ≤ bt393.2.2.2.1 then (if bt393.2.2.2.1 ≤ (bt390.2.1.size : Int) then (some ((bt390.2.1.extract (bt393.2.2.2.1 : Int).toNat bt390.2.1.size).toList == t385.toList)) else (none)) else (none)) else (some false)) else (some false)) else (some false)) else (some false)) else (some false))) else (some false)) else (some false)) else (some false)) else (some false))))) else (none)))))) = some r := H
  have A2 := Aside0.mk A20
  clear A20
  by_cases c3 : t366 = true
  · subst c3
    have H1 : (some true) = some r := by rw [if_pos rfl] at H; exact H
    clear H
    have H := H1
    clear H1
    obtain rfl := Option.some.inj H
    go_enter Try.func12, Try.ntmps12
    go_wp2_with (first | ((with_reducible refine gate_callee (f := 38) rfl ?_); refine goesL_ (some 18) rfl rfl Try.func38 (by kernel_rfl) rfl #[.slice A0 l0.length c0] rfl (by (try simp only [List.map_toArray, List.map_cons, List.map_nil]); first | done | rfl | (simp only [List.length_drop, List.length_take]; rfl)) ?_; (with_reducible refine (laws_big.calls _ _ l0 true _ ?side1 ?side2 A2.out).mono ?_); (case side1 => repeat (first | exact HR0.out | (with_reducible refine Kd.C_alloc ?_ _) | (with_reducible refine Kd.C_drewN ?_ _) | (with_reducible refine Kd.C_drew ?_))); (case side2 => exact HC0.out); rintro e w' ⟨rfl, ⟨nd, rfl⟩⟩; refine ⟨_, rfl, ?_⟩))
    go_ret
    exact ⟨by first | rfl | (simp [errW_none, errW_some] <;> rfl) | (simp [*, errW_none, errW_some] <;> rfl), by repeat (first | (with_reducible first | exact HB.out | apply below_alloc | apply pw_below_drewN | apply below_drew1) | exact HB.out)⟩
  · replace c3 := Bool.eq_false_iff.mpr c3
    subst c3
    have H1 : ((spec_DrawSets.f k l0).bind fun bt367 => ((spec_DrawRow.f k l0).bind fun t385 => ((impl_HeadRow.f k bt367.1 bt367.2.1 bt367.2.2.1 bt367.2.2.2.1 bt367.2.2.2.2.1 bt367.2.2.2.2.2.1 bt367.2.2.2.2.2.2.1 bt367.2.2.2.2.2.2.2.1 bt367.2.2.2.2.2.2.2.2.1 bt367.2.2.2.2.2.2.2.2.2.1 bt367.2.2.2.2.2.2.2.2.2.2).bind fun bt386 => (if bt386.1.size + t385.size ≤ 9223372036854775807 then ((impl_UnitOf.f k 5 (bt386.1 ++ t385)).bind fun bt388 => ((impl_UnitIn.f k bt388.1).bind fun bt390 => ((impl_ReadHead.f k bt367.1 bt367.2.1 bt367.2.2.1 bt367.2.2.2.1 bt367.2.2.2.2.1 bt367.2.2.2.2.2.1 bt367.2.2.2.2.2.2.1 bt367.2.2.2.2.2.2.2.1 bt390.2.1).bind fun bt393 => (if bt386.2 = true then (if bt388.2 = true then (if bt390.2.2 = true then (if bt393.2.2.2.2 = true then ((impl_HeadOk.f k bt367.1 bt367.2.1 bt367.2.2.1 bt367.2.2.2.1 bt367.2.2.2.2.1 bt367.2.2.2.2.2.1 bt367.2.2.2.2.2.2.1 bt367.2.2.2.2.2.2.2.1 bt367.2.2.2.2.2.2.2.2.1 bt367.2.2.2.2.2.2.2.2.2.1 bt367.2.2.2.2.2.2.2.2.2.2).bind fun t399 => (if t399 = true then (if bt390.1 = 5 then (if bt390.2.1.toList = (bt386.1 ++ t385).toList then (if (bt393.1 == bt367.2.2.2.2.2.2.2.2.1 && (bt393.2.1 == bt367.2.2.2.2.2.2.2.2.2.1 && (bt393.2.2.1 == bt367.2.2.2.2.2.2.2.2.2.2))) = true then (if bt393.2.2.2.1 = (bt386.1.size : Int) then (if 0 ≤ bt393.2.2.2.1 then (if bt393.2.2.2.1 ≤ (bt390.2.1.size : Int) then (some ((bt390.2.1.extract (bt393.2.2.2.1 : Int).toNat bt390.2.1.size).toList == t385.toList)) else (none)) else (none)) else (some false)) else (some false)) else (some false)) else (some false)) else (some false))) else (some false)) else (some false)) else (some false)) else (some false))))) else (none))))) = some r := by rw [if_neg (show ¬ (false = true) by decide)] at H; exact H
    clear H
    have H := H1
    clear H1
    replace H := Option.bind_eq_some_iff.mp H
    obtain ⟨⟨t367, t368, t369, t372, t375, t376, t377, t378, t379, t380, t381⟩, A40, H⟩ := H
    replace H : ((spec_DrawRow.f k l0).bind fun t385 => ((impl_HeadRow.f k t367 t368 t369 t372 t375 t376 t377 t378 t379 t380 t381).bind fun bt386 => (if bt386.1.size + t385.size ≤ 9223372036854775807 then ((impl_UnitOf.f k 5 (bt386.1 ++ t385)).bind fun bt388 => ((impl_UnitIn.f k bt388.1).bind fun bt390 => ((impl_ReadHead.f k t367 t368 t369 t372 t375 t376 t377 t378 bt390.2.1).bind fun bt393 => (if bt386.2 = true then (if bt388.2 = true then (if bt390.2.2 = true then (if bt393.2.2.2.2 = true then ((impl_HeadOk.f k t367 t368 t369 t372 t375 t376 t377 t378 t379 t380 t381).bind fun t399 => (if t399 = true then (if bt390.1 = 5 then (if bt390.2.1.toList = (bt386.1 ++ t385).toList then (if (bt393.1 == t379 && (bt393.2.1 == t380 && (bt393.2.2.1 == t381))) = true then (if bt393.2.2.2.1 = (bt386.1.size : Int) then (if 0 ≤ bt393.2.2.2.1 then (if bt393.2.2.2.1 ≤ (bt390.2.1.size : Int) then (some ((bt390.2.1.extract (bt393.2.2.2.1 : Int).toNat bt390.2.1.size).toList == t385.toList)) else (none)) else (none)) else (some false)) else (some false)) else (some false)) else (some false)) else (some false))) else (some false)) else (some false)) else (some false)) else (some false))))) else (none)))) = some r := H
    have A4 := Aside0.mk A40
    clear A40
    replace H := Option.bind_eq_some_iff.mp H
    obtain ⟨t385, A50, H⟩ := H
    replace H : ((impl_HeadRow.f k t367 t368 t369 t372 t375 t376 t377 t378 t379 t380 t381).bind fun bt386 => (if bt386.1.size + t385.size ≤ 9223372036854775807 then ((impl_UnitOf.f k 5 (bt386.1 ++ t385)).bind fun bt388 => ((impl_UnitIn.f k bt388.1).bind fun bt390 => ((impl_ReadHead.f k t367 t368 t369 t372 t375 t376 t377 t378 bt390.2.1).bind fun bt393 => (if bt386.2 = true then (if bt388.2 = true then (if bt390.2.2 = true then (if bt393.2.2.2.2 = true then ((impl_HeadOk.f k t367 t368 t369 t372 t375 t376 t377 t378 t379 t380 t381).bind fun t399 => (if t399 = true then (if bt390.1 = 5 then (if bt390.2.1.toList = (bt386.1 ++ t385).toList then (if (bt393.1 == t379 && (bt393.2.1 == t380 && (bt393.2.2.1 == t381))) = true then (if bt393.2.2.2.1 = (bt386.1.size : Int) then (if 0 ≤ bt393.2.2.2.1 then (if bt393.2.2.2.1 ≤ (bt390.2.1.size : Int) then (some ((bt390.2.1.extract (bt393.2.2.2.1 : Int).toNat bt390.2.1.size).toList == t385.toList)) else (none)) else (none)) else (some false)) else (some false)) else (some false)) else (some false)) else (some false))) else (some false)) else (some false)) else (some false)) else (some false))))) else (none))) = some r := H
    have A5 := Aside0.mk A50
    clear A50
    replace H := Option.bind_eq_some_iff.mp H
    obtain ⟨⟨t386, t387⟩, A60, H⟩ := H
    replace H : (if t386.size + t385.size ≤ 9223372036854775807 then ((impl_UnitOf.f k 5 (t386 ++ t385)).bind fun bt388 => ((impl_UnitIn.f k bt388.1).bind fun bt390 => ((impl_ReadHead.f k t367 t368 t369 t372 t375 t376 t377 t378 bt390.2.1).bind fun bt393 => (if t387 = true then (if bt388.2 = true then (if bt390.2.2 = true then (if bt393.2.2.2.2 = true then ((impl_HeadOk.f k t367 t368 t369 t372 t375 t376 t377 t378 t379 t380 t381).bind fun t399 => (if t399 = true then (if bt390.1 = 5 then (if bt390.2.1.toList = (t386 ++ t385).toList then (if (bt393.1 == t379 && (bt393.2.1 == t380 && (bt393.2.2.1 == t381))) = true then (if bt393.2.2.2.1 = (t386.size : Int) then (if 0 ≤ bt393.2.2.2.1 then (if bt393.2.2.2.1 ≤ (bt390.2.1.size : Int) then (some ((bt390.2.1.extract (bt393.2.2.2.1 : Int).toNat bt390.2.1.size).toList == t385.toList)) else (none)) else (none)) else (some false)) else (some false)) else (some false)) else (some false)) else (some false))) else (some false)) else (some false)) else (some false)) else (some false))))) else (none)) = some r := H
    have A6 := Aside0.mk A60
    clear A60
    by_cases c7 : t386.size + t385.size ≤ 9223372036854775807
    · rw [if_pos c7] at H
      have c7b0 := eq_true c7
      have c7b1 : decide (t386.size + t385.size ≤ 9223372036854775807) = true := decide_eq_true c7
      try have c7b2 : (9223372036854775807 < t386.size + t385.size) = False := eq_false (Nat.not_lt.2 c7)
      replace H := Option.bind_eq_some_iff.mp H
      obtain ⟨⟨t388, t389⟩, A80, H⟩ := H
      replace H : ((impl_UnitIn.f k t388).bind fun bt390 => ((impl_ReadHead.f k t367 t368 t369 t372 t375 t376 t377 t378 bt390.2.1).bind fun bt393 => (if t387 = true then (if t389 = true then (if bt390.2.2 = true then (if bt393.2.2.2.2 = true then ((impl_HeadOk.f k t367 t368 t369 t372 t375 t376 t377 t378 t379 t380 t381).bind fun t399 => (if t399 = true then (if bt390.1 = 5 then (if bt390.2.1.toList = (t386 ++ t385).toList then (if (bt393.1 == t379 && (bt393.2.1 == t380 && (bt393.2.2.1 == t381))) = true then (if bt393.2.2.2.1 = (t386.size : Int) then (if 0 ≤ bt393.2.2.2.1 then (if bt393.2.2.2.1 ≤ (bt390.2.1.size : Int) then (some ((bt390.2.1.extract (bt393.2.2.2.1 : Int).toNat bt390.2.1.size).toList == t385.toList)) else (none)) else (none)) else (some false)) else (some false)) else (some false)) else (some false)) else (some false))) else (some false)) else (some false)) else (some false)) else (some false)))) = some r := H
      have A8 := Aside0.mk A80
      clear A80
      replace H := Option.bind_eq_some_iff.mp H
      obtain ⟨⟨t390, t391, t392⟩, A90, H⟩ := H
      replace H : ((impl_ReadHead.f k t367 t368 t369 t372 t375 t376 t377 t378 t391).bind fun bt393 => (if t387 = true then (if t389 = true then (if t392 = true then (if bt393.2.2.2.2 = true then ((impl_HeadOk.f k t367 t368 t369 t372 t375 t376 t377 t378 t379 t380 t381).bind fun t399 => (if t399 = true then (if t390 = 5 then (if t391.toList = (t386 ++ t385).toList then (if (bt393.1 == t379 && (bt393.2.1 == t380 && (bt393.2.2.1 == t381))) = true then (if bt393.2.2.2.1 = (t386.size : Int) then (if 0 ≤ bt393.2.2.2.1 then (if bt393.2.2.2.1 ≤ (t391.size : Int) then (some ((t391.extract (bt393.2.2.2.1 : Int).toNat t391.size).toList == t385.toList)) else (none)) else (none)) else (some false)) else (some false)) else (some false)) else (some false)) else (some false))) else (some false)) else (some false)) else (some false)) else (some false))) = some r := H
      have A9 := Aside0.mk A90
      clear A90
      replace H := Option.bind_eq_some_iff.mp H
      obtain ⟨⟨t393, t394, t395, t396, t397⟩, A100, H⟩ := H
      replace H : (if t387 = true then (if t389 = true then (if t392 = true then (if t397 = true then ((impl_HeadOk.f k t367 t368 t369 t372 t375 t376 t377 t378 t379 t380 t381).bind fun t399 => (if t399 = true then (if t390 = 5 then (if t391.toList = (t386 ++ t385).toList then (if (t393 == t379 && (t394 == t380 && (t395 == t381))) = true then (if t396 = (t386.size : Int) then (if 0 ≤ t396 then (if t396 ≤ (t391.size : Int) then (some ((t391.extract (t396 : Int).toNat t391.size).toList == t385.toList)) else (none)) else (none)) else (some false)) else (some false)) else (some false)) else (some false)) else (some false))) else (some false)) else (some false)) else (some false)) else (some false)) = some r := H
      have A10 := Aside0.mk A100
      clear A100
      by_cases c11 : t387 = true
      · subst c11
        have H1 : (if t389 = true then (if t392 = true then (if t397 = true then ((impl_HeadOk.f k t367 t368 t369 t372 t375 t376 t377 t378 t379 t380 t381).bind fun t399 => (if t399 = true then (if t390 = 5 then (if t391.toList = (t386 ++ t385).toList then (if (t393 == t379 && (t394 == t380 && (t395 == t381))) = true then (if t396 = (t386.size : Int) then (if 0 ≤ t396 then (if t396 ≤ (t391.size : Int) then (some ((t391.extract (t396 : Int).toNat t391.size).toList == t385.toList)) else (none)) else (none)) else (some false)) else (some false)) else (some false)) else (some false)) else (some false))) else (some false)) else (some false)) else (some false)) = some r := by rw [if_pos rfl] at H; exact H
        clear H
        have H := H1
        clear H1
        by_cases c12 : t389 = true
        · subst c12
          have H1 : (if t392 = true then (if t397 = true then ((impl_HeadOk.f k t367 t368 t369 t372 t375 t376 t377 t378 t379 t380 t381).bind fun t399 => (if t399 = true then (if t390 = 5 then (if t391.toList = (t386 ++ t385).toList then (if (t393 == t379 && (t394 == t380 && (t395 == t381))) = true then (if t396 = (t386.size : Int) then (if 0 ≤ t396 then (if t396 ≤ (t391.size : Int) then (some ((t391.extract (t396 : Int).toNat t391.size).toList == t385.toList)) else (none)) else (none)) else (some false)) else (some false)) else (some false)) else (some false)) else (some false))) else (some false)) else (some false)) = some r := by rw [if_pos rfl] at H; exact H
          clear H
          have H := H1
          clear H1
          by_cases c13 : t392 = true
          · subst c13
            have H1 : (if t397 = true then ((impl_HeadOk.f k t367 t368 t369 t372 t375 t376 t377 t378 t379 t380 t381).bind fun t399 => (if t399 = true then (if t390 = 5 then (if t391.toList = (t386 ++ t385).toList then (if (t393 == t379 && (t394 == t380 && (t395 == t381))) = true then (if t396 = (t386.size : Int) then (if 0 ≤ t396 then (if t396 ≤ (t391.size : Int) then (some ((t391.extract (t396 : Int).toNat t391.size).toList == t385.toList)) else (none)) else (none)) else (some false)) else (some false)) else (some false)) else (some false)) else (some false))) else (some false)) = some r := by rw [if_pos rfl] at H; exact H
            clear H
            have H := H1
            clear H1
            by_cases c14 : t397 = true
            · subst c14
              have H1 : ((impl_HeadOk.f k t367 t368 t369 t372 t375 t376 t377 t378 t379 t380 t381).bind fun t399 => (if t399 = true then (if t390 = 5 then (if t391.toList = (t386 ++ t385).toList then (if (t393 == t379 && (t394 == t380 && (t395 == t381))) = true then (if t396 = (t386.size : Int) then (if 0 ≤ t396 then (if t396 ≤ (t391.size : Int) then (some ((t391.extract (t396 : Int).toNat t391.size).toList == t385.toList)) else (none)) else (none)) else (some false)) else (some false)) else (some false)) else (some false)) else (some false))) = some r := by rw [if_pos rfl] at H; exact H
              clear H
              have H := H1
              clear H1
              replace H := Option.bind_eq_some_iff.mp H
              obtain ⟨t399, A150, H⟩ := H
              replace H : (if t399 = true then (if t390 = 5 then (if t391.toList = (t386 ++ t385).toList then (if (t393 == t379 && (t394 == t380 && (t395 == t381))) = true then (if t396 = (t386.size : Int) then (if 0 ≤ t396 then (if t396 ≤ (t391.size : Int) then (some ((t391.extract (t396 : Int).toNat t391.size).toList == t385.toList)) else (none)) else (none)) else (some false)) else (some false)) else (some false)) else (some false)) else (some false)) = some r := H
              have A15 := Aside0.mk A150
              clear A150
              by_cases c16 : t399 = true
              · subst c16
                have H1 : (if t390 = 5 then (if t391.toList = (t386 ++ t385).toList then (if (t393 == t379 && (t394 == t380 && (t395 == t381))) = true then (if t396 = (t386.size : Int) then (if 0 ≤ t396 then (if t396 ≤ (t391.size : Int) then (some ((t391.extract (t396 : Int).toNat t391.size).toList == t385.toList)) else (none)) else (none)) else (some false)) else (some false)) else (some false)) else (some false)) = some r := by rw [if_pos rfl] at H; exact H
                clear H
                have H := H1
                clear H1
                by_cases c17 : t390 = 5
                · rw [if_pos c17] at H
                  have c17b0 : (t390 == 5) = true := beq_iff_eq.mpr c17
                  have c17b1 : (t390 != 5) = false := bne_eq_false_iff_eq.mpr c17
                  clear c17
                  by_cases c18 : t391.toList = (t386 ++ t385).toList
                  · rw [if_pos c18] at H
                    have c18b0 : (t391.toList == (t386 ++ t385).toList) = true := beq_iff_eq.mpr c18
                    have c18b1 : (t391.toList != (t386 ++ t385).toList) = false := bne_eq_false_iff_eq.mpr c18
                    clear c18
                    by_cases c19 : (t393 == t379 && (t394 == t380 && (t395 == t381))) = true
                    · rw [if_pos c19] at H
                      have c19b0 : (t393 == t379 && (t394 == t380 && (t395 == t381))) = true := c19
                      (try (have c19b1 : decide (t393 = t379 && (t394 == t380 && (t395 == t381))) = true := by simpa using c19))
                      (try (have c19b2 : (t393 == t379 && (t394 == t380 && (t395 == t381))) = true := by simpa using c19))
                      clear c19
                      by_cases c20 : t396 = (t386.size : Int)
                      · rw [if_pos c20] at H
                        have c20b0 : (t396 == (t386.size : Int)) = true := beq_iff_eq.mpr c20
                        have c20b1 : (t396 != (t386.size : Int)) = false := bne_eq_false_iff_eq.mpr c20
                        clear c20
                        by_cases c21 : 0 ≤ t396
                        · rw [if_pos c21] at H
                          have c21b0 := eq_true c21
                          have c21b1 : decide (0 ≤ t396) = true := decide_eq_true c21
                          clear c21
                          by_cases c22 : t396 ≤ (t391.size : Int)
                          · rw [if_pos c22] at H
                            have c22b0 := eq_true c22
                            have c22b1 : decide (t396 ≤ (t391.size : Int)) = true := decide_eq_true c22
                            clear c22
                            obtain rfl := Option.some.inj H
                            go_enter Try.func12, Try.ntmps12
                            go_wp2_with (first | ((with_reducible refine gate_callee (f := 38) rfl ?_); refine goesL_ (some 18) rfl rfl Try.func38 (by kernel_rfl) rfl #[.slice A0 l0.length c0] rfl (by (try simp only [List.map_toArray, List.map_cons, List.map_nil]); first | done | rfl | (simp only [List.length_drop, List.length_take]; rfl)) ?_; (with_reducible refine (laws_big.calls _ _ l0 false _ ?side1 ?side2 A2.out).mono ?_); (case side1 => repeat (first | exact HR0.out | (with_reducible refine Kd.C_alloc ?_ _) | (with_reducible refine Kd.C_drewN ?_ _) | (with_reducible refine Kd.C_drew ?_))); (case side2 => exact HC0.out); rintro e w' ⟨rfl, ⟨nd, rfl⟩⟩; refine ⟨_, rfl, ?_⟩) | ((with_reducible refine gate_callee (f := 39) rfl ?_); refine goesL_ (some 21) rfl rfl Try.func39 (by kernel_rfl) rfl #[.slice A0 l0.length c0] rfl (by (try simp only [List.map_toArray, List.map_cons, List.map_nil]); first | done | rfl | (simp only [List.length_drop, List.length_take]; rfl)) ?_; (with_reducible refine (spec_DrawSets.calls k _ _ l0 t367 t368 t369 t372 t375 t376 t377 t378 t379 t380 t381 _ ?side1 ?side2 A4.out).mono ?_); (case side1 => repeat (first | exact HR0.out | (with_reducible refine Kd.C_alloc ?_ _) | (with_reducible refine Kd.C_drewN ?_ _) | (with_reducible refine Kd.C_drew ?_))); (case side2 => exact HC0.out); rintro e w23 ⟨v370, v373, rfl, ho0, ho1, hb⟩; refine ⟨_, rfl, ?_⟩; have n0_ := Aside0.mk (Kd.R_lower ho0 (below_size (by repeat (first | (with_reducible first | exact HB.out | apply below_alloc | apply pw_below_drewN | apply below_drew1) | exact HB.out)))); have n1_ := Aside0.mk (Kd.R_lower ho1 (below_size (by repeat (first | (with_reducible first | exact HB.out | apply below_alloc | apply pw_below_drewN | apply below_drew1) | exact HB.out)))); have n2_ := Aside0.mk (below_step (by repeat (first | (with_reducible first | exact HB.out | apply below_alloc | apply pw_below_drewN | apply below_drew1) | exact HB.out)) hb); clear HB; have HO371 := n0_; have HO374 := n1_; have HB := n2_; clear n0_ n1_ n2_; (try clear hb); (try clear hb2); (try clear hk); (try clear hi); (try clear ho0); (try clear ho1)) | ((with_reducible refine gate_dst (N := 3) rfl ?_); (try (refine gate_guard (by rfl) ?_; dsimp only)); refine box_event ?hg (N := 3) ?hd (cs := #[.int .i64 0, .int .i64 0, .slice none 0 0, .slice none 0 0]) (t := 37) ?hr ?_; (case hd => rfl); (case hg => rfl); (case hr => first | (go_simp; done) | (go_simp; rfl)); intro gb382 hg w24 hbox hb; have n0_ := Aside0.mk (Kd.R_below (by (with_reducible repeat (first | apply Kd.R_alloc | apply Kd.R_drewN | apply Kd.R_drew)); exact HO371.out) hb); have n1_ := Aside0.mk (Kd.R_below (by (with_reducible repeat (first | apply Kd.R_alloc | apply Kd.R_drewN | apply Kd.R_drew)); exact HO374.out) hb); have n2_ := Aside0.mk (below_step (by repeat (first | (with_reducible first | exact HB.out | apply below_alloc | apply pw_below_drewN | apply below_drew1) | exact HB.out)) hb); have n3_ := Aside0.mk (hbox); have n4_ := Aside0.mk ((by rw [hg]; exact (below_size (by repeat (first | (with_reducible first | exact HB.out | apply below_alloc | apply pw_below_drewN | apply below_drew1) | exact HB.out))) : w.heap.size ≤ gb382)); have n5_ := Aside0.mk ((by rw [hg]; exact (below_size (by repeat (first | (with_reducible first | exact HB.out | apply below_alloc | apply pw_below_drewN | apply below_drew1) | exact HB.out))) : w.heap.size ≤ gb382)); clear HO371; clear HO374; clear HB; have HO371 := n0_; have HO374 := n1_; have HB := n2_; have BK382 := n3_; have GW382 := n4_; have GE382 := n5_; clear n0_ n1_ n2_ n3_ n4_ n5_; clear hb hbox hg) | ((with_reducible refine gate_dst (N := 4) rfl ?_); (try (refine gate_guard (by rfl) ?_; dsimp only)); refine box_event ?hg (N := 4) ?hd (cs := #[.int .i64 0, .bool false, .bool false, .bool false]) (t := 39) ?hr ?_; (case hd => rfl); (case hg => rfl); (case hr => first | (go_simp; done) | (go_simp; rfl)); intro gb383 hg w25 hbox hb; have n0_ := Aside0.mk (Kd.R_below (by (with_reducible repeat (first | apply Kd.R_alloc | apply Kd.R_drewN | apply Kd.R_drew)); exact HO371.out) hb); have n1_ := Aside0.mk (Kd.R_below (by (with_reducible repeat (first | apply Kd.R_alloc | apply Kd.R_drewN | apply Kd.R_drew)); exact HO374.out) hb); have n2_ := Aside0.mk (blk_below (g := gb382) (o := .cells #[.int .i64 0, .int .i64 0, .slice none 0 0, .slice none 0 0] 37 (0, 0)) (by (with_reducible repeat (first | refine blk_drewN ?_ _ | refine blk_drew ?_ | refine blk_alloc ?_ _)); exact BK382.out) hb); have n3_ := Aside0.mk (below_step (by repeat (first | (with_reducible first | exact HB.out | apply below_alloc | apply pw_below_drewN | apply below_drew1 | refine below_set ?_ GE382.out) | exact HB.out)) hb); have n4_ := Aside0.mk (hbox); have n5_ := Aside0.mk ((by rw [hg]; exact (below_size (by repeat (first | (with_reducible first | exact HB.out | apply below_alloc | apply pw_below_drewN | apply below_drew1 | refine below_set ?_ GE382.out) | exact HB.out))) : w.heap.size ≤ gb383)); have n6_ := Aside0.mk ((by rw [hg]; exact (below_size (by repeat (first | (with_reducible first | exact HB.out | apply below_alloc | apply pw_below_drewN | apply below_drew1 | refine below_set ?_ GE382.out) | exact HB.out))) : w.heap.size ≤ gb383)); have n7_ := Aside0.mk ((by rw [hg]; exact Nat.ne_of_lt (blk_lt (g := gb382) (o := .cells #[.int .i64 0, .int .i64 0, .slice none 0 0, .slice none 0 0] 37 (0, 0)) (by (with_reducible repeat (first | refine blk_drewN ?_ _ | refine blk_drew ?_ | refine blk_alloc ?_ _)); exact BK382.out)) : gb382 ≠ gb383)); have n8_ := Aside0.mk ((by rw [hg]; exact Nat.ne_of_gt (blk_lt (g := gb382) (o := .cells #[.int .i64 0, .int .i64 0, .slice none 0 0, .slice none 0 0] 37 (0, 0)) (by (with_reducible repeat (first | refine blk_drewN ?_ _ | refine blk_drew ?_ | refine blk_alloc ?_ _)); exact BK382.out)) : gb383 ≠ gb382)); clear HO371; clear HO374; clear BK382; clear HB; have HO371 := n0_; have HO374 := n1_; have BK382 := n2_; have HB := n3_; have BK383 := n4_; have GW383 := n5_; have GE383 := n6_; have NB382_383 := n7_; have NB383_382 := n8_; clear n0_ n1_ n2_ n3_ n4_ n5_ n6_ n7_ n8_; clear hb hbox hg) | ((with_reducible refine gate_dst (N := 5) rfl ?_); (try (refine gate_guard (by rfl) ?_; dsimp only)); refine box_event ?hg (N := 5) ?hd (cs := #[.int .i64 0, .int .i64 0, .int .i64 0]) (t := 34) ?hr ?_; (case hd => rfl); (case hg => rfl); (case hr => first | (go_simp; done) | (go_simp; rfl)); intro gb384 hg w26 hbox hb; have n0_ := Aside0.mk (Kd.R_below (by (with_reducible repeat (first | apply Kd.R_alloc | apply Kd.R_drewN | apply Kd.R_drew)); exact HO371.out) hb); have n1_ := Aside0.mk (Kd.R_below (by (with_reducible repeat (first | apply Kd.R_alloc | apply Kd.R_drewN | apply Kd.R_drew)); exact HO374.out) hb); have n2_ := Aside0.mk (blk_below (g := gb382) (o := .cells #[.int .i64 0, .int .i64 0, .slice none 0 0, .slice none 0 0] 37 (0, 0)) (by (with_reducible repeat (first | refine blk_drewN ?_ _ | refine blk_drew ?_ | refine blk_alloc ?_ _)); exact BK382.out) hb); have n3_ := Aside0.mk (blk_below (g := gb383) (o := .cells #[.int .i64 0, .bool false, .bool false, .bool false] 39 (0, 0)) (by (with_reducible repeat (first | refine blk_drewN ?_ _ | refine blk_drew ?_ | refine blk_alloc ?_ _)); exact BK383.out) hb); have n4_ := Aside0.mk (below_step (by repeat (first | (with_reducible first | exact HB.out | apply below_alloc | apply pw_below_drewN | apply below_drew1 | refine below_set ?_ GE382.out | refine below_set ?_ GE383.out) | exact HB.out)) hb); have n5_ := Aside0.mk (hbox); have n6_ := Aside0.mk ((by rw [hg]; exact (below_size (by repeat (first | (with_reducible first | exact HB.out | apply below_alloc | apply pw_below_drewN | apply below_drew1 | refine below_set ?_ GE382.out | refine below_set ?_ GE383.out) | exact HB.out))) : w.heap.size ≤ gb384)); have n7_ := Aside0.mk ((by rw [hg]; exact (below_size (by repeat (first | (with_reducible first | exact HB.out | apply below_alloc | apply pw_below_drewN | apply below_drew1 | refine below_set ?_ GE382.out | refine below_set ?_ GE383.out) | exact HB.out))) : w.heap.size ≤ gb384)); have n8_ := Aside0.mk ((by rw [hg]; exact Nat.ne_of_lt (blk_lt (g := gb382) (o := .cells #[.int .i64 0, .int .i64 0, .slice none 0 0, .slice none 0 0] 37 (0, 0)) (by (with_reducible repeat (first | refine blk_drewN ?_ _ | refine blk_drew ?_ | refine blk_alloc ?_ _)); exact BK382.out)) : gb382 ≠ gb384)); have n9_ := Aside0.mk ((by rw [hg]; exact Nat.ne_of_gt (blk_lt (g := gb382) (o := .cells #[.int .i64 0, .int .i64 0, .slice none 0 0, .slice none 0 0] 37 (0, 0)) (by (with_reducible repeat (first | refine blk_drewN ?_ _ | refine blk_drew ?_ | refine blk_alloc ?_ _)); exact BK382.out)) : gb384 ≠ gb382)); have n10_ := Aside0.mk ((by rw [hg]; exact Nat.ne_of_lt (blk_lt (g := gb383) (o := .cells #[.int .i64 0, .bool false, .bool false, .bool false] 39 (0, 0)) (by (with_reducible repeat (first | refine blk_drewN ?_ _ | refine blk_drew ?_ | refine blk_alloc ?_ _)); exact BK383.out)) : gb383 ≠ gb384)); have n11_ := Aside0.mk ((by rw [hg]; exact Nat.ne_of_gt (blk_lt (g := gb383) (o := .cells #[.int .i64 0, .bool false, .bool false, .bool false] 39 (0, 0)) (by (with_reducible repeat (first | refine blk_drewN ?_ _ | refine blk_drew ?_ | refine blk_alloc ?_ _)); exact BK383.out)) : gb384 ≠ gb383)); clear HO371; clear HO374; clear BK382; clear BK383; clear HB; have HO371 := n0_; have HO374 := n1_; have BK382 := n2_; have BK383 := n3_; have HB := n4_; have BK384 := n5_; have GW384 := n6_; have GE384 := n7_; have NB382_384 := n8_; have NB384_382 := n9_; have NB383_384 := n10_; have NB384_383 := n11_; clear n0_ n1_ n2_ n3_ n4_ n5_ n6_ n7_ n8_ n9_ n10_ n11_; clear hb hbox hg; have hnb27 := NB382_383.out; have hnc27 := NB383_382.out; have hnb28 := NB382_384.out; have hnc28 := NB384_382.out; have hcz29_0 : w26.cell? ⟨gb382, 0, none⟩ = some (.int .i64 0) := (blk_cell BK382.out 0).trans rfl; have hcz29_1 : w26.cell? ⟨gb382, 1, none⟩ = some (.int .i64 0) := (blk_cell BK382.out 1).trans rfl; have hcz29_2 : w26.cell? ⟨gb382, 2, none⟩ = some (.slice none 0 0) := (blk_cell BK382.out 2).trans rfl; have hcz29_3 : w26.cell? ⟨gb382, 3, none⟩ = some (.slice none 0 0) := (blk_cell BK382.out 3).trans rfl; have hfz29_0 := blk_frozen BK382.out 0; have hfz29_1 := blk_frozen BK382.out 1; have hfz29_2 := blk_frozen BK382.out 2; have hfz29_3 := blk_frozen BK382.out 3; obtain ⟨Ao30, co30, eo30⟩ := Kd.R_slice HO371.out; subst eo30; obtain ⟨Ao31, co31, eo31⟩ := Kd.R_slice HO374.out; subst eo31; have hnb32 := NB383_384.out; have hnc32 := NB384_383.out; have hcz33_0 : w26.cell? ⟨gb383, 0, none⟩ = some (.int .i64 0) := (blk_cell BK383.out 0).trans rfl; have hcz33_1 : w26.cell? ⟨gb383, 1, none⟩ = some (.bool false) := (blk_cell BK383.out 1).trans rfl; have hcz33_2 : w26.cell? ⟨gb383, 2, none⟩ = some (.bool false) := (blk_cell BK383.out 2).trans rfl; have hcz33_3 : w26.cell? ⟨gb383, 3, none⟩ = some (.bool false) := (blk_cell BK383.out 3).trans rfl; have hfz33_0 := blk_frozen BK383.out 0; have hfz33_1 := blk_frozen BK383.out 1; have hfz33_2 := blk_frozen BK383.out 2; have hfz33_3 := blk_frozen BK383.out 3; have hcz34_0 : w26.cell? ⟨gb384, 0, none⟩ = some (.int .i64 0) := (blk_cell BK384.out 0).trans rfl; have hcz34_1 : w26.cell? ⟨gb384, 1, none⟩ = some (.int .i64 0) := (blk_cell BK384.out 1).trans rfl; have hcz34_2 : w26.cell? ⟨gb384, 2, none⟩ = some (.int .i64 0) := (blk_cell BK384.out 2).trans rfl; have hfz34_0 := blk_frozen BK384.out 0; have hfz34_1 := blk_frozen BK384.out 1; have hfz34_2 := blk_frozen BK384.out 2) | ((with_reducible refine gate_callee (f := 40) rfl ?_); refine goesL_ (some 26) rfl rfl Try.func40 (by kernel_rfl) rfl #[.slice A0 l0.length c0] rfl (by (try simp only [List.map_toArray, List.map_cons, List.map_nil]); first | done | rfl | (simp only [List.length_drop, List.length_take]; rfl)) ?_; (with_reducible refine (spec_DrawRow.calls k _ _ l0 t385 _ ?side1 ?side2 A5.out).mono ?_); (case side1 => exact Kd.C_below HR0.out (by repeat (first | (with_reducible first | exact HB.out | apply below_alloc | apply pw_below_drewN | apply below_drew1 | refine below_set ?_ GE382.out | refine below_set ?_ GE383.out | refine below_set ?_ GE384.out) | exact HB.out))); (case side2 => exact HC0.out); rintro e w35 ⟨rfl, hb⟩; refine ⟨_, rfl, ?_⟩; have n0_ := Aside0.mk (Kd.R_below (by (with_reducible repeat (first | apply Kd.R_alloc | apply Kd.R_drewN | apply Kd.R_drew)); exact (Kd.R_mono (Kd.R_mono (Kd.R_mono (Kd.R_far (p := ⟨gb384, 2, none⟩) (Kd.R_far (p := ⟨gb384, 1, none⟩) (Kd.R_far (p := ⟨gb384, 0, none⟩) (Kd.R_far (p := ⟨gb383, 3, none⟩) (Kd.R_far (p := ⟨gb383, 2, none⟩) (Kd.R_far (p := ⟨gb383, 1, none⟩) (Kd.R_far (p := ⟨gb383, 0, none⟩) (Kd.R_far (p := ⟨gb382, 3, none⟩) (Kd.R_far (p := ⟨gb382, 2, none⟩) (Kd.R_far (p := ⟨gb382, 1, none⟩) (Kd.R_far (p := ⟨gb382, 0, none⟩) (Kd.R_types (Kd.R_types (Kd.R_types HO371.out BK382.out (by decide)) BK383.out (by decide)) BK384.out (by decide)) (fun _ hk => hk.1.1.2) (.int .i64 t367)) (fun _ hk => hk.1.1.2) (.int .i64 t368)) (fun _ hk => hk.1.1.2) (.slice Ao30 t369.length co30)) (fun _ hk => hk.1.1.2) (.slice Ao31 t372.length co31)) (fun _ hk => hk.1.2) (.int .i64 t375)) (fun _ hk => hk.1.2) (.bool t376)) (fun _ hk => hk.1.2) (.bool t377)) (fun _ hk => hk.1.2) (.bool t378)) (fun _ hk => hk.2) (.int .i64 t379)) (fun _ hk => hk.2) (.int .i64 t380)) (fun _ hk => hk.2) (.int .i64 t381)) (fun _ h_ => h_.1)) (fun _ h_ => h_.1)) (fun _ h_ => h_.1))) hb); have n1_ := Aside0.mk (Kd.R_below (by (with_reducible repeat (first | apply Kd.R_alloc | apply Kd.R_drewN | apply Kd.R_drew)); exact (Kd.R_mono (Kd.R_mono (Kd.R_mono (Kd.R_far (p := ⟨gb384, 2, none⟩) (Kd.R_far (p := ⟨gb384, 1, none⟩) (Kd.R_far (p := ⟨gb384, 0, none⟩) (Kd.R_far (p := ⟨gb383, 3, none⟩) (Kd.R_far (p := ⟨gb383, 2, none⟩) (Kd.R_far (p := ⟨gb383, 1, none⟩) (Kd.R_far (p := ⟨gb383, 0, none⟩) (Kd.R_far (p := ⟨gb382, 3, none⟩) (Kd.R_far (p := ⟨gb382, 2, none⟩) (Kd.R_far (p := ⟨gb382, 1, none⟩) (Kd.R_far (p := ⟨gb382, 0, none⟩) (Kd.R_types (Kd.R_types (Kd.R_types HO374.out BK382.out (by decide)) BK383.out (by decide)) BK384.out (by decide)) (fun _ hk => hk.1.1.2) (.int .i64 t367)) (fun _ hk => hk.1.1.2) (.int .i64 t368)) (fun _ hk => hk.1.1.2) (.slice Ao30 t369.length co30)) (fun _ hk => hk.1.1.2) (.slice Ao31 t372.length co31)) (fun _ hk => hk.1.2) (.int .i64 t375)) (fun _ hk => hk.1.2) (.bool t376)) (fun _ hk => hk.1.2) (.bool t377)) (fun _ hk => hk.1.2) (.bool t378)) (fun _ hk => hk.2) (.int .i64 t379)) (fun _ hk => hk.2) (.int .i64 t380)) (fun _ hk => hk.2) (.int .i64 t381)) (fun _ h_ => h_.1)) (fun _ h_ => h_.1)) (fun _ h_ => h_.1))) hb); have n2_ := Aside0.mk (blk_below (g := gb382) (o := .cells #[.int .i64 t367, .int .i64 t368, .slice Ao30 t369.length co30, .slice Ao31 t372.length co31] 37 (0, 0)) (by (with_reducible repeat (first | refine blk_drewN ?_ _ | refine blk_drew ?_ | refine blk_alloc ?_ _)); refine blk_far ?_ NB382_384.out _; (with_reducible repeat (first | refine blk_drewN ?_ _ | refine blk_drew ?_ | refine blk_alloc ?_ _)); refine blk_far ?_ NB382_384.out _; (with_reducible repeat (first | refine blk_drewN ?_ _ | refine blk_drew ?_ | refine blk_alloc ?_ _)); refine blk_far ?_ NB382_384.out _; (with_reducible repeat (first | refine blk_drewN ?_ _ | refine blk_drew ?_ | refine blk_alloc ?_ _)); refine blk_far ?_ NB382_383.out _; (with_reducible repeat (first | refine blk_drewN ?_ _ | refine blk_drew ?_ | refine blk_alloc ?_ _)); refine blk_far ?_ NB382_383.out _; (with_reducible repeat (first | refine blk_drewN ?_ _ | refine blk_drew ?_ | refine blk_alloc ?_ _)); refine blk_far ?_ NB382_383.out _; (with_reducible repeat (first | refine blk_drewN ?_ _ | refine blk_drew ?_ | refine blk_alloc ?_ _)); refine blk_far ?_ NB382_383.out _; (with_reducible repeat (first | refine blk_drewN ?_ _ | refine blk_drew ?_ | refine blk_alloc ?_ _)); refine blk_put (cs := #[.int .i64 t367, .int .i64 t368, .slice Ao30 t369.length co30, .slice none 0 0]) ?_ 3 _ rfl; (with_reducible repeat (first | refine blk_drewN ?_ _ | refine blk_drew ?_ | refine blk_alloc ?_ _)); refine blk_put (cs := #[.int .i64 t367, .int .i64 t368, .slice none 0 0, .slice none 0 0]) ?_ 2 _ rfl; (with_reducible repeat (first | refine blk_drewN ?_ _ | refine blk_drew ?_ | refine blk_alloc ?_ _)); refine blk_put (cs := #[.int .i64 t367, .int .i64 0, .slice none 0 0, .slice none 0 0]) ?_ 1 _ rfl; (with_reducible repeat (first | refine blk_drewN ?_ _ | refine blk_drew ?_ | refine blk_alloc ?_ _)); refine blk_put (cs := #[.int .i64 0, .int .i64 0, .slice none 0 0, .slice none 0 0]) ?_ 0 _ rfl; (with_reducible repeat (first | refine blk_drewN ?_ _ | refine blk_drew ?_ | refine blk_alloc ?_ _)); exact BK382.out) hb); have n3_ := Aside0.mk (blk_below (g := gb383) (o := .cells #[.int .i64 t375, .bool t376, .bool t377, .bool t378] 39 (0, 0)) (by (with_reducible repeat (first | refine blk_drewN ?_ _ | refine blk_drew ?_ | refine blk_alloc ?_ _)); refine blk_far ?_ NB383_384.out _; (with_reducible repeat (first | refine blk_drewN ?_ _ | refine blk_drew ?_ | refine blk_alloc ?_ _)); refine blk_far ?_ NB383_384.out _; (with_reducible repeat (first | refine blk_drewN ?_ _ | refine blk_drew ?_ | refine blk_alloc ?_ _)); refine blk_far ?_ NB383_384.out _; (with_reducible repeat (first | refine blk_drewN ?_ _ | refine blk_drew ?_ | refine blk_alloc ?_ _)); refine blk_put (cs := #[.int .i64 t375, .bool t376, .bool t377, .bool false]) ?_ 3 _ rfl; (with_reducible repeat (first | refine blk_drewN ?_ _ | refine blk_drew ?_ | refine blk_alloc ?_ _)); refine blk_put (cs := #[.int .i64 t375, .bool t376, .bool false, .bool false]) ?_ 2 _ rfl; (with_reducible repeat (first | refine blk_drewN ?_ _ | refine blk_drew ?_ | refine blk_alloc ?_ _)); refine blk_put (cs := #[.int .i64 t375, .bool false, .bool false, .bool false]) ?_ 1 _ rfl; (with_reducible repeat (first | refine blk_drewN ?_ _ | refine blk_drew ?_ | refine blk_alloc ?_ _)); refine blk_put (cs := #[.int .i64 0, .bool false, .bool false, .bool false]) ?_ 0 _ rfl; (with_reducible repeat (first | refine blk_drewN ?_ _ | refine blk_drew ?_ | refine blk_alloc ?_ _)); refine blk_far ?_ NB383_382.out _; (with_reducible repeat (first | refine blk_drewN ?_ _ | refine blk_drew ?_ | refine blk_alloc ?_ _)); refine blk_far ?_ NB383_382.out _; (with_reducible repeat (first | refine blk_drewN ?_ _ | refine blk_drew ?_ | refine blk_alloc ?_ _)); refine blk_far ?_ NB383_382.out _; (with_reducible repeat (first | refine blk_drewN ?_ _ | refine blk_drew ?_ | refine blk_alloc ?_ _)); refine blk_far ?_ NB383_382.out _; (with_reducible repeat (first | refine blk_drewN ?_ _ | refine blk_drew ?_ | refine blk_alloc ?_ _)); exact BK383.out) hb); have n4_ := Aside0.mk (blk_below (g := gb384) (o := .cells #[.int .i64 t379, .int .i64 t380, .int .i64 t381] 34 (0, 0)) (by (with_reducible repeat (first | refine blk_drewN ?_ _ | refine blk_drew ?_ | refine blk_alloc ?_ _)); refine blk_put (cs := #[.int .i64 t379, .int .i64 t380, .int .i64 0]) ?_ 2 _ rfl; (with_reducible repeat (first | refine blk_drewN ?_ _ | refine blk_drew ?_ | refine blk_alloc ?_ _)); refine blk_put (cs := #[.int .i64 t379, .int .i64 0, .int .i64 0]) ?_ 1 _ rfl; (with_reducible repeat (first | refine blk_drewN ?_ _ | refine blk_drew ?_ | refine blk_alloc ?_ _)); refine blk_put (cs := #[.int .i64 0, .int .i64 0, .int .i64 0]) ?_ 0 _ rfl; (with_reducible repeat (first | refine blk_drewN ?_ _ | refine blk_drew ?_ | refine blk_alloc ?_ _)); refine blk_far ?_ NB384_383.out _; (with_reducible repeat (first | refine blk_drewN ?_ _ | refine blk_drew ?_ | refine blk_alloc ?_ _)); refine blk_far ?_ NB384_383.out _; (with_reducible repeat (first | refine blk_drewN ?_ _ | refine blk_drew ?_ | refine blk_alloc ?_ _)); refine blk_far ?_ NB384_383.out _; (with_reducible repeat (first | refine blk_drewN ?_ _ | refine blk_drew ?_ | refine blk_alloc ?_ _)); refine blk_far ?_ NB384_383.out _; (with_reducible repeat (first | refine blk_drewN ?_ _ | refine blk_drew ?_ | refine blk_alloc ?_ _)); refine blk_far ?_ NB384_382.out _; (with_reducible repeat (first | refine blk_drewN ?_ _ | refine blk_drew ?_ | refine blk_alloc ?_ _)); refine blk_far ?_ NB384_382.out _; (with_reducible repeat (first | refine blk_drewN ?_ _ | refine blk_drew ?_ | refine blk_alloc ?_ _)); refine blk_far ?_ NB384_382.out _; (with_reducible repeat (first | refine blk_drewN ?_ _ | refine blk_drew ?_ | refine blk_alloc ?_ _)); refine blk_far ?_ NB384_382.out _; (with_reducible repeat (first | refine blk_drewN ?_ _ | refine blk_drew ?_ | refine blk_alloc ?_ _)); exact BK384.out) hb); have n5_ := Aside0.mk (below_step (by repeat (first | (with_reducible first | exact HB.out | apply below_alloc | apply pw_below_drewN | apply below_drew1 | refine below_set ?_ GE382.out | refine below_set ?_ GE383.out | refine below_set ?_ GE384.out) | exact HB.out)) hb); clear HO371; clear HO374; clear BK382; clear BK383; clear BK384; clear HB; have HO371 := n0_; have HO374 := n1_; have BK382 := n2_; have BK383 := n3_; have BK384 := n4_; have HB := n5_; clear n0_ n1_ n2_ n3_ n4_ n5_; (try clear hb); (try clear hb2); (try clear hk); (try clear hi); have hcz36_0 : w35.cell? ⟨gb382, 0, none⟩ = some (.int .i64 t367) := (blk_cell BK382.out 0).trans rfl; have hcz36_1 : w35.cell? ⟨gb382, 1, none⟩ = some (.int .i64 t368) := (blk_cell BK382.out 1).trans rfl; have hcz36_2 : w35.cell? ⟨gb382, 2, none⟩ = some (.slice Ao30 t369.length co30) := (blk_cell BK382.out 2).trans rfl; have hcz36_3 : w35.cell? ⟨gb382, 3, none⟩ = some (.slice Ao31 t372.length co31) := (blk_cell BK382.out 3).trans rfl; have hfz36_0 := blk_frozen BK382.out 0; have hfz36_1 := blk_frozen BK382.out 1; have hfz36_2 := blk_frozen BK382.out 2; have hfz36_3 := blk_frozen BK382.out 3; have hcz37_0 : w35.cell? ⟨gb383, 0, none⟩ = some (.int .i64 t375) := (blk_cell BK383.out 0).trans rfl; have hcz37_1 : w35.cell? ⟨gb383, 1, none⟩ = some (.bool t376) := (blk_cell BK383.out 1).trans rfl; have hcz37_2 : w35.cell? ⟨gb383, 2, none⟩ = some (.bool t377) := (blk_cell BK383.out 2).trans rfl; have hcz37_3 : w35.cell? ⟨gb383, 3, none⟩ = some (.bool t378) := (blk_cell BK383.out 3).trans rfl; have hfz37_0 := blk_frozen BK383.out 0; have hfz37_1 := blk_frozen BK383.out 1; have hfz37_2 := blk_frozen BK383.out 2; have hfz37_3 := blk_frozen BK383.out 3; have hcz38_0 : w35.cell? ⟨gb384, 0, none⟩ = some (.int .i64 t379) := (blk_cell BK384.out 0).trans rfl; have hcz38_1 : w35.cell? ⟨gb384, 1, none⟩ = some (.int .i64 t380) := (blk_cell BK384.out 1).trans rfl; have hcz38_2 : w35.cell? ⟨gb384, 2, none⟩ = some (.int .i64 t381) := (blk_cell BK384.out 2).trans rfl; have hfz38_0 := blk_frozen BK384.out 0; have hfz38_1 := blk_frozen BK384.out 1; have hfz38_2 := blk_frozen BK384.out 2) | ((with_reducible refine gate_callee (f := 41) rfl ?_); refine goesL_ (some 31) rfl rfl Try.func41 (by kernel_rfl) rfl #[.agg #[.int .i64 t367, .int .i64 t368, .slice Ao30 t369.length co30, .slice Ao31 t372.length co31], .agg #[.int .i64 t375, .bool t376, .bool t377, .bool t378], .agg #[.int .i64 t379, .int .i64 t380, .int .i64 t381]] rfl (by (try simp only [List.map_toArray, List.map_cons, List.map_nil]); first | done | rfl | (simp only [List.length_drop, List.length_take]; rfl)) ?_; (with_reducible refine (impl_HeadRow.calls k t367 t368 _ _ t369 _ _ t372 t375 t376 t377 t378 t379 t380 t381 t386 true _ ?side1 ?side2 ?side3 ?side4 A6.out).mono ?_); (case side1 => repeat (first | exact (Kd.R_reads' HO371.out).2.2 | (with_reducible refine Kd.C_alloc ?_ _) | (with_reducible refine Kd.C_drewN ?_ _) | (with_reducible refine Kd.C_drew ?_))); (case side2 => exact (Kd.R_reads' HO371.out).2.1); (case side3 => repeat (first | exact (Kd.R_reads' HO374.out).2.2 | (with_reducible refine Kd.C_alloc ?_ _) | (with_reducible refine Kd.C_drewN ?_ _) | (with_reducible refine Kd.C_drew ?_))); (case side4 => exact (Kd.R_reads' HO374.out).2.1); rintro e w39 ⟨rfl, hb⟩; refine ⟨_, rfl, ?_⟩; have n0_ := Aside0.mk (Kd.R_below (by (with_reducible repeat (first | apply Kd.R_alloc | apply Kd.R_drewN | apply Kd.R_drew)); exact HO371.out) hb); have n1_ := Aside0.mk (Kd.R_below (by (with_reducible repeat (first | apply Kd.R_alloc | apply Kd.R_drewN | apply Kd.R_drew)); exact HO374.out) hb); have n2_ := Aside0.mk (blk_below (g := gb382) (o := .cells #[.int .i64 t367, .int .i64 t368, .slice Ao30 t369.length co30, .slice Ao31 t372.length co31] 37 (0, 0)) (by (with_reducible repeat (first | refine blk_drewN ?_ _ | refine blk_drew ?_ | refine blk_alloc ?_ _)); exact BK382.out) hb); have n3_ := Aside0.mk (blk_below (g := gb383) (o := .cells #[.int .i64 t375, .bool t376, .bool t377, .bool t378] 39 (0, 0)) (by (with_reducible repeat (first | refine blk_drewN ?_ _ | refine blk_drew ?_ | refine blk_alloc ?_ _)); exact BK383.out) hb); have n4_ := Aside0.mk (blk_below (g := gb384) (o := .cells #[.int .i64 t379, .int .i64 t380, .int .i64 t381] 34 (0, 0)) (by (with_reducible repeat (first | refine blk_drewN ?_ _ | refine blk_drew ?_ | refine blk_alloc ?_ _)); exact BK384.out) hb); have n5_ := Aside0.mk (below_step (by repeat (first | (with_reducible first | exact HB.out | apply below_alloc | apply pw_below_drewN | apply below_drew1 | refine below_set ?_ GE382.out | refine below_set ?_ GE383.out | refine below_set ?_ GE384.out) | exact HB.out)) hb); clear HO371; clear HO374; clear BK382; clear BK383; clear BK384; clear HB; have HO371 := n0_; have HO374 := n1_; have BK382 := n2_; have BK383 := n3_; have BK384 := n4_; have HB := n5_; clear n0_ n1_ n2_ n3_ n4_ n5_; (try clear hb); (try clear hb2); (try clear hk); (try clear hi)) | ((with_reducible refine gate_callee (f := 42) rfl ?_); refine goesL_ (some 38) rfl rfl Try.func42 (by kernel_rfl) rfl #[.int .i64 5, .string (t386 ++ t385)] rfl (by (try simp only [List.map_toArray, List.map_cons, List.map_nil]); first | done | rfl | (simp only [List.length_drop, List.length_take]; rfl)) ?_; (with_reducible refine (impl_UnitOf.calls k 5 (t386 ++ t385) t388 true _ A8.out).mono ?_); rintro e w40 ⟨rfl, hb⟩; refine ⟨_, rfl, ?_⟩; have n0_ := Aside0.mk (Kd.R_below (by (with_reducible repeat (first | apply Kd.R_alloc | apply Kd.R_drewN | apply Kd.R_drew)); exact HO371.out) hb); have n1_ := Aside0.mk (Kd.R_below (by (with_reducible repeat (first | apply Kd.R_alloc | apply Kd.R_drewN | apply Kd.R_drew)); exact HO374.out) hb); have n2_ := Aside0.mk (blk_below (g := gb382) (o := .cells #[.int .i64 t367, .int .i64 t368, .slice Ao30 t369.length co30, .slice Ao31 t372.length co31] 37 (0, 0)) (by (with_reducible repeat (first | refine blk_drewN ?_ _ | refine blk_drew ?_ | refine blk_alloc ?_ _)); exact BK382.out) hb); have n3_ := Aside0.mk (blk_below (g := gb383) (o := .cells #[.int .i64 t375, .bool t376, .bool t377, .bool t378] 39 (0, 0)) (by (with_reducible repeat (first | refine blk_drewN ?_ _ | refine blk_drew ?_ | refine blk_alloc ?_ _)); exact BK383.out) hb); have n4_ := Aside0.mk (blk_below (g := gb384) (o := .cells #[.int .i64 t379, .int .i64 t380, .int .i64 t381] 34 (0, 0)) (by (with_reducible repeat (first | refine blk_drewN ?_ _ | refine blk_drew ?_ | refine blk_alloc ?_ _)); exact BK384.out) hb); have n5_ := Aside0.mk (below_step (by repeat (first | (with_reducible first | exact HB.out | apply below_alloc | apply pw_below_drewN | apply below_drew1 | refine below_set ?_ GE382.out | refine below_set ?_ GE383.out | refine below_set ?_ GE384.out) | exact HB.out)) hb); clear HO371; clear HO374; clear BK382; clear BK383; clear BK384; clear HB; have HO371 := n0_; have HO374 := n1_; have BK382 := n2_; have BK383 := n3_; have BK384 := n4_; have HB := n5_; clear n0_ n1_ n2_ n3_ n4_ n5_; (try clear hb); (try clear hb2); (try clear hk); (try clear hi)) | ((with_reducible refine gate_callee (f := 43) rfl ?_); refine goesL_ (some 43) rfl rfl Try.func43 (by kernel_rfl) rfl #[.string t388] rfl (by (try simp only [List.map_toArray, List.map_cons, List.map_nil]); first | done | rfl | (simp only [List.length_drop, List.length_take]; rfl)) ?_; (with_reducible refine (impl_UnitIn.calls k t388 t390 t391 true _ A9.out).mono ?_); rintro e w41 ⟨rfl, hb⟩; refine ⟨_, rfl, ?_⟩; have n0_ := Aside0.mk (Kd.R_below (by (with_reducible repeat (first | apply Kd.R_alloc | apply Kd.R_drewN | apply Kd.R_drew)); exact HO371.out) hb); have n1_ := Aside0.mk (Kd.R_below (by (with_reducible repeat (first | apply Kd.R_alloc | apply Kd.R_drewN | apply Kd.R_drew)); exact HO374.out) hb); have n2_ := Aside0.mk (blk_below (g := gb382) (o := .cells #[.int .i64 t367, .int .i64 t368, .slice Ao30 t369.length co30, .slice Ao31 t372.length co31] 37 (0, 0)) (by (with_reducible repeat (first | refine blk_drewN ?_ _ | refine blk_drew ?_ | refine blk_alloc ?_ _)); exact BK382.out) hb); have n3_ := Aside0.mk (blk_below (g := gb383) (o := .cells #[.int .i64 t375, .bool t376, .bool t377, .bool t378] 39 (0, 0)) (by (with_reducible repeat (first | refine blk_drewN ?_ _ | refine blk_drew ?_ | refine blk_alloc ?_ _)); exact BK383.out) hb); have n4_ := Aside0.mk (blk_below (g := gb384) (o := .cells #[.int .i64 t379, .int .i64 t380, .int .i64 t381] 34 (0, 0)) (by (with_reducible repeat (first | refine blk_drewN ?_ _ | refine blk_drew ?_ | refine blk_alloc ?_ _)); exact BK384.out) hb); have n5_ := Aside0.mk (below_step (by repeat (first | (with_reducible first | exact HB.out | apply below_alloc | apply pw_below_drewN | apply below_drew1 | refine below_set ?_ GE382.out | refine below_set ?_ GE383.out | refine below_set ?_ GE384.out) | exact HB.out)) hb); clear HO371; clear HO374; clear BK382; clear BK383; clear BK384; clear HB; have HO371 := n0_; have HO374 := n1_; have BK382 := n2_; have BK383 := n3_; have BK384 := n4_; have HB := n5_; clear n0_ n1_ n2_ n3_ n4_ n5_; (try clear hb); (try clear hb2); (try clear hk); (try clear hi); have hcz42_0 : w41.cell? ⟨gb382, 0, none⟩ = some (.int .i64 t367) := (blk_cell BK382.out 0).trans rfl; have hcz42_1 : w41.cell? ⟨gb382, 1, none⟩ = some (.int .i64 t368) := (blk_cell BK382.out 1).trans rfl; have hcz42_2 : w41.cell? ⟨gb382, 2, none⟩ = some (.slice Ao30 t369.length co30) := (blk_cell BK382.out 2).trans rfl; have hcz42_3 : w41.cell? ⟨gb382, 3, none⟩ = some (.slice Ao31 t372.length co31) := (blk_cell BK382.out 3).trans rfl; have hfz42_0 := blk_frozen BK382.out 0; have hfz42_1 := blk_frozen BK382.out 1; have hfz42_2 := blk_frozen BK382.out 2; have hfz42_3 := blk_frozen BK382.out 3; have hcz43_0 : w41.cell? ⟨gb383, 0, none⟩ = some (.int .i64 t375) := (blk_cell BK383.out 0).trans rfl; have hcz43_1 : w41.cell? ⟨gb383, 1, none⟩ = some (.bool t376) := (blk_cell BK383.out 1).trans rfl; have hcz43_2 : w41.cell? ⟨gb383, 2, none⟩ = some (.bool t377) := (blk_cell BK383.out 2).trans rfl; have hcz43_3 : w41.cell? ⟨gb383, 3, none⟩ = some (.bool t378) := (blk_cell BK383.out 3).trans rfl; have hfz43_0 := blk_frozen BK383.out 0; have hfz43_1 := blk_frozen BK383.out 1; have hfz43_2 := blk_frozen BK383.out 2; have hfz43_3 := blk_frozen BK383.out 3) | ((with_reducible refine gate_callee (f := 23) rfl ?_); refine goesL_ (some 51) rfl rfl Try.func23 (by kernel_rfl) rfl #[.agg #[.int .i64 t367, .int .i64 t368, .slice Ao30 t369.length co30, .slice Ao31 t372.length co31], .agg #[.int .i64 t375, .bool t376, .bool t377, .bool t378], .string t391] rfl (by (try simp only [List.map_toArray, List.map_cons, List.map_nil]); first | done | rfl | (simp only [List.length_drop, List.length_take]; rfl)) ?_; (with_reducible refine (impl_ReadHead.calls k t367 t368 _ _ t369 _ _ t372 t375 t376 t377 t378 t391 t393 t394 t395 t396 true _ ?side1 ?side2 ?side3 ?side4 A10.out).mono ?_); (case side1 => repeat (first | exact (Kd.R_reads' HO371.out).2.2 | (with_reducible refine Kd.C_alloc ?_ _) | (with_reducible refine Kd.C_drewN ?_ _) | (with_reducible refine Kd.C_drew ?_))); (case side2 => exact (Kd.R_reads' HO371.out).2.1); (case side3 => repeat (first | exact (Kd.R_reads' HO374.out).2.2 | (with_reducible refine Kd.C_alloc ?_ _) | (with_reducible refine Kd.C_drewN ?_ _) | (with_reducible refine Kd.C_drew ?_))); (case side4 => exact (Kd.R_reads' HO374.out).2.1); rintro e w44 ⟨rfl, hb⟩; refine ⟨_, rfl, ?_⟩; have n0_ := Aside0.mk (Kd.R_below (by (with_reducible repeat (first | apply Kd.R_alloc | apply Kd.R_drewN | apply Kd.R_drew)); exact HO371.out) hb); have n1_ := Aside0.mk (Kd.R_below (by (with_reducible repeat (first | apply Kd.R_alloc | apply Kd.R_drewN | apply Kd.R_drew)); exact HO374.out) hb); have n2_ := Aside0.mk (blk_below (g := gb382) (o := .cells #[.int .i64 t367, .int .i64 t368, .slice Ao30 t369.length co30, .slice Ao31 t372.length co31] 37 (0, 0)) (by (with_reducible repeat (first | refine blk_drewN ?_ _ | refine blk_drew ?_ | refine blk_alloc ?_ _)); exact BK382.out) hb); have n3_ := Aside0.mk (blk_below (g := gb383) (o := .cells #[.int .i64 t375, .bool t376, .bool t377, .bool t378] 39 (0, 0)) (by (with_reducible repeat (first | refine blk_drewN ?_ _ | refine blk_drew ?_ | refine blk_alloc ?_ _)); exact BK383.out) hb); have n4_ := Aside0.mk (blk_below (g := gb384) (o := .cells #[.int .i64 t379, .int .i64 t380, .int .i64 t381] 34 (0, 0)) (by (with_reducible repeat (first | refine blk_drewN ?_ _ | refine blk_drew ?_ | refine blk_alloc ?_ _)); exact BK384.out) hb); have n5_ := Aside0.mk (below_step (by repeat (first | (with_reducible first | exact HB.out | apply below_alloc | apply pw_below_drewN | apply below_drew1 | refine below_set ?_ GE382.out | refine below_set ?_ GE383.out | refine below_set ?_ GE384.out) | exact HB.out)) hb); clear HO371; clear HO374; clear BK382; clear BK383; clear BK384; clear HB; have HO371 := n0_; have HO374 := n1_; have BK382 := n2_; have BK383 := n3_; have BK384 := n4_; have HB := n5_; clear n0_ n1_ n2_ n3_ n4_ n5_; (try clear hb); (try clear hb2); (try clear hk); (try clear hi)) | ((with_reducible refine gate_dst (N := 14) rfl ?_); (try (refine gate_guard (by rfl) ?_; dsimp only)); refine box_event ?hg (N := 14) ?hd (cs := #[.int .i64 0, .int .i64 0, .int .i64 0]) (t := 34) ?hr ?_; (case hd => rfl); (case hg => rfl); (case hr => first | (go_simp; done) | (go_simp; rfl)); intro gb398 hg w45 hbox hb; have n0_ := Aside0.mk (Kd.R_below (by (with_reducible repeat (first | apply Kd.R_alloc | apply Kd.R_drewN | apply Kd.R_drew)); exact HO371.out) hb); have n1_ := Aside0.mk (Kd.R_below (by (with_reducible repeat (first | apply Kd.R_alloc | apply Kd.R_drewN | apply Kd.R_drew)); exact HO374.out) hb); have n2_ := Aside0.mk (blk_below (g := gb382) (o := .cells #[.int .i64 t367, .int .i64 t368, .slice Ao30 t369.length co30, .slice Ao31 t372.length co31] 37 (0, 0)) (by (with_reducible repeat (first | refine blk_drewN ?_ _ | refine blk_drew ?_ | refine blk_alloc ?_ _)); exact BK382.out) hb); have n3_ := Aside0.mk (blk_below (g := gb383) (o := .cells #[.int .i64 t375, .bool t376, .bool t377, .bool t378] 39 (0, 0)) (by (with_reducible repeat (first | refine blk_drewN ?_ _ | refine blk_drew ?_ | refine blk_alloc ?_ _)); exact BK383.out) hb); have n4_ := Aside0.mk (blk_below (g := gb384) (o := .cells #[.int .i64 t379, .int .i64 t380, .int .i64 t381] 34 (0, 0)) (by (with_reducible repeat (first | refine blk_drewN ?_ _ | refine blk_drew ?_ | refine blk_alloc ?_ _)); exact BK384.out) hb); have n5_ := Aside0.mk (below_step (by repeat (first | (with_reducible first | exact HB.out | apply below_alloc | apply pw_below_drewN | apply below_drew1 | refine below_set ?_ GE382.out | refine below_set ?_ GE383.out | refine below_set ?_ GE384.out) | exact HB.out)) hb); have n6_ := Aside0.mk (hbox); have n7_ := Aside0.mk ((by rw [hg]; exact (below_size (by repeat (first | (with_reducible first | exact HB.out | apply below_alloc | apply pw_below_drewN | apply below_drew1 | refine below_set ?_ GE382.out | refine below_set ?_ GE383.out | refine below_set ?_ GE384.out) | exact HB.out))) : w.heap.size ≤ gb398)); have n8_ := Aside0.mk ((by rw [hg]; exact (below_size (by repeat (first | (with_reducible first | exact HB.out | apply below_alloc | apply pw_below_drewN | apply below_drew1 | refine below_set ?_ GE382.out | refine below_set ?_ GE383.out | refine below_set ?_ GE384.out) | exact HB.out))) : w.heap.size ≤ gb398)); have n9_ := Aside0.mk ((by rw [hg]; exact Nat.ne_of_lt (blk_lt (g := gb382) (o := .cells #[.int .i64 t367, .int .i64 t368, .slice Ao30 t369.length co30, .slice Ao31 t372.length co31] 37 (0, 0)) (by (with_reducible repeat (first | refine blk_drewN ?_ _ | refine blk_drew ?_ | refine blk_alloc ?_ _)); exact BK382.out)) : gb382 ≠ gb398)); have n10_ := Aside0.mk ((by rw [hg]; exact Nat.ne_of_gt (blk_lt (g := gb382) (o := .cells #[.int .i64 t367, .int .i64 t368, .slice Ao30 t369.length co30, .slice Ao31 t372.length co31] 37 (0, 0)) (by (with_reducible repeat (first | refine blk_drewN ?_ _ | refine blk_drew ?_ | refine blk_alloc ?_ _)); exact BK382.out)) : gb398 ≠ gb382)); have n11_ := Aside0.mk ((by rw [hg]; exact Nat.ne_of_lt (blk_lt (g := gb383) (o := .cells #[.int .i64 t375, .bool t376, .bool t377, .bool t378] 39 (0, 0)) (by (with_reducible repeat (first | refine blk_drewN ?_ _ | refine blk_drew ?_ | refine blk_alloc ?_ _)); exact BK383.out)) : gb383 ≠ gb398)); have n12_ := Aside0.mk ((by rw [hg]; exact Nat.ne_of_gt (blk_lt (g := gb383) (o := .cells #[.int .i64 t375, .bool t376, .bool t377, .bool t378] 39 (0, 0)) (by (with_reducible repeat (first | refine blk_drewN ?_ _ | refine blk_drew ?_ | refine blk_alloc ?_ _)); exact BK383.out)) : gb398 ≠ gb383)); have n13_ := Aside0.mk ((by rw [hg]; exact Nat.ne_of_lt (blk_lt (g := gb384) (o := .cells #[.int .i64 t379, .int .i64 t380, .int .i64 t381] 34 (0, 0)) (by (with_reducible repeat (first | refine blk_drewN ?_ _ | refine blk_drew ?_ | refine blk_alloc ?_ _)); exact BK384.out)) : gb384 ≠ gb398)); have n14_ := Aside0.mk ((by rw [hg]; exact Nat.ne_of_gt (blk_lt (g := gb384) (o := .cells #[.int .i64 t379, .int .i64 t380, .int .i64 t381] 34 (0, 0)) (by (with_reducible repeat (first | refine blk_drewN ?_ _ | refine blk_drew ?_ | refine blk_alloc ?_ _)); exact BK384.out)) : gb398 ≠ gb384)); clear HO371; clear HO374; clear BK382; clear BK383; clear BK384; clear HB; have HO371 := n0_; have HO374 := n1_; have BK382 := n2_; have BK383 := n3_; have BK384 := n4_; have HB := n5_; have BK398 := n6_; have GW398 := n7_; have GE398 := n8_; have NB382_398 := n9_; have NB398_382 := n10_; have NB383_398 := n11_; have NB398_383 := n12_; have NB384_398 := n13_; have NB398_384 := n14_; clear n0_ n1_ n2_ n3_ n4_ n5_ n6_ n7_ n8_ n9_ n10_ n11_ n12_ n13_ n14_; clear hb hbox hg; have hnb46 := NB398_382.out; have hnc46 := NB382_398.out; have hnb47 := NB398_383.out; have hnc47 := NB383_398.out; have hnb48 := NB398_384.out; have hnc48 := NB384_398.out; have hcz49_0 : w45.cell? ⟨gb398, 0, none⟩ = some (.int .i64 0) := (blk_cell BK398.out 0).trans rfl; have hcz49_1 : w45.cell? ⟨gb398, 1, none⟩ = some (.int .i64 0) := (blk_cell BK398.out 1).trans rfl; have hcz49_2 : w45.cell? ⟨gb398, 2, none⟩ = some (.int .i64 0) := (blk_cell BK398.out 2).trans rfl; have hfz49_0 := blk_frozen BK398.out 0; have hfz49_1 := blk_frozen BK398.out 1; have hfz49_2 := blk_frozen BK398.out 2; have hcz50_0 : w45.cell? ⟨gb382, 0, none⟩ = some (.int .i64 t367) := (blk_cell BK382.out 0).trans rfl; have hcz50_1 : w45.cell? ⟨gb382, 1, none⟩ = some (.int .i64 t368) := (blk_cell BK382.out 1).trans rfl; have hcz50_2 : w45.cell? ⟨gb382, 2, none⟩ = some (.slice Ao30 t369.length co30) := (blk_cell BK382.out 2).trans rfl; have hcz50_3 : w45.cell? ⟨gb382, 3, none⟩ = some (.slice Ao31 t372.length co31) := (blk_cell BK382.out 3).trans rfl; have hfz50_0 := blk_frozen BK382.out 0; have hfz50_1 := blk_frozen BK382.out 1; have hfz50_2 := blk_frozen BK382.out 2; have hfz50_3 := blk_frozen BK382.out 3; have hcz51_0 : w45.cell? ⟨gb383, 0, none⟩ = some (.int .i64 t375) := (blk_cell BK383.out 0).trans rfl; have hcz51_1 : w45.cell? ⟨gb383, 1, none⟩ = some (.bool t376) := (blk_cell BK383.out 1).trans rfl; have hcz51_2 : w45.cell? ⟨gb383, 2, none⟩ = some (.bool t377) := (blk_cell BK383.out 2).trans rfl; have hcz51_3 : w45.cell? ⟨gb383, 3, none⟩ = some (.bool t378) := (blk_cell BK383.out 3).trans rfl; have hfz51_0 := blk_frozen BK383.out 0; have hfz51_1 := blk_frozen BK383.out 1; have hfz51_2 := blk_frozen BK383.out 2; have hfz51_3 := blk_frozen BK383.out 3; have hcz52_0 : w45.cell? ⟨gb384, 0, none⟩ = some (.int .i64 t379) := (blk_cell BK384.out 0).trans rfl; have hcz52_1 : w45.cell? ⟨gb384, 1, none⟩ = some (.int .i64 t380) := (blk_cell BK384.out 1).trans rfl; have hcz52_2 : w45.cell? ⟨gb384, 2, none⟩ = some (.int .i64 t381) := (blk_cell BK384.out 2).trans rfl; have hfz52_0 := blk_frozen BK384.out 0; have hfz52_1 := blk_frozen BK384.out 1; have hfz52_2 := blk_frozen BK384.out 2) | (go_at_call 44; (with_reducible refine (impl_HeadOk.calls k t367 t368 _ _ t369 _ _ t372 t375 t376 t377 t378 t379 t380 t381 true _ ?side1 ?side2 ?side3 ?side4 A15.out).mono ?_); (case side1 => refine (Kd.R_reads' (e := 3) (base := w.heap.size) (ok := fun k_ => some k_ ≠ (.slice Ao31 t372.length co31 : Value).ownBlock) (n := t369.length) (c := co30) ?_).2.2; exact (by (with_reducible repeat (first | apply Kd.R_alloc | apply Kd.R_drewN | apply Kd.R_drew)); exact (Kd.R_mono (Kd.R_far (p := ⟨gb398, 2, none⟩) (Kd.R_far (p := ⟨gb398, 1, none⟩) (Kd.R_far (p := ⟨gb398, 0, none⟩) (Kd.R_types HO371.out BK398.out (by decide)) (fun _ hk => hk.2) (.int .i64 t393)) (fun _ hk => hk.2) (.int .i64 t394)) (fun _ hk => hk.2) (.int .i64 t395)) (fun _ h_ => h_.1)))); (case side2 => exact (Kd.R_reads' HO371.out).2.1); (case side3 => refine (Kd.R_reads' (e := 3) (base := w.heap.size) (ok := fun k_ => some k_ ≠ (.slice Ao30 t369.length co30 : Value).ownBlock) (n := t372.length) (c := co31) ?_).2.2; exact (by (with_reducible repeat (first | apply Kd.R_alloc | apply Kd.R_drewN | apply Kd.R_drew)); exact (Kd.R_mono (Kd.R_far (p := ⟨gb398, 2, none⟩) (Kd.R_far (p := ⟨gb398, 1, none⟩) (Kd.R_far (p := ⟨gb398, 0, none⟩) (Kd.R_types HO374.out BK398.out (by decide)) (fun _ hk => hk.2) (.int .i64 t393)) (fun _ hk => hk.2) (.int .i64 t394)) (fun _ hk => hk.2) (.int .i64 t395)) (fun _ h_ => h_.1)))); (case side4 => exact (Kd.R_reads' HO374.out).2.1); rintro e w53 ⟨rfl, hb⟩; have n0_ := Aside0.mk (Kd.R_below (by (with_reducible repeat (first | apply Kd.R_alloc | apply Kd.R_drewN | apply Kd.R_drew)); exact (Kd.R_mono (Kd.R_far (p := ⟨gb398, 2, none⟩) (Kd.R_far (p := ⟨gb398, 1, none⟩) (Kd.R_far (p := ⟨gb398, 0, none⟩) (Kd.R_types HO371.out BK398.out (by decide)) (fun _ hk => hk.2) (.int .i64 t393)) (fun _ hk => hk.2) (.int .i64 t394)) (fun _ hk => hk.2) (.int .i64 t395)) (fun _ h_ => h_.1))) hb); have n1_ := Aside0.mk (Kd.R_below (by (with_reducible repeat (first | apply Kd.R_alloc | apply Kd.R_drewN | apply Kd.R_drew)); exact (Kd.R_mono (Kd.R_far (p := ⟨gb398, 2, none⟩) (Kd.R_far (p := ⟨gb398, 1, none⟩) (Kd.R_far (p := ⟨gb398, 0, none⟩) (Kd.R_types HO374.out BK398.out (by decide)) (fun _ hk => hk.2) (.int .i64 t393)) (fun _ hk => hk.2) (.int .i64 t394)) (fun _ hk => hk.2) (.int .i64 t395)) (fun _ h_ => h_.1))) hb); have n2_ := Aside0.mk (blk_below (g := gb382) (o := .cells #[.int .i64 t367, .int .i64 t368, .slice Ao30 t369.length co30, .slice Ao31 t372.length co31] 37 (0, 0)) (by (with_reducible repeat (first | refine blk_drewN ?_ _ | refine blk_drew ?_ | refine blk_alloc ?_ _)); refine blk_far ?_ NB382_398.out _; (with_reducible repeat (first | refine blk_drewN ?_ _ | refine blk_drew ?_ | refine blk_alloc ?_ _)); refine blk_far ?_ NB382_398.out _; (with_reducible repeat (first | refine blk_drewN ?_ _ | refine blk_drew ?_ | refine blk_alloc ?_ _)); refine blk_far ?_ NB382_398.out _; (with_reducible repeat (first | refine blk_drewN ?_ _ | refine blk_drew ?_ | refine blk_alloc ?_ _)); exact BK382.out) hb); have n3_ := Aside0.mk (blk_below (g := gb383) (o := .cells #[.int .i64 t375, .bool t376, .bool t377, .bool t378] 39 (0, 0)) (by (with_reducible repeat (first | refine blk_drewN ?_ _ | refine blk_drew ?_ | refine blk_alloc ?_ _)); refine blk_far ?_ NB383_398.out _; (with_reducible repeat (first | refine blk_drewN ?_ _ | refine blk_drew ?_ | refine blk_alloc ?_ _)); refine blk_far ?_ NB383_398.out _; (with_reducible repeat (first | refine blk_drewN ?_ _ | refine blk_drew ?_ | refine blk_alloc ?_ _)); refine blk_far ?_ NB383_398.out _; (with_reducible repeat (first | refine blk_drewN ?_ _ | refine blk_drew ?_ | refine blk_alloc ?_ _)); exact BK383.out) hb); have n4_ := Aside0.mk (blk_below (g := gb384) (o := .cells #[.int .i64 t379, .int .i64 t380, .int .i64 t381] 34 (0, 0)) (by (with_reducible repeat (first | refine blk_drewN ?_ _ | refine blk_drew ?_ | refine blk_alloc ?_ _)); refine blk_far ?_ NB384_398.out _; (with_reducible repeat (first | refine blk_drewN ?_ _ | refine blk_drew ?_ | refine blk_alloc ?_ _)); refine blk_far ?_ NB384_398.out _; (with_reducible repeat (first | refine blk_drewN ?_ _ | refine blk_drew ?_ | refine blk_alloc ?_ _)); refine blk_far ?_ NB384_398.out _; (with_reducible repeat (first | refine blk_drewN ?_ _ | refine blk_drew ?_ | refine blk_alloc ?_ _)); exact BK384.out) hb); have n5_ := Aside0.mk (blk_below (g := gb398) (o := .cells #[.int .i64 t393, .int .i64 t394, .int .i64 t395] 34 (0, 0)) (by (with_reducible repeat (first | refine blk_drewN ?_ _ | refine blk_drew ?_ | refine blk_alloc ?_ _)); refine blk_put (cs := #[.int .i64 t393, .int .i64 t394, .int .i64 0]) ?_ 2 _ rfl; (with_reducible repeat (first | refine blk_drewN ?_ _ | refine blk_drew ?_ | refine blk_alloc ?_ _)); refine blk_put (cs := #[.int .i64 t393, .int .i64 0, .int .i64 0]) ?_ 1 _ rfl; (with_reducible repeat (first | refine blk_drewN ?_ _ | refine blk_drew ?_ | refine blk_alloc ?_ _)); refine blk_put (cs := #[.int .i64 0, .int .i64 0, .int .i64 0]) ?_ 0 _ rfl; (with_reducible repeat (first | refine blk_drewN ?_ _ | refine blk_drew ?_ | refine blk_alloc ?_ _)); exact BK398.out) hb); have n6_ := Aside0.mk (below_step (by repeat (first | (with_reducible first | exact HB.out | apply below_alloc | apply pw_below_drewN | apply below_drew1 | refine below_set ?_ GE382.out | refine below_set ?_ GE383.out | refine below_set ?_ GE384.out | refine below_set ?_ GE398.out) | exact HB.out)) hb); clear HO371; clear HO374; clear BK382; clear BK383; clear BK384; clear BK398; clear HB; have HO371 := n0_; have HO374 := n1_; have BK382 := n2_; have BK383 := n3_; have BK384 := n4_; have BK398 := n5_; have HB := n6_; clear n0_ n1_ n2_ n3_ n4_ n5_ n6_; (try clear hb); (try clear hb2); (try clear hk); (try clear hi); have hcz54_0 : w53.cell? ⟨gb398, 0, none⟩ = some (.int .i64 t393) := (blk_cell BK398.out 0).trans rfl; have hcz54_1 : w53.cell? ⟨gb398, 1, none⟩ = some (.int .i64 t394) := (blk_cell BK398.out 1).trans rfl; have hcz54_2 : w53.cell? ⟨gb398, 2, none⟩ = some (.int .i64 t395) := (blk_cell BK398.out 2).trans rfl; have hfz54_0 := blk_frozen BK398.out 0; have hfz54_1 := blk_frozen BK398.out 1; have hfz54_2 := blk_frozen BK398.out 2; have hcz55_0 : w53.cell? ⟨gb384, 0, none⟩ = some (.int .i64 t379) := (blk_cell BK384.out 0).trans rfl; have hcz55_1 : w53.cell? ⟨gb384, 1, none⟩ = some (.int .i64 t380) := (blk_cell BK384.out 1).trans rfl; have hcz55_2 : w53.cell? ⟨gb384, 2, none⟩ = some (.int .i64 t381) := (blk_cell BK384.out 2).trans rfl; have hfz55_0 := blk_frozen BK384.out 0; have hfz55_1 := blk_frozen BK384.out 1; have hfz55_2 := blk_frozen BK384.out 2))
                            go_ret
                            exact ⟨by first | rfl | (simp [errW_none, errW_some] <;> rfl) | (simp [*, errW_none, errW_some] <;> rfl), by repeat (first | (with_reducible first | exact HB.out | apply below_alloc | apply pw_below_drewN | apply below_drew1 | refine below_set ?_ GE382.out | refine below_set ?_ GE383.out | refine below_set ?_ GE384.out | refine below_set ?_ GE398.out) | exact HB.out)⟩
                          · rw [if_neg c22] at H
                            exact absurd H (by simp)
                        · rw [if_neg c21] at H
                          exact absurd H (by simp)
                      · rw [if_neg c20] at H
                        have c20b0 : (t396 == (t386.size : Int)) = false := beq_eq_false_iff_ne.mpr c20
                        have c20b1 : (t396 != (t386.size : Int)) = true := bne_iff_ne.mpr c20
                        exact absurd (H.trans (congrArg some hr_.out)) (by simp)
                    · rw [if_neg c19] at H
                      have c19b0 : (t393 == t379 && (t394 == t380 && (t395 == t381))) = false := by simpa using c19
                      (try (have c19b1 : decide (t393 = t379 && (t394 == t380 && (t395 == t381))) = false := by simpa using c19))
                      (try (have c19b2 : (t393 == t379 && (t394 == t380 && (t395 == t381))) = false := by simpa using c19))
                      (try (have c19b3 : ¬ (t393 = t379 && (t394 == t380 && (t395 == t381))) := by simpa using c19))
                      clear c19
                      exact absurd (H.trans (congrArg some hr_.out)) (by simp)
                  · rw [if_neg c18] at H
                    have c18b0 : (t391.toList == (t386 ++ t385).toList) = false := beq_eq_false_iff_ne.mpr c18
                    have c18b1 : (t391.toList != (t386 ++ t385).toList) = true := bne_iff_ne.mpr c18
                    exact absurd (H.trans (congrArg some hr_.out)) (by simp)
                · rw [if_neg c17] at H
                  have c17b0 : (t390 == 5) = false := beq_eq_false_iff_ne.mpr c17
                  have c17b1 : (t390 != 5) = true := bne_iff_ne.mpr c17
                  exact absurd (H.trans (congrArg some hr_.out)) (by simp)
              · replace c16 := Bool.eq_false_iff.mpr c16
                subst c16
                have H1 : (some false) = some r := by rw [if_neg (show ¬ (false = true) by decide)] at H; exact H
                clear H
                have H := H1
                clear H1
                exact absurd (H.trans (congrArg some hr_.out)) (by simp)
            · replace c14 := Bool.eq_false_iff.mpr c14
              subst c14
              have H1 : (some false) = some r := by rw [if_neg (show ¬ (false = true) by decide)] at H; exact H
              clear H
              have H := H1
              clear H1
              exact absurd (H.trans (congrArg some hr_.out)) (by simp)
          · replace c13 := Bool.eq_false_iff.mpr c13
            subst c13
            have H1 : (some false) = some r := by rw [if_neg (show ¬ (false = true) by decide)] at H; exact H
            clear H
            have H := H1
            clear H1
            exact absurd (H.trans (congrArg some hr_.out)) (by simp)
        · replace c12 := Bool.eq_false_iff.mpr c12
          subst c12
          have H1 : (some false) = some r := by rw [if_neg (show ¬ (false = true) by decide)] at H; exact H
          clear H
          have H := H1
          clear H1
          exact absurd (H.trans (congrArg some hr_.out)) (by simp)
      · replace c11 := Bool.eq_false_iff.mpr c11
        subst c11
        have H1 : (some false) = some r := by rw [if_neg (show ¬ (false = true) by decide)] at H; exact H
        clear H
        have H := H1
        clear H1
        exact absurd (H.trans (congrArg some hr_.out)) (by simp)
    · rw [if_neg c7] at H
      exact absurd H (by simp)
def laws_FnHeads.Pure : Prop := ∀ (l0 : List Int), l0.length ≤ maxLen → l0.length * 1 ≤ 140737488351232 → (∀ x ∈ l0, (Lit.int .u8 x).wf = true) → ∃ k, laws_FnHeads.f k l0 = some true
theorem laws_FnHeads.walk (P : laws_FnHeads.Pure) (a0 : Option Addr) (len0 cap0 : Nat) (z0 : List Int) (w : World) (w0 : (a0 = none ∧ len0 = 0 ∧ cap0 = 0 ∧ z0 = []) ∨ ∃ x, a0 = some x ∧ len0 ≤ cap0 ∧ cap0 ≤ maxLen ∧ z0.length = cap0 ∧ (∀ i, i < z0.length → w.cell? (x.add i) = some (.int .u8 (z0.getD i 0))) ∧ ∀ n ∈ z0, (Lit.int .u8 n).wf = true) (y0 : len0 * 1 ≤ 140737488351232) :
    Calls Try.prog 12 #[.slice a0 len0 cap0] w fun e w' => e = .returned (.bool true) ∧ Below w.heap.size w w' := by
  obtain ⟨l0, rfl, hr0, hm0, hw0, hc0⟩ := ReadsInt.ofRowC w0
  obtain ⟨k, h⟩ := P l0 hm0 y0 hw0
  refine (laws_FnHeads.calls k _ _ l0 true w (Kd.C_of_reads (d := (0 : Int)) (h1 := fun _ => rfl) hr0) hc0 h ⟨rfl⟩).mono ?_
  rintro e w' ⟨rfl, hd⟩
  exact ⟨rfl, hd⟩
end Go.Proofs.Ytibnnodjockcbaa.QFnHeads
