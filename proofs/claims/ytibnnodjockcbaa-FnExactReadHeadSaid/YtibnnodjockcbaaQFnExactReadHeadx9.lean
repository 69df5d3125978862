/- The machine side of a law's functions, written by this session's own program (a variant of the print) and shortened by it; Lean checks it. -/
import Derived.Test.YtibnnodjockcbaaQFnExactReadHeadx0
import Derived.Test.YtibnnodjockcbaaQFnExactReadHeadx5
import Derived.Test.YtibnnodjockcbaaQFnExactReadHeadx6
import Derived.Test.YtibnnodjockcbaaQFnExactReadHeadx7
import Derived.Test.YtibnnodjockcbaaQFnExactReadHeadx8
namespace Go.Proofs.Ytibnnodjockcbaa.QFnExactReadHead
open Go.RowKit Go.Proofs.YtibnnodjockcbaaW.PrintWords Go.Proofs.YtibnnodjockcbaaW.PrintLast Go.Proofs.YtibnnodjockcbaaW.PrintMore
attribute [local go_sem] z41 z81 zc1 zb1 z21 z11 z61 z51
set_option linter.unusedVariables false
set_option linter.unusedSimpArgs false
mutual
def impl_scan_ue.j1 : Nat → Int → ByteArray → Int → Bool → Option (Int × ByteArray × Int × Bool)
 | 0, _, _, _, _ => none
 | k + 1, x3, x1000, x1001, x1002 => if x3 > 20 then ((impl_scan_fix.f k x1000 x1001 true (wrap64 ((wrap64 (2 * x3)) + 1))).bind fun bt213 => (if bt213.2.2.2 = true then (some (0, bt213.2.1, bt213.2.2.1, true)) else (if (wrap64 (bt213.1 - 1)) > 1000000 then (some (0, bt213.2.1, bt213.2.2.1, true)) else (some (wrap64 (bt213.1 - 1), bt213.2.1, bt213.2.2.1, bt213.2.2.2))))) else ((impl_scan_fix.f k x1000 x1001 x1002 (wrap64 ((wrap64 (2 * x3)) + 1))).bind fun bt217 => (if bt217.2.2.2 = true then (some (0, bt217.2.1, bt217.2.2.1, true)) else (if (wrap64 (bt217.1 - 1)) > 1000000 then (some (0, bt217.2.1, bt217.2.2.1, true)) else (some (wrap64 (bt217.1 - 1), bt217.2.1, bt217.2.2.1, bt217.2.2.2)))))
def impl_scan_ue.l0 : Nat → Int → ByteArray → Int → Bool → Option (Int × ByteArray × Int × Bool)
 | 0, _, _, _, _ => none
 | k + 1, x3, x1000, x1001, x1002 => if x1002 = true then (impl_scan_ue.j1 k x3 x1000 x1001 x1002) else (if (wrap64 (x1001 + x3)) < (x1000.size : Int) then (if 0 ≤ (wrap64 (x1001 + x3)) then (if (bt x1000 (wrap64 (x1001 + x3))) = 48 then (impl_scan_ue.l0 k (wrap64 (x3 + 1)) x1000 x1001 x1002) else (impl_scan_ue.j1 k x3 x1000 x1001 x1002)) else (none)) else (impl_scan_ue.j1 k x3 x1000 x1001 x1002))
end
def impl_scan_ue.f (k : Nat) (s0_0 : ByteArray) (s0_1 : Int) (s0_2 : Bool) : Option (Int × ByteArray × Int × Bool) := impl_scan_ue.l0 k 0 s0_0 s0_1 s0_2
theorem impl_scan_ue.mono_l : ∀ k, (∀ y0 y1 y2 y3, LeO (impl_scan_ue.j1 k y0 y1 y2 y3) (impl_scan_ue.j1 (k + 1) y0 y1 y2 y3)) ∧ (∀ y0 y1 y2 y3, LeO (impl_scan_ue.l0 k y0 y1 y2 y3) (impl_scan_ue.l0 (k + 1) y0 y1 y2 y3))
 | 0 => ⟨fun _ _ _ _ r h => by simp [impl_scan_ue.j1] at h, fun _ _ _ _ r h => by simp [impl_scan_ue.l0] at h⟩
 | k + 1 => by
  obtain ⟨ih0, ih1⟩ := impl_scan_ue.mono_l k
  refine ⟨?_, ?_⟩
  ·intro y0 y1 y2 y3
   unfold impl_scan_ue.j1
   repeat' first
   | (with_reducible exact ih0 _ _ _ _)
   | (with_reducible exact ih1 _ _ _ _)
   | (with_reducible exact impl_scan_fix.mono _ _ _ _ _)
   | (with_reducible exact LeO.refl _)
   | (with_reducible exact LeO.none _)
   | (with_reducible refine LeO.ite ?_ ?_)
   | (with_reducible refine LeO.bind ?_ (fun _ => ?_))
   | exact ih0 _ _ _ _
   | exact ih1 _ _ _ _
   | exact impl_scan_fix.mono _ _ _ _ _
   | exact LeO.none _
   | refine LeO.ite ?_ ?_
   | refine LeO.bind ?_ (fun _ => ?_)
  ·intro y0 y1 y2 y3
   unfold impl_scan_ue.l0
   repeat' first
   | (with_reducible exact ih0 _ _ _ _)
   | (with_reducible exact ih1 _ _ _ _)
   | (with_reducible exact impl_scan_fix.mono _ _ _ _ _)
   | (with_reducible exact LeO.refl _)
   | (with_reducible exact LeO.none _)
   | (with_reducible refine LeO.ite ?_ ?_)
   | (with_reducible refine LeO.bind ?_ (fun _ => ?_))
   | exact ih0 _ _ _ _
   | exact ih1 _ _ _ _
   | exact impl_scan_fix.mono _ _ _ _ _
   | exact LeO.none _
   | refine LeO.ite ?_ ?_
   | refine LeO.bind ?_ (fun _ => ?_)
theorem impl_scan_ue.mono : ∀ a0 a1 a2 k, LeO (impl_scan_ue.f k a0 a1 a2) (impl_scan_ue.f (k + 1) a0 a1 a2) := by
 intro a0 a1 a2 k
 obtain ⟨ih0, ih1⟩ := impl_scan_ue.mono_l k
 unfold impl_scan_ue.f
 repeat' first
   | (with_reducible exact ih0 _ _ _ _)
   | (with_reducible exact ih1 _ _ _ _)
   | (with_reducible exact impl_scan_fix.mono _ _ _ _ _)
   | (with_reducible exact LeO.refl _)
   | (with_reducible exact LeO.none _)
   | (with_reducible refine LeO.ite ?_ ?_)
   | (with_reducible refine LeO.bind ?_ (fun _ => ?_))
   | exact ih0 _ _ _ _
   | exact ih1 _ _ _ _
   | exact impl_scan_fix.mono _ _ _ _ _
   | exact LeO.none _
   | refine LeO.ite ?_ ?_
   | refine LeO.bind ?_ (fun _ => ?_)
set_option maxHeartbeats 8000000 in
set_option maxRecDepth 100000 in
theorem impl_scan_ue.calls (k : Nat) (g : Nat) (s0_0 : ByteArray) (s0_1 : Int) (s0_2 : Bool) (r1 : Int) (r2 : ByteArray) (r3 : Int) (r4 : Bool) (w0 w : World) (hI : IsS73 w0 w g s0_0 s0_1 s0_2) (hB : Below w0.heap.size w0 w) (h : impl_scan_ue.f k s0_0 s0_1 s0_2 = some (r1, r2, r3, r4)) :
  Calls Try.prog 63 #[.pointer (some ⟨g, 0, none⟩)] w fun e w' => e = .returned (.int .i64 r1) ∧ IsS73 w0 w' g r2 r3 r4 ∧ Below w0.heap.size w0 w' ∧ KeepBut w w' g none := by
 have HI0 := Aside0.mk hI
 have HK := Aside0.mk (KeepBut.refl w g none)
 have HL := Aside0.mk hB.size
 clear hI
 have HW0 := Aside0.mk hB.size
 have HB := Aside0.mk hB
 clear hB
 have H : (impl_scan_ue.l0 k 0 s0_0 s0_1 s0_2) = some (r1, r2, r3, r4) := h
 clear h
 have HC2 := Aside0.mk H
 clear H
 go_enter Try.func63, Try.ntmps63
 go_upto_block 0 with (fail)
 repeat (go_quiet (fail); go_upto_block 0 with (fail))
 go_cut [3] (fun v3 wc => ∃ (kq : Nat) (x3_1 : Int), v3 = .int .i64 x3_1 ∧ Aside0 (impl_scan_ue.j1 kq x3_1 s0_0 s0_1 s0_2 = some (r1, r2, r3, r4)) ∧ Aside0 (kq ≤ k) ∧ Aside0 (IsS73 w0 wc g s0_0 s0_1 s0_2) ∧ Aside0 (KeepBut w wc g none) ∧ Aside0 (Below w0.heap.size w0 wc))
 case first =>
  have H := HC2.out
  clear HC2
  have H' := Aside0.mk H
  clear H
  go_wp2
  repeat (go_quiet (fail); try go_wp2)
  go_loopg [3] k (fun kq v3 w' => ∃ (x3_1 : Int), v3 = .int .i64 x3_1 ∧ Aside0 (impl_scan_ue.l0 kq x3_1 s0_0 s0_1 s0_2 = some (r1, r2, r3, r4)) ∧ Aside0 (kq ≤ k) ∧ Aside0 (IsS73 w0 w' g s0_0 s0_1 s0_2) ∧ Aside0 (KeepBut w w' g none) ∧ Aside0 (Below w0.heap.size w0 w'))
  case atStart => exact ⟨(0), (by first | rfl | (simp; done) | (simp [*]; done)), H', ⟨Nat.le_refl _⟩, ⟨by repeat (first | (with_reducible first | exact HI0.out | apply IsS73.alloc | apply IsS73.drewN | apply IsS73.drew | apply IsS73.set_0 | apply IsS73.set_1 | apply IsS73.set_2) | exact HI0.out)⟩, ⟨by repeat (first | (with_reducible first | exact HK.out | apply KeepBut.set_ | apply zq | apply zt | apply zp) | exact HK.out)⟩, ⟨by repeat (first | (with_reducible first | exact HB.out | apply z7 | apply z1 | apply z6 | refine z2 ?_ (IsS73.ge HI0.out)) | exact HB.out)⟩⟩
  case round =>
   clear H'
   try clear p2
   obtain ⟨x3_1, rfl, HA, HK1, HI0, HK, HB⟩ := hrel
   cases gk with
   | zero => exact absurd HA.out (by simp [impl_scan_ue.l0])
   | succ k1 =>
    have H := HA.out
    clear HA
    simp only [impl_scan_ue.l0] at H
    by_cases c3 : s0_2 = true
    ·subst c3
     have H1 : (impl_scan_ue.j1 k1 x3_1 s0_0 s0_1 true) = some (r1, r2, r3, r4) := by rw [if_pos rfl] at H; exact H
     clear H
     have H := H1
     clear H1
     have H' := Aside0.mk H
     clear H
     obtain ⟨HGz4, hgz4⟩ := HI0.out
     have hcz4_0 := cellS73_0 HGz4
     have hcz4_1 := cellS73_1 HGz4
     have hcz4_2 := cellS73_2 HGz4
     have hfz4_0 := z9 HGz4 0
     have hfz4_1 := z9 HGz4 1
     have hfz4_2 := z9 HGz4 2
     clear HGz4 hgz4
     go_wp2
     repeat (go_quiet (fail); try go_wp2)
     go_meet
     case rel => exact ⟨_, (x3_1), (by first | rfl | (simp; done) | (simp [*]; done)), H', ⟨by have := HK1.out; first | omega | exact Nat.le_refl _⟩, ⟨by repeat (first | (with_reducible first | exact HI0.out | apply IsS73.alloc | apply IsS73.drewN | apply IsS73.drew | apply IsS73.set_0 | apply IsS73.set_1 | apply IsS73.set_2) | exact HI0.out)⟩, ⟨by repeat (first | (with_reducible first | exact HK.out | apply KeepBut.set_ | apply zq | apply zt | apply zp) | exact HK.out)⟩, ⟨by repeat (first | (with_reducible first | exact HB.out | apply z7 | apply z1 | apply z6 | refine z2 ?_ (IsS73.ge HI0.out)) | exact HB.out)⟩⟩
    ·replace c3 := Bool.eq_false_iff.mpr c3
     subst c3
     have H1 : (if (wrap64 (s0_1 + x3_1)) < (s0_0.size : Int) then (if 0 ≤ (wrap64 (s0_1 + x3_1)) then (if (bt s0_0 (wrap64 (s0_1 + x3_1))) = 48 then (impl_scan_ue.l0 k1 (wrap64 (x3_1 + 1)) s0_0 s0_1 false) else (impl_scan_ue.j1 k1 x3_1 s0_0 s0_1 false)) else (none)) else (impl_scan_ue.j1 k1 x3_1 s0_0 s0_1 false)) = some (r1, r2, r3, r4) := by rw [if_neg (show ¬ (false = true) by decide)] at H; exact H
     clear H
     have H := H1
     clear H1
     by_cases c5 : (wrap64 (s0_1 + x3_1)) < (s0_0.size : Int)
     ·rw [if_pos c5] at H
      have c5b0 : decide ((wrap64 (s0_1 + x3_1)) < (s0_0.size : Int)) = true := decide_eq_true c5
      clear c5
      (first | rw [c5b0] | (simp only [ze, zf]; rw [c5b0]) | skip)
      obtain ⟨ji6, hji6⟩ : ∃ j_ : Int, (wrap64 (s0_1 + x3_1)) = j_ := ⟨_, rfl⟩
      replace H : (if 0 ≤ (ji6) then (if (bt s0_0 (ji6)) = 48 then (impl_scan_ue.l0 k1 (wrap64 (x3_1 + 1)) s0_0 s0_1 false) else (impl_scan_ue.j1 k1 x3_1 s0_0 s0_1 false)) else (none)) = some (r1, r2, r3, r4) := by first | (rw [hji6] at H; exact H) | (simp only [hji6] at H ⊢; exact H)
      (try rw [hji6] at c5b0)
      have hji6w : (IntKind.i64.wrap (s0_1 + x3_1)) = ji6 := (ze _).trans hji6
      by_cases c7 : 0 ≤ (ji6)
      ·rw [if_pos c7] at H
       have c7b0 : decide (0 ≤ (ji6)) = true := decide_eq_true c7
       clear c7
       by_cases c9 : (bt s0_0 (ji6)) = 48
       ·rw [if_pos c9] at H
        have c9b0 : ((bt s0_0 (ji6)) == 48) = true := beq_iff_eq.mpr c9
        have c9b1 : ((bt s0_0 (ji6)) != 48) = false := bne_eq_false_iff_eq.mpr c9
        clear c9
        have H' := Aside0.mk H
        clear H
        obtain ⟨HGz10, hgz10⟩ := HI0.out
        have hcz10_0 := cellS73_0 HGz10
        have hcz10_1 := cellS73_1 HGz10
        have hcz10_2 := cellS73_2 HGz10
        have hfz10_0 := z9 HGz10 0
        have hfz10_1 := z9 HGz10 1
        have hfz10_2 := z9 HGz10 2
        clear HGz10 hgz10
        have p8 : 0 ≤ ((ji6) : Int) := of_decide_eq_true (by first | (with_reducible assumption) | assumption)
        have q8 : (ji6) < (s0_0.size : Int) := of_decide_eq_true (by first | (with_reducible assumption) | assumption)
        have hx8 := ze1 s0_0 (ji6)
        replace p8 := eq_true p8
        replace q8 := eq_true q8
        go_wp2
        repeat (go_quiet (fail); try go_wp2)
        go_roundg k1
        case measure => have := HK1.out; omega
        case rel => exact ⟨(wrap64 (x3_1 + 1)), (by first | rfl | (simp; done) | (simp [*]; done)), H', ⟨by have := HK1.out; omega⟩, ⟨by repeat (first | (with_reducible first | exact HI0.out | apply IsS73.alloc | apply IsS73.drewN | apply IsS73.drew | apply IsS73.set_0 | apply IsS73.set_1 | apply IsS73.set_2) | exact HI0.out)⟩, ⟨by repeat (first | (with_reducible first | exact HK.out | apply KeepBut.set_ | apply zq | apply zt | apply zp) | exact HK.out)⟩, ⟨by repeat (first | (with_reducible first | exact HB.out | apply z7 | apply z1 | apply z6 | refine z2 ?_ (IsS73.ge HI0.out)) | exact HB.out)⟩⟩
       ·rw [if_neg c9] at H
        have c9b0 : ((bt s0_0 (ji6)) == 48) = false := beq_eq_false_iff_ne.mpr c9
        have c9b1 : ((bt s0_0 (ji6)) != 48) = true := bne_iff_ne.mpr c9
        have H' := Aside0.mk H
        clear H
        obtain ⟨HGz11, hgz11⟩ := HI0.out
        have hcz11_0 := cellS73_0 HGz11
        have hcz11_1 := cellS73_1 HGz11
        have hcz11_2 := cellS73_2 HGz11
        have hfz11_0 := z9 HGz11 0
        have hfz11_1 := z9 HGz11 1
        have hfz11_2 := z9 HGz11 2
        clear HGz11 hgz11
        have p8 : 0 ≤ ((ji6) : Int) := of_decide_eq_true (by first | (with_reducible assumption) | assumption)
        have q8 : (ji6) < (s0_0.size : Int) := of_decide_eq_true (by first | (with_reducible assumption) | assumption)
        have hx8 := ze1 s0_0 (ji6)
        replace p8 := eq_true p8
        replace q8 := eq_true q8
        go_wp2
        repeat (go_quiet (fail); try go_wp2)
        go_meet
        case rel => exact ⟨_, (x3_1), (by first | rfl | (simp; done) | (simp [*]; done)), H', ⟨by have := HK1.out; first | omega | exact Nat.le_refl _⟩, ⟨by repeat (first | (with_reducible first | exact HI0.out | apply IsS73.alloc | apply IsS73.drewN | apply IsS73.drew | apply IsS73.set_0 | apply IsS73.set_1 | apply IsS73.set_2) | exact HI0.out)⟩, ⟨by repeat (first | (with_reducible first | exact HK.out | apply KeepBut.set_ | apply zq | apply zt | apply zp) | exact HK.out)⟩, ⟨by repeat (first | (with_reducible first | exact HB.out | apply z7 | apply z1 | apply z6 | refine z2 ?_ (IsS73.ge HI0.out)) | exact HB.out)⟩⟩
      ·rw [if_neg c7] at H
       exact absurd H (by simp)
     ·rw [if_neg c5] at H
      have c5b0 : decide ((wrap64 (s0_1 + x3_1)) < (s0_0.size : Int)) = false := decide_eq_false c5
      clear c5
      (first | rw [c5b0] | (simp only [ze, zf]; rw [c5b0]) | skip)
      have H' := Aside0.mk H
      clear H
      obtain ⟨HGz12, hgz12⟩ := HI0.out
      have hcz12_0 := cellS73_0 HGz12
      have hcz12_1 := cellS73_1 HGz12
      have hcz12_2 := cellS73_2 HGz12
      have hfz12_0 := z9 HGz12 0
      have hfz12_1 := z9 HGz12 1
      have hfz12_2 := z9 HGz12 2
      clear HGz12 hgz12
      go_wp2
      repeat (go_quiet (fail); try go_wp2)
      go_meet
      case rel => exact ⟨_, (x3_1), (by first | rfl | (simp; done) | (simp [*]; done)), H', ⟨by have := HK1.out; first | omega | exact Nat.le_refl _⟩, ⟨by repeat (first | (with_reducible first | exact HI0.out | apply IsS73.alloc | apply IsS73.drewN | apply IsS73.drew | apply IsS73.set_0 | apply IsS73.set_1 | apply IsS73.set_2) | exact HI0.out)⟩, ⟨by repeat (first | (with_reducible first | exact HK.out | apply KeepBut.set_ | apply zq | apply zt | apply zp) | exact HK.out)⟩, ⟨by repeat (first | (with_reducible first | exact HB.out | apply z7 | apply z1 | apply z6 | refine z2 ?_ (IsS73.ge HI0.out)) | exact HB.out)⟩⟩
 case rest =>
  clear HC2
  try clear p2
  try clear c3
  try clear c5
  try clear c5b0
  try clear c6
  try clear p6
  try clear c7
  try clear c7b0
  try clear p8
  try clear q8
  try clear hx8
  try clear c9
  try clear c9b0
  try clear c9b1
  try clear hcz10_0
  try clear hcz10_1
  try clear hcz10_2
  try clear hcz11_0
  try clear hcz11_1
  try clear hcz11_2
  try clear hcz12_0
  try clear hcz12_1
  try clear hcz12_2
  try clear hcz4_0
  try clear hcz4_1
  try clear hcz4_2
  try clear hfz10_0
  try clear hfz10_1
  try clear hfz10_2
  try clear hfz11_0
  try clear hfz11_1
  try clear hfz11_2
  try clear hfz12_0
  try clear hfz12_1
  try clear hfz12_2
  try clear hfz4_0
  try clear hfz4_1
  try clear hfz4_2
  try clear p2
  try clear p8
  try clear q8
  obtain ⟨kq, x3_1, rfl, HA, HJ1, HI0, HK, HB⟩ := hcut
  cases kq with
  | zero => exact absurd HA.out (by simp [impl_scan_ue.j1])
  | succ kj1 =>
   have H := HA.out
   clear HA
   simp only [impl_scan_ue.j1] at H
   by_cases c13 : x3_1 > 20
   ·rw [if_pos c13] at H
    have c13b0 : decide (20 < x3_1) = true := decide_eq_true c13
    clear c13
    replace H := Option.bind_eq_some_iff.mp H
    obtain ⟨⟨t213, t214, t215, t216⟩, A140, H⟩ := H
    replace H : (if t216 = true then (some (0, t214, t215, true)) else (if (wrap64 (t213 - 1)) > 1000000 then (some (0, t214, t215, true)) else (some (wrap64 (t213 - 1), t214, t215, t216)))) = some (r1, r2, r3, r4) := H
    have A14 := Aside0.mk A140
    clear A140
    by_cases c15 : t216 = true
    ·subst c15
     have H1 : (some (0, t214, t215, true)) = some (r1, r2, r3, r4) := by rw [if_pos rfl] at H; exact H
     clear H
     have H := H1
     clear H1
     simp only [Option.some.injEq, Prod.mk.injEq] at H
     obtain ⟨rfl, rfl, rfl, rfl⟩ := H
     obtain ⟨HGz16, hgz16⟩ := HI0.out
     have hcz16_0 := cellS73_0 HGz16
     have hcz16_1 := cellS73_1 HGz16
     have hcz16_2 := cellS73_2 HGz16
     have hfz16_0 := z9 HGz16 0
     have hfz16_1 := z9 HGz16 1
     have hfz16_2 := z9 HGz16 2
     clear HGz16 hgz16
     go_wp2_with (first | (go_at_call 64; (with_reducible refine (impl_scan_fix.calls kj1 g s0_0 s0_1 true (wrap64 ((wrap64 (2 * x3_1)) + 1)) t213 t214 t215 true w0 _ ?side1 ?side2 A14.out).mono ?_); (case side1 => repeat (first | (with_reducible first | exact HI0.out | apply IsS73.alloc | apply IsS73.drewN | apply IsS73.drew | apply IsS73.set_0 | apply IsS73.set_1 | apply IsS73.set_2) | exact HI0.out)); (case side2 => repeat (first | (with_reducible first | exact HB.out | apply z7 | apply z1 | apply z6 | refine z2 ?_ (IsS73.ge HI0.out)) | exact HB.out)); rintro e w17 ⟨rfl, hi, hb, hk⟩; have n0_ := Aside0.mk (KeepBut.trans (by repeat (first | (with_reducible first | exact HK.out | apply KeepBut.set_ | apply zq | apply zt | apply zp) | exact HK.out)) hk (.inl rfl)); have n1_ := Aside0.mk (hb); have n2_ := Aside0.mk (hi); clear HK; clear HB; clear HI0; have HK := n0_; have HB := n1_; have HI0 := n2_; clear n0_ n1_ n2_; (try clear hb); (try clear hb2); (try clear hk); (try clear hi); obtain ⟨HGz18, hgz18⟩ := HI0.out; have hcz18_0 := cellS73_0 HGz18; have hcz18_1 := cellS73_1 HGz18; have hcz18_2 := cellS73_2 HGz18; have hfz18_0 := z9 HGz18 0; have hfz18_1 := z9 HGz18 1; have hfz18_2 := z9 HGz18 2; clear HGz18 hgz18))
     repeat (go_quiet (first | (go_at_call 64; (with_reducible refine (impl_scan_fix.calls kj1 g s0_0 s0_1 true (wrap64 ((wrap64 (2 * x3_1)) + 1)) t213 t214 t215 true w0 _ ?side1 ?side2 A14.out).mono ?_); (case side1 => repeat (first | (with_reducible first | exact HI0.out | apply IsS73.alloc | apply IsS73.drewN | apply IsS73.drew | apply IsS73.set_0 | apply IsS73.set_1 | apply IsS73.set_2) | exact HI0.out)); (case side2 => repeat (first | (with_reducible first | exact HB.out | apply z7 | apply z1 | apply z6 | refine z2 ?_ (IsS73.ge HI0.out)) | exact HB.out)); rintro e w17 ⟨rfl, hi, hb, hk⟩; have n0_ := Aside0.mk (KeepBut.trans (by repeat (first | (with_reducible first | exact HK.out | apply KeepBut.set_ | apply zq | apply zt | apply zp) | exact HK.out)) hk (.inl rfl)); have n1_ := Aside0.mk (hb); have n2_ := Aside0.mk (hi); clear HK; clear HB; clear HI0; have HK := n0_; have HB := n1_; have HI0 := n2_; clear n0_ n1_ n2_; (try clear hb); (try clear hb2); (try clear hk); (try clear hi); obtain ⟨HGz18, hgz18⟩ := HI0.out; have hcz18_0 := cellS73_0 HGz18; have hcz18_1 := cellS73_1 HGz18; have hcz18_2 := cellS73_2 HGz18; have hfz18_0 := z9 HGz18 0; have hfz18_1 := z9 HGz18 1; have hfz18_2 := z9 HGz18 2; clear HGz18 hgz18)); try go_wp2_with (first | (go_at_call 64; (with_reducible refine (impl_scan_fix.calls kj1 g s0_0 s0_1 true (wrap64 ((wrap64 (2 * x3_1)) + 1)) t213 t214 t215 true w0 _ ?side1 ?side2 A14.out).mono ?_); (case side1 => repeat (first | (with_reducible first | exact HI0.out | apply IsS73.alloc | apply IsS73.drewN | apply IsS73.drew | apply IsS73.set_0 | apply IsS73.set_1 | apply IsS73.set_2) | exact HI0.out)); (case side2 => repeat (first | (with_reducible first | exact HB.out | apply z7 | apply z1 | apply z6 | refine z2 ?_ (IsS73.ge HI0.out)) | exact HB.out)); rintro e w17 ⟨rfl, hi, hb, hk⟩; have n0_ := Aside0.mk (KeepBut.trans (by repeat (first | (with_reducible first | exact HK.out | apply KeepBut.set_ | apply zq | apply zt | apply zp) | exact HK.out)) hk (.inl rfl)); have n1_ := Aside0.mk (hb); have n2_ := Aside0.mk (hi); clear HK; clear HB; clear HI0; have HK := n0_; have HB := n1_; have HI0 := n2_; clear n0_ n1_ n2_; (try clear hb); (try clear hb2); (try clear hk); (try clear hi); obtain ⟨HGz18, hgz18⟩ := HI0.out; have hcz18_0 := cellS73_0 HGz18; have hcz18_1 := cellS73_1 HGz18; have hcz18_2 := cellS73_2 HGz18; have hfz18_0 := z9 HGz18 0; have hfz18_1 := z9 HGz18 1; have hfz18_2 := z9 HGz18 2; clear HGz18 hgz18)))
     go_ret
     exact ⟨by first | rfl | (simp [errW_none, errW_some] <;> rfl) | (simp [*, errW_none, errW_some] <;> rfl), by repeat (first | (with_reducible first | exact HI0.out | apply IsS73.alloc | apply IsS73.drewN | apply IsS73.drew | apply IsS73.set_0 | apply IsS73.set_1 | apply IsS73.set_2) | exact HI0.out), by repeat (first | (with_reducible first | exact HB.out | apply z7 | apply z1 | apply z6 | refine z2 ?_ (IsS73.ge HI0.out)) | exact HB.out), by repeat (first | (with_reducible first | exact HK.out | apply KeepBut.set_ | apply zq | apply zt | apply zp) | exact HK.out)⟩
    ·replace c15 := Bool.eq_false_iff.mpr c15
     subst c15
     have H1 : (if (wrap64 (t213 - 1)) > 1000000 then (some (0, t214, t215, true)) else (some (wrap64 (t213 - 1), t214, t215, false))) = some (r1, r2, r3, r4) := by rw [if_neg (show ¬ (false = true) by decide)] at H; exact H
     clear H
     have H := H1
     clear H1
     by_cases c19 : (wrap64 (t213 - 1)) > 1000000
     ·rw [if_pos c19] at H
      have c19b0 : decide (1000000 < (wrap64 (t213 - 1))) = true := decide_eq_true c19
      clear c19
      simp only [Option.some.injEq, Prod.mk.injEq] at H
      obtain ⟨rfl, rfl, rfl, rfl⟩ := H
      obtain ⟨HGz20, hgz20⟩ := HI0.out
      have hcz20_0 := cellS73_0 HGz20
      have hcz20_1 := cellS73_1 HGz20
      have hcz20_2 := cellS73_2 HGz20
      have hfz20_0 := z9 HGz20 0
      have hfz20_1 := z9 HGz20 1
      have hfz20_2 := z9 HGz20 2
      clear HGz20 hgz20
      go_wp2_with (first | (go_at_call 64; (with_reducible refine (impl_scan_fix.calls kj1 g s0_0 s0_1 true (wrap64 ((wrap64 (2 * x3_1)) + 1)) t213 t214 t215 false w0 _ ?side1 ?side2 A14.out).mono ?_); (case side1 => repeat (first | (with_reducible first | exact HI0.out | apply IsS73.alloc | apply IsS73.drewN | apply IsS73.drew | apply IsS73.set_0 | apply IsS73.set_1 | apply IsS73.set_2) | exact HI0.out)); (case side2 => repeat (first | (with_reducible first | exact HB.out | apply z7 | apply z1 | apply z6 | refine z2 ?_ (IsS73.ge HI0.out)) | exact HB.out)); rintro e w21 ⟨rfl, hi, hb, hk⟩; have n0_ := Aside0.mk (KeepBut.trans (by repeat (first | (with_reducible first | exact HK.out | apply KeepBut.set_ | apply zq | apply zt | apply zp) | exact HK.out)) hk (.inl rfl)); have n1_ := Aside0.mk (hb); have n2_ := Aside0.mk (hi); clear HK; clear HB; clear HI0; have HK := n0_; have HB := n1_; have HI0 := n2_; clear n0_ n1_ n2_; (try clear hb); (try clear hb2); (try clear hk); (try clear hi); obtain ⟨HGz22, hgz22⟩ := HI0.out; have hcz22_0 := cellS73_0 HGz22; have hcz22_1 := cellS73_1 HGz22; have hcz22_2 := cellS73_2 HGz22; have hfz22_0 := z9 HGz22 0; have hfz22_1 := z9 HGz22 1; have hfz22_2 := z9 HGz22 2; clear HGz22 hgz22))
      repeat (go_quiet (first | (go_at_call 64; (with_reducible refine (impl_scan_fix.calls kj1 g s0_0 s0_1 true (wrap64 ((wrap64 (2 * x3_1)) + 1)) t213 t214 t215 false w0 _ ?side1 ?side2 A14.out).mono ?_); (case side1 => repeat (first | (with_reducible first | exact HI0.out | apply IsS73.alloc | apply IsS73.drewN | apply IsS73.drew | apply IsS73.set_0 | apply IsS73.set_1 | apply IsS73.set_2) | exact HI0.out)); (case side2 => repeat (first | (with_reducible first | exact HB.out | apply z7 | apply z1 | apply z6 | refine z2 ?_ (IsS73.ge HI0.out)) | exact HB.out)); rintro e w21 ⟨rfl, hi, hb, hk⟩; have n0_ := Aside0.mk (KeepBut.trans (by repeat (first | (with_reducible first | exact HK.out | apply KeepBut.set_ | apply zq | apply zt | apply zp) | exact HK.out)) hk (.inl rfl)); have n1_ := Aside0.mk (hb); have n2_ := Aside0.mk (hi); clear HK; clear HB; clear HI0; have HK := n0_; have HB := n1_; have HI0 := n2_; clear n0_ n1_ n2_; (try clear hb); (try clear hb2); (try clear hk); (try clear hi); obtain ⟨HGz22, hgz22⟩ := HI0.out; have hcz22_0 := cellS73_0 HGz22; have hcz22_1 := cellS73_1 HGz22; have hcz22_2 := cellS73_2 HGz22; have hfz22_0 := z9 HGz22 0; have hfz22_1 := z9 HGz22 1; have hfz22_2 := z9 HGz22 2; clear HGz22 hgz22)); try go_wp2_with (first | (go_at_call 64; (with_reducible refine (impl_scan_fix.calls kj1 g s0_0 s0_1 true (wrap64 ((wrap64 (2 * x3_1)) + 1)) t213 t214 t215 false w0 _ ?side1 ?side2 A14.out).mono ?_); (case side1 => repeat (first | (with_reducible first | exact HI0.out | apply IsS73.alloc | apply IsS73.drewN | apply IsS73.drew | apply IsS73.set_0 | apply IsS73.set_1 | apply IsS73.set_2) | exact HI0.out)); (case side2 => repeat (first | (with_reducible first | exact HB.out | apply z7 | apply z1 | apply z6 | refine z2 ?_ (IsS73.ge HI0.out)) | exact HB.out)); rintro e w21 ⟨rfl, hi, hb, hk⟩; have n0_ := Aside0.mk (KeepBut.trans (by repeat (first | (with_reducible first | exact HK.out | apply KeepBut.set_ | apply zq | apply zt | apply zp) | exact HK.out)) hk (.inl rfl)); have n1_ := Aside0.mk (hb); have n2_ := Aside0.mk (hi); clear HK; clear HB; clear HI0; have HK := n0_; have HB := n1_; have HI0 := n2_; clear n0_ n1_ n2_; (try clear hb); (try clear hb2); (try clear hk); (try clear hi); obtain ⟨HGz22, hgz22⟩ := HI0.out; have hcz22_0 := cellS73_0 HGz22; have hcz22_1 := cellS73_1 HGz22; have hcz22_2 := cellS73_2 HGz22; have hfz22_0 := z9 HGz22 0; have hfz22_1 := z9 HGz22 1; have hfz22_2 := z9 HGz22 2; clear HGz22 hgz22)))
      go_ret
      exact ⟨by first | rfl | (simp [errW_none, errW_some] <;> rfl) | (simp [*, errW_none, errW_some] <;> rfl), by repeat (first | (with_reducible first | exact HI0.out | apply IsS73.alloc | apply IsS73.drewN | apply IsS73.drew | apply IsS73.set_0 | apply IsS73.set_1 | apply IsS73.set_2) | exact HI0.out), by repeat (first | (with_reducible first | exact HB.out | apply z7 | apply z1 | apply z6 | refine z2 ?_ (IsS73.ge HI0.out)) | exact HB.out), by repeat (first | (with_reducible first | exact HK.out | apply KeepBut.set_ | apply zq | apply zt | apply zp) | exact HK.out)⟩
     ·rw [if_neg c19] at H
      have c19b0 : decide (1000000 < (wrap64 (t213 - 1))) = false := decide_eq_false c19
      clear c19
      simp only [Option.some.injEq, Prod.mk.injEq] at H
      obtain ⟨rfl, rfl, rfl, rfl⟩ := H
      obtain ⟨HGz23, hgz23⟩ := HI0.out
      have hcz23_0 := cellS73_0 HGz23
      have hcz23_1 := cellS73_1 HGz23
      have hcz23_2 := cellS73_2 HGz23
      have hfz23_0 := z9 HGz23 0
      have hfz23_1 := z9 HGz23 1
      have hfz23_2 := z9 HGz23 2
      clear HGz23 hgz23
      go_wp2_with (first | (go_at_call 64; (with_reducible refine (impl_scan_fix.calls kj1 g s0_0 s0_1 true (wrap64 ((wrap64 (2 * x3_1)) + 1)) t213 t214 t215 false w0 _ ?side1 ?side2 A14.out).mono ?_); (case side1 => repeat (first | (with_reducible first | exact HI0.out | apply IsS73.alloc | apply IsS73.drewN | apply IsS73.drew | apply IsS73.set_0 | apply IsS73.set_1 | apply IsS73.set_2) | exact HI0.out)); (case side2 => repeat (first | (with_reducible first | exact HB.out | apply z7 | apply z1 | apply z6 | refine z2 ?_ (IsS73.ge HI0.out)) | exact HB.out)); rintro e w24 ⟨rfl, hi, hb, hk⟩; have n0_ := Aside0.mk (KeepBut.trans (by repeat (first | (with_reducible first | exact HK.out | apply KeepBut.set_ | apply zq | apply zt | apply zp) | exact HK.out)) hk (.inl rfl)); have n1_ := Aside0.mk (hb); have n2_ := Aside0.mk (hi); clear HK; clear HB; clear HI0; have HK := n0_; have HB := n1_; have HI0 := n2_; clear n0_ n1_ n2_; (try clear hb); (try clear hb2); (try clear hk); (try clear hi); obtain ⟨HGz25, hgz25⟩ := HI0.out; have hcz25_0 := cellS73_0 HGz25; have hcz25_1 := cellS73_1 HGz25; have hcz25_2 := cellS73_2 HGz25; have hfz25_0 := z9 HGz25 0; have hfz25_1 := z9 HGz25 1; have hfz25_2 := z9 HGz25 2; clear HGz25 hgz25))
      repeat (go_quiet (first | (go_at_call 64; (with_reducible refine (impl_scan_fix.calls kj1 g s0_0 s0_1 true (wrap64 ((wrap64 (2 * x3_1)) + 1)) t213 t214 t215 false w0 _ ?side1 ?side2 A14.out).mono ?_); (case side1 => repeat (first | (with_reducible first | exact HI0.out | apply IsS73.alloc | apply IsS73.drewN | apply IsS73.drew | apply IsS73.set_0 | apply IsS73.set_1 | apply IsS73.set_2) | exact HI0.out)); (case side2 => repeat (first | (with_reducible first | exact HB.out | apply z7 | apply z1 | apply z6 | refine z2 ?_ (IsS73.ge HI0.out)) | exact HB.out)); rintro e w24 ⟨rfl, hi, hb, hk⟩; have n0_ := Aside0.mk (KeepBut.trans (by repeat (first | (with_reducible first | exact HK.out | apply KeepBut.set_ | apply zq | apply zt | apply zp) | exact HK.out)) hk (.inl rfl)); have n1_ := Aside0.mk (hb); have n2_ := Aside0.mk (hi); clear HK; clear HB; clear HI0; have HK := n0_; have HB := n1_; have HI0 := n2_; clear n0_ n1_ n2_; (try clear hb); (try clear hb2); (try clear hk); (try clear hi); obtain ⟨HGz25, hgz25⟩ := HI0.out; have hcz25_0 := cellS73_0 HGz25; have hcz25_1 := cellS73_1 HGz25; have hcz25_2 := cellS73_2 HGz25; have hfz25_0 := z9 HGz25 0; have hfz25_1 := z9 HGz25 1; have hfz25_2 := z9 HGz25 2; clear HGz25 hgz25)); try go_wp2_with (first | (go_at_call 64; (with_reducible refine (impl_scan_fix.calls kj1 g s0_0 s0_1 true (wrap64 ((wrap64 (2 * x3_1)) + 1)) t213 t214 t215 false w0 _ ?side1 ?side2 A14.out).mono ?_); (case side1 => repeat (first | (with_reducible first | exact HI0.out | apply IsS73.alloc | apply IsS73.drewN | apply IsS73.drew | apply IsS73.set_0 | apply IsS73.set_1 | apply IsS73.set_2) | exact HI0.out)); (case side2 => repeat (first | (with_reducible first | exact HB.out | apply z7 | apply z1 | apply z6 | refine z2 ?_ (IsS73.ge HI0.out)) | exact HB.out)); rintro e w24 ⟨rfl, hi, hb, hk⟩; have n0_ := Aside0.mk (KeepBut.trans (by repeat (first | (with_reducible first | exact HK.out | apply KeepBut.set_ | apply zq | apply zt | apply zp) | exact HK.out)) hk (.inl rfl)); have n1_ := Aside0.mk (hb); have n2_ := Aside0.mk (hi); clear HK; clear HB; clear HI0; have HK := n0_; have HB := n1_; have HI0 := n2_; clear n0_ n1_ n2_; (try clear hb); (try clear hb2); (try clear hk); (try clear hi); obtain ⟨HGz25, hgz25⟩ := HI0.out; have hcz25_0 := cellS73_0 HGz25; have hcz25_1 := cellS73_1 HGz25; have hcz25_2 := cellS73_2 HGz25; have hfz25_0 := z9 HGz25 0; have hfz25_1 := z9 HGz25 1; have hfz25_2 := z9 HGz25 2; clear HGz25 hgz25)))
      go_ret
      exact ⟨by first | rfl | (simp [errW_none, errW_some] <;> rfl) | (simp [*, errW_none, errW_some] <;> rfl), by repeat (first | (with_reducible first | exact HI0.out | apply IsS73.alloc | apply IsS73.drewN | apply IsS73.drew | apply IsS73.set_0 | apply IsS73.set_1 | apply IsS73.set_2) | exact HI0.out), by repeat (first | (with_reducible first | exact HB.out | apply z7 | apply z1 | apply z6 | refine z2 ?_ (IsS73.ge HI0.out)) | exact HB.out), by repeat (first | (with_reducible first | exact HK.out | apply KeepBut.set_ | apply zq | apply zt | apply zp) | exact HK.out)⟩
   ·rw [if_neg c13] at H
    have c13b0 : decide (20 < x3_1) = false := decide_eq_false c13
    clear c13
    replace H := Option.bind_eq_some_iff.mp H
    obtain ⟨⟨t217, t218, t219, t220⟩, A260, H⟩ := H
    replace H : (if t220 = true then (some (0, t218, t219, true)) else (if (wrap64 (t217 - 1)) > 1000000 then (some (0, t218, t219, true)) else (some (wrap64 (t217 - 1), t218, t219, t220)))) = some (r1, r2, r3, r4) := H
    have A26 := Aside0.mk A260
    clear A260
    by_cases c27 : t220 = true
    ·subst c27
     have H1 : (some (0, t218, t219, true)) = some (r1, r2, r3, r4) := by rw [if_pos rfl] at H; exact H
     clear H
     have H := H1
     clear H1
     simp only [Option.some.injEq, Prod.mk.injEq] at H
     obtain ⟨rfl, rfl, rfl, rfl⟩ := H
     go_wp2_with (first | (go_at_call 64; (with_reducible refine (impl_scan_fix.calls kj1 g s0_0 s0_1 s0_2 (wrap64 ((wrap64 (2 * x3_1)) + 1)) t217 t218 t219 true w0 _ ?side1 ?side2 A26.out).mono ?_); (case side1 => repeat (first | (with_reducible first | exact HI0.out | apply IsS73.alloc | apply IsS73.drewN | apply IsS73.drew | apply IsS73.set_0 | apply IsS73.set_1 | apply IsS73.set_2) | exact HI0.out)); (case side2 => repeat (first | (with_reducible first | exact HB.out | apply z7 | apply z1 | apply z6 | refine z2 ?_ (IsS73.ge HI0.out)) | exact HB.out)); rintro e w28 ⟨rfl, hi, hb, hk⟩; have n0_ := Aside0.mk (KeepBut.trans (by repeat (first | (with_reducible first | exact HK.out | apply KeepBut.set_ | apply zq | apply zt | apply zp) | exact HK.out)) hk (.inl rfl)); have n1_ := Aside0.mk (hb); have n2_ := Aside0.mk (hi); clear HK; clear HB; clear HI0; have HK := n0_; have HB := n1_; have HI0 := n2_; clear n0_ n1_ n2_; (try clear hb); (try clear hb2); (try clear hk); (try clear hi); obtain ⟨HGz29, hgz29⟩ := HI0.out; have hcz29_0 := cellS73_0 HGz29; have hcz29_1 := cellS73_1 HGz29; have hcz29_2 := cellS73_2 HGz29; have hfz29_0 := z9 HGz29 0; have hfz29_1 := z9 HGz29 1; have hfz29_2 := z9 HGz29 2; clear HGz29 hgz29))
     repeat (go_quiet (first | (go_at_call 64; (with_reducible refine (impl_scan_fix.calls kj1 g s0_0 s0_1 s0_2 (wrap64 ((wrap64 (2 * x3_1)) + 1)) t217 t218 t219 true w0 _ ?side1 ?side2 A26.out).mono ?_); (case side1 => repeat (first | (with_reducible first | exact HI0.out | apply IsS73.alloc | apply IsS73.drewN | apply IsS73.drew | apply IsS73.set_0 | apply IsS73.set_1 | apply IsS73.set_2) | exact HI0.out)); (case side2 => repeat (first | (with_reducible first | exact HB.out | apply z7 | apply z1 | apply z6 | refine z2 ?_ (IsS73.ge HI0.out)) | exact HB.out)); rintro e w28 ⟨rfl, hi, hb, hk⟩; have n0_ := Aside0.mk (KeepBut.trans (by repeat (first | (with_reducible first | exact HK.out | apply KeepBut.set_ | apply zq | apply zt | apply zp) | exact HK.out)) hk (.inl rfl)); have n1_ := Aside0.mk (hb); have n2_ := Aside0.mk (hi); clear HK; clear HB; clear HI0; have HK := n0_; have HB := n1_; have HI0 := n2_; clear n0_ n1_ n2_; (try clear hb); (try clear hb2); (try clear hk); (try clear hi); obtain ⟨HGz29, hgz29⟩ := HI0.out; have hcz29_0 := cellS73_0 HGz29; have hcz29_1 := cellS73_1 HGz29; have hcz29_2 := cellS73_2 HGz29; have hfz29_0 := z9 HGz29 0; have hfz29_1 := z9 HGz29 1; have hfz29_2 := z9 HGz29 2; clear HGz29 hgz29)); try go_wp2_with (first | (go_at_call 64; (with_reducible refine (impl_scan_fix.calls kj1 g s0_0 s0_1 s0_2 (wrap64 ((wrap64 (2 * x3_1)) + 1)) t217 t218 t219 true w0 _ ?side1 ?side2 A26.out).mono ?_); (case side1 => repeat (first | (with_reducible first | exact HI0.out | apply IsS73.alloc | apply IsS73.drewN | apply IsS73.drew | apply IsS73.set_0 | apply IsS73.set_1 | apply IsS73.set_2) | exact HI0.out)); (case side2 => repeat (first | (with_reducible first | exact HB.out | apply z7 | apply z1 | apply z6 | refine z2 ?_ (IsS73.ge HI0.out)) | exact HB.out)); rintro e w28 ⟨rfl, hi, hb, hk⟩; have n0_ := Aside0.mk (KeepBut.trans (by repeat (first | (with_reducible first | exact HK.out | apply KeepBut.set_ | apply zq | apply zt | apply zp) | exact HK.out)) hk (.inl rfl)); have n1_ := Aside0.mk (hb); have n2_ := Aside0.mk (hi); clear HK; clear HB; clear HI0; have HK := n0_; have HB := n1_; have HI0 := n2_; clear n0_ n1_ n2_; (try clear hb); (try clear hb2); (try clear hk); (try clear hi); obtain ⟨HGz29, hgz29⟩ := HI0.out; have hcz29_0 := cellS73_0 HGz29; have hcz29_1 := cellS73_1 HGz29; have hcz29_2 := cellS73_2 HGz29; have hfz29_0 := z9 HGz29 0; have hfz29_1 := z9 HGz29 1; have hfz29_2 := z9 HGz29 2; clear HGz29 hgz29)))
     go_ret
     exact ⟨by first | rfl | (simp [errW_none, errW_some] <;> rfl) | (simp [*, errW_none, errW_some] <;> rfl), by repeat (first | (with_reducible first | exact HI0.out | apply IsS73.alloc | apply IsS73.drewN | apply IsS73.drew | apply IsS73.set_0 | apply IsS73.set_1 | apply IsS73.set_2) | exact HI0.out), by repeat (first | (with_reducible first | exact HB.out | apply z7 | apply z1 | apply z6 | refine z2 ?_ (IsS73.ge HI0.out)) | exact HB.out), by repeat (first | (with_reducible first | exact HK.out | apply KeepBut.set_ | apply zq | apply zt | apply zp) | exact HK.out)⟩
    ·replace c27 := Bool.eq_false_iff.mpr c27
     subst c27
     have H1 : (if (wrap64 (t217 - 1)) > 1000000 then (some (0, t218, t219, true)) else (some (wrap64 (t217 - 1), t218, t219, false))) = some (r1, r2, r3, r4) := by rw [if_neg (show ¬ (false = true) by decide)] at H; exact H
     clear H
     have H := H1
     clear H1
     by_cases c30 : (wrap64 (t217 - 1)) > 1000000
     ·rw [if_pos c30] at H
      have c30b0 : decide (1000000 < (wrap64 (t217 - 1))) = true := decide_eq_true c30
      clear c30
      simp only [Option.some.injEq, Prod.mk.injEq] at H
      obtain ⟨rfl, rfl, rfl, rfl⟩ := H
      go_wp2_with (first | (go_at_call 64; (with_reducible refine (impl_scan_fix.calls kj1 g s0_0 s0_1 s0_2 (wrap64 ((wrap64 (2 * x3_1)) + 1)) t217 t218 t219 false w0 _ ?side1 ?side2 A26.out).mono ?_); (case side1 => repeat (first | (with_reducible first | exact HI0.out | apply IsS73.alloc | apply IsS73.drewN | apply IsS73.drew | apply IsS73.set_0 | apply IsS73.set_1 | apply IsS73.set_2) | exact HI0.out)); (case side2 => repeat (first | (with_reducible first | exact HB.out | apply z7 | apply z1 | apply z6 | refine z2 ?_ (IsS73.ge HI0.out)) | exact HB.out)); rintro e w31 ⟨rfl, hi, hb, hk⟩; have n0_ := Aside0.mk (KeepBut.trans (by repeat (first | (with_reducible first | exact HK.out | apply KeepBut.set_ | apply zq | apply zt | apply zp) | exact HK.out)) hk (.inl rfl)); have n1_ := Aside0.mk (hb); have n2_ := Aside0.mk (hi); clear HK; clear HB; clear HI0; have HK := n0_; have HB := n1_; have HI0 := n2_; clear n0_ n1_ n2_; (try clear hb); (try clear hb2); (try clear hk); (try clear hi); obtain ⟨HGz32, hgz32⟩ := HI0.out; have hcz32_0 := cellS73_0 HGz32; have hcz32_1 := cellS73_1 HGz32; have hcz32_2 := cellS73_2 HGz32; have hfz32_0 := z9 HGz32 0; have hfz32_1 := z9 HGz32 1; have hfz32_2 := z9 HGz32 2; clear HGz32 hgz32))
      repeat (go_quiet (first | (go_at_call 64; (with_reducible refine (impl_scan_fix.calls kj1 g s0_0 s0_1 s0_2 (wrap64 ((wrap64 (2 * x3_1)) + 1)) t217 t218 t219 false w0 _ ?side1 ?side2 A26.out).mono ?_); (case side1 => repeat (first | (with_reducible first | exact HI0.out | apply IsS73.alloc | apply IsS73.drewN | apply IsS73.drew | apply IsS73.set_0 | apply IsS73.set_1 | apply IsS73.set_2) | exact HI0.out)); (case side2 => repeat (first | (with_reducible first | exact HB.out | apply z7 | apply z1 | apply z6 | refine z2 ?_ (IsS73.ge HI0.out)) | exact HB.out)); rintro e w31 ⟨rfl, hi, hb, hk⟩; have n0_ := Aside0.mk (KeepBut.trans (by repeat (first | (with_reducible first | exact HK.out | apply KeepBut.set_ | apply zq | apply zt | apply zp) | exact HK.out)) hk (.inl rfl)); have n1_ := Aside0.mk (hb); have n2_ := Aside0.mk (hi); clear HK; clear HB; clear HI0; have HK := n0_; have HB := n1_; have HI0 := n2_; clear n0_ n1_ n2_; (try clear hb); (try clear hb2); (try clear hk); (try clear hi); obtain ⟨HGz32, hgz32⟩ := HI0.out; have hcz32_0 := cellS73_0 HGz32; have hcz32_1 := cellS73_1 HGz32; have hcz32_2 := cellS73_2 HGz32; have hfz32_0 := z9 HGz32 0; have hfz32_1 := z9 HGz32 1; have hfz32_2 := z9 HGz32 2; clear HGz32 hgz32)); try go_wp2_with (first | (go_at_call 64; (with_reducible refine (impl_scan_fix.calls kj1 g s0_0 s0_1 s0_2 (wrap64 ((wrap64 (2 * x3_1)) + 1)) t217 t218 t219 false w0 _ ?side1 ?side2 A26.out).mono ?_); (case side1 => repeat (first | (with_reducible first | exact HI0.out | apply IsS73.alloc | apply IsS73.drewN | apply IsS73.drew | apply IsS73.set_0 | apply IsS73.set_1 | apply IsS73.set_2) | exact HI0.out)); (case side2 => repeat (first | (with_reducible first | exact HB.out | apply z7 | apply z1 | apply z6 | refine z2 ?_ (IsS73.ge HI0.out)) | exact HB.out)); rintro e w31 ⟨rfl, hi, hb, hk⟩; have n0_ := Aside0.mk (KeepBut.trans (by repeat (first | (with_reducible first | exact HK.out | apply KeepBut.set_ | apply zq | apply zt | apply zp) | exact HK.out)) hk (.inl rfl)); have n1_ := Aside0.mk (hb); have n2_ := Aside0.mk (hi); clear HK; clear HB; clear HI0; have HK := n0_; have HB := n1_; have HI0 := n2_; clear n0_ n1_ n2_; (try clear hb); (try clear hb2); (try clear hk); (try clear hi); obtain ⟨HGz32, hgz32⟩ := HI0.out; have hcz32_0 := cellS73_0 HGz32; have hcz32_1 := cellS73_1 HGz32; have hcz32_2 := cellS73_2 HGz32; have hfz32_0 := z9 HGz32 0; have hfz32_1 := z9 HGz32 1; have hfz32_2 := z9 HGz32 2; clear HGz32 hgz32)))
      go_ret
      exact ⟨by first | rfl | (simp [errW_none, errW_some] <;> rfl) | (simp [*, errW_none, errW_some] <;> rfl), by repeat (first | (with_reducible first | exact HI0.out | apply IsS73.alloc | apply IsS73.drewN | apply IsS73.drew | apply IsS73.set_0 | apply IsS73.set_1 | apply IsS73.set_2) | exact HI0.out), by repeat (first | (with_reducible first | exact HB.out | apply z7 | apply z1 | apply z6 | refine z2 ?_ (IsS73.ge HI0.out)) | exact HB.out), by repeat (first | (with_reducible first | exact HK.out | apply KeepBut.set_ | apply zq | apply zt | apply zp) | exact HK.out)⟩
     ·rw [if_neg c30] at H
      have c30b0 : decide (1000000 < (wrap64 (t217 - 1))) = false := decide_eq_false c30
      clear c30
      simp only [Option.some.injEq, Prod.mk.injEq] at H
      obtain ⟨rfl, rfl, rfl, rfl⟩ := H
      go_wp2_with (first | (go_at_call 64; (with_reducible refine (impl_scan_fix.calls kj1 g s0_0 s0_1 s0_2 (wrap64 ((wrap64 (2 * x3_1)) + 1)) t217 t218 t219 false w0 _ ?side1 ?side2 A26.out).mono ?_); (case side1 => repeat (first | (with_reducible first | exact HI0.out | apply IsS73.alloc | apply IsS73.drewN | apply IsS73.drew | apply IsS73.set_0 | apply IsS73.set_1 | apply IsS73.set_2) | exact HI0.out)); (case side2 => repeat (first | (with_reducible first | exact HB.out | apply z7 | apply z1 | apply z6 | refine z2 ?_ (IsS73.ge HI0.out)) | exact HB.out)); rintro e w33 ⟨rfl, hi, hb, hk⟩; have n0_ := Aside0.mk (KeepBut.trans (by repeat (first | (with_reducible first | exact HK.out | apply KeepBut.set_ | apply zq | apply zt | apply zp) | exact HK.out)) hk (.inl rfl)); have n1_ := Aside0.mk (hb); have n2_ := Aside0.mk (hi); clear HK; clear HB; clear HI0; have HK := n0_; have HB := n1_; have HI0 := n2_; clear n0_ n1_ n2_; (try clear hb); (try clear hb2); (try clear hk); (try clear hi); obtain ⟨HGz34, hgz34⟩ := HI0.out; have hcz34_0 := cellS73_0 HGz34; have hcz34_1 := cellS73_1 HGz34; have hcz34_2 := cellS73_2 HGz34; have hfz34_0 := z9 HGz34 0; have hfz34_1 := z9 HGz34 1; have hfz34_2 := z9 HGz34 2; clear HGz34 hgz34))
      repeat (go_quiet (first | (go_at_call 64; (with_reducible refine (impl_scan_fix.calls kj1 g s0_0 s0_1 s0_2 (wrap64 ((wrap64 (2 * x3_1)) + 1)) t217 t218 t219 false w0 _ ?side1 ?side2 A26.out).mono ?_); (case side1 => repeat (first | (with_reducible first | exact HI0.out | apply IsS73.alloc | apply IsS73.drewN | apply IsS73.drew | apply IsS73.set_0 | apply IsS73.set_1 | apply IsS73.set_2) | exact HI0.out)); (case side2 => repeat (first | (with_reducible first | exact HB.out | apply z7 | apply z1 | apply z6 | refine z2 ?_ (IsS73.ge HI0.out)) | exact HB.out)); rintro e w33 ⟨rfl, hi, hb, hk⟩; have n0_ := Aside0.mk (KeepBut.trans (by repeat (first | (with_reducible first | exact HK.out | apply KeepBut.set_ | apply zq | apply zt | apply zp) | exact HK.out)) hk (.inl rfl)); have n1_ := Aside0.mk (hb); have n2_ := Aside0.mk (hi); clear HK; clear HB; clear HI0; have HK := n0_; have HB := n1_; have HI0 := n2_; clear n0_ n1_ n2_; (try clear hb); (try clear hb2); (try clear hk); (try clear hi); obtain ⟨HGz34, hgz34⟩ := HI0.out; have hcz34_0 := cellS73_0 HGz34; have hcz34_1 := cellS73_1 HGz34; have hcz34_2 := cellS73_2 HGz34; have hfz34_0 := z9 HGz34 0; have hfz34_1 := z9 HGz34 1; have hfz34_2 := z9 HGz34 2; clear HGz34 hgz34)); try go_wp2_with (first | (go_at_call 64; (with_reducible refine (impl_scan_fix.calls kj1 g s0_0 s0_1 s0_2 (wrap64 ((wrap64 (2 * x3_1)) + 1)) t217 t218 t219 false w0 _ ?side1 ?side2 A26.out).mono ?_); (case side1 => repeat (first | (with_reducible first | exact HI0.out | apply IsS73.alloc | apply IsS73.drewN | apply IsS73.drew | apply IsS73.set_0 | apply IsS73.set_1 | apply IsS73.set_2) | exact HI0.out)); (case side2 => repeat (first | (with_reducible first | exact HB.out | apply z7 | apply z1 | apply z6 | refine z2 ?_ (IsS73.ge HI0.out)) | exact HB.out)); rintro e w33 ⟨rfl, hi, hb, hk⟩; have n0_ := Aside0.mk (KeepBut.trans (by repeat (first | (with_reducible first | exact HK.out | apply KeepBut.set_ | apply zq | apply zt | apply zp) | exact HK.out)) hk (.inl rfl)); have n1_ := Aside0.mk (hb); have n2_ := Aside0.mk (hi); clear HK; clear HB; clear HI0; have HK := n0_; have HB := n1_; have HI0 := n2_; clear n0_ n1_ n2_; (try clear hb); (try clear hb2); (try clear hk); (try clear hi); obtain ⟨HGz34, hgz34⟩ := HI0.out; have hcz34_0 := cellS73_0 HGz34; have hcz34_1 := cellS73_1 HGz34; have hcz34_2 := cellS73_2 HGz34; have hfz34_0 := z9 HGz34 0; have hfz34_1 := z9 HGz34 1; have hfz34_2 := z9 HGz34 2; clear HGz34 hgz34)))
      go_ret
      exact ⟨by first | rfl | (simp [errW_none, errW_some] <;> rfl) | (simp [*, errW_none, errW_some] <;> rfl), by repeat (first | (with_reducible first | exact HI0.out | apply IsS73.alloc | apply IsS73.drewN | apply IsS73.drew | apply IsS73.set_0 | apply IsS73.set_1 | apply IsS73.set_2) | exact HI0.out), by repeat (first | (with_reducible first | exact HB.out | apply z7 | apply z1 | apply z6 | refine z2 ?_ (IsS73.ge HI0.out)) | exact HB.out), by repeat (first | (with_reducible first | exact HK.out | apply KeepBut.set_ | apply zq | apply zt | apply zp) | exact HK.out)⟩
def impl_OpenSe.f (a0 : Int) : Option (Int × Bool) := (impl_within.f a0 0 1000000).bind fun t221 => (if t221 = true then (if (Int.tmod a0 2) = 1 then (some (wrap64 (Int.tdiv (wrap64 (a0 + 1)) 2), true)) else (some (wrap64 (Int.tdiv (wrap64 (-a0)) 2), true))) else (some (0, false)))
set_option maxHeartbeats 8000000 in
set_option maxRecDepth 100000 in
theorem impl_OpenSe.calls (a0 : Int) (r1 : Int) (r2 : Bool) (w : World) (h : impl_OpenSe.f a0 = some (r1, r2)) :
  Calls Try.prog 101 #[.int .i64 a0] w fun e w' => e = .returned (.tuple #[.int .i64 r1, .bool r2]) ∧ Drawn0 w w' := by
 have H : ((impl_within.f a0 0 1000000).bind fun t221 => (if t221 = true then (if (Int.tmod a0 2) = 1 then (some (wrap64 (Int.tdiv (wrap64 (a0 + 1)) 2), true)) else (some (wrap64 (Int.tdiv (wrap64 (-a0)) 2), true))) else (some (0, false)))) = some (r1, r2) := h
 clear h
 replace H := Option.bind_eq_some_iff.mp H
 obtain ⟨t221, A20, H⟩ := H
 replace H : (if t221 = true then (if (Int.tmod a0 2) = 1 then (some (wrap64 (Int.tdiv (wrap64 (a0 + 1)) 2), true)) else (some (wrap64 (Int.tdiv (wrap64 (-a0)) 2), true))) else (some (0, false))) = some (r1, r2) := H
 have A2 := Aside0.mk A20
 clear A20
 by_cases c3 : t221 = true
 ·subst c3
  have H1 : (if (Int.tmod a0 2) = 1 then (some (wrap64 (Int.tdiv (wrap64 (a0 + 1)) 2), true)) else (some (wrap64 (Int.tdiv (wrap64 (-a0)) 2), true))) = some (r1, r2) := by rw [if_pos rfl] at H; exact H
  clear H
  have H := H1
  clear H1
  by_cases c4 : (Int.tmod a0 2) = 1
  ·rw [if_pos c4] at H
   have c4b0 : ((Int.tmod a0 2) == 1) = true := beq_iff_eq.mpr c4
   have c4b1 : ((Int.tmod a0 2) != 1) = false := bne_eq_false_iff_eq.mpr c4
   clear c4
   simp only [Option.some.injEq, Prod.mk.injEq] at H
   obtain ⟨rfl, rfl⟩ := H
   go_enter Try.func101, Try.ntmps101
   go_wp2_with (first | ((with_reducible refine zg (f := 70) rfl ?_); refine zr (some 6) rfl rfl Try.func70 (by kernel_rfl) rfl #[.int .i64 a0, .int .i64 0, .int .i64 1000000] rfl (by (try simp only [List.map_toArray, List.map_cons, List.map_nil]); first | done | rfl | (simp only [List.length_drop, List.length_take]; rfl)) ?_; (with_reducible refine (impl_within.calls a0 0 1000000 true _ A2.out).mono ?_); rintro e w' ⟨rfl, ⟨nd, rfl⟩⟩; refine ⟨_, rfl, ?_⟩))
   go_ret2
   exact ⟨by first | rfl | (simp; done) | (simp [*]; done), by repeat (first | exact Drawn0.refl _ | apply Drawn0.step)⟩
  ·rw [if_neg c4] at H
   have c4b0 : ((Int.tmod a0 2) == 1) = false := beq_eq_false_iff_ne.mpr c4
   have c4b1 : ((Int.tmod a0 2) != 1) = true := bne_iff_ne.mpr c4
   simp only [Option.some.injEq, Prod.mk.injEq] at H
   obtain ⟨rfl, rfl⟩ := H
   go_enter Try.func101, Try.ntmps101
   go_wp2_with (first | ((with_reducible refine zg (f := 70) rfl ?_); refine zr (some 6) rfl rfl Try.func70 (by kernel_rfl) rfl #[.int .i64 a0, .int .i64 0, .int .i64 1000000] rfl (by (try simp only [List.map_toArray, List.map_cons, List.map_nil]); first | done | rfl | (simp only [List.length_drop, List.length_take]; rfl)) ?_; (with_reducible refine (impl_within.calls a0 0 1000000 true _ A2.out).mono ?_); rintro e w' ⟨rfl, ⟨nd, rfl⟩⟩; refine ⟨_, rfl, ?_⟩))
   go_ret2
   exact ⟨by first | rfl | (simp; done) | (simp [*]; done), by repeat (first | exact Drawn0.refl _ | apply Drawn0.step)⟩
 ·replace c3 := Bool.eq_false_iff.mpr c3
  subst c3
  have H1 : (some (0, false)) = some (r1, r2) := by rw [if_neg (show ¬ (false = true) by decide)] at H; exact H
  clear H
  have H := H1
  clear H1
  simp only [Option.some.injEq, Prod.mk.injEq] at H
  obtain ⟨rfl, rfl⟩ := H
  go_enter Try.func101, Try.ntmps101
  go_wp2_with (first | ((with_reducible refine zg (f := 70) rfl ?_); refine zr (some 6) rfl rfl Try.func70 (by kernel_rfl) rfl #[.int .i64 a0, .int .i64 0, .int .i64 1000000] rfl (by (try simp only [List.map_toArray, List.map_cons, List.map_nil]); first | done | rfl | (simp only [List.length_drop, List.length_take]; rfl)) ?_; (with_reducible refine (impl_within.calls a0 0 1000000 false _ A2.out).mono ?_); rintro e w' ⟨rfl, ⟨nd, rfl⟩⟩; refine ⟨_, rfl, ?_⟩))
  go_ret2
  exact ⟨by first | rfl | (simp; done) | (simp [*]; done), by repeat (first | exact Drawn0.refl _ | apply Drawn0.step)⟩
def impl_scan_se.f (k : Nat) (s0_0 : ByteArray) (s0_1 : Int) (s0_2 : Bool) : Option (Int × ByteArray × Int × Bool) := (impl_scan_ue.f k s0_0 s0_1 s0_2).bind fun bt222 => ((impl_OpenSe.f bt222.1).bind fun bt226 => (if bt222.2.2.2 = true then (some (bt226.1, bt222.2.1, bt222.2.2.1, true)) else (some (bt226.1, bt222.2.1, bt222.2.2.1, !bt226.2))))
theorem impl_scan_se.mono : ∀ a0 a1 a2 k, LeO (impl_scan_se.f k a0 a1 a2) (impl_scan_se.f (k + 1) a0 a1 a2) := by
 intro a0 a1 a2 k
 unfold impl_scan_se.f
 repeat' first
   | (with_reducible exact impl_scan_ue.mono _ _ _ _)
   | (with_reducible exact LeO.refl _)
   | (with_reducible exact LeO.none _)
   | (with_reducible refine LeO.ite ?_ ?_)
   | (with_reducible refine LeO.bind ?_ (fun _ => ?_))
   | exact impl_scan_ue.mono _ _ _ _
   | exact LeO.none _
   | refine LeO.ite ?_ ?_
   | refine LeO.bind ?_ (fun _ => ?_)
set_option maxHeartbeats 8000000 in
set_option maxRecDepth 100000 in
theorem impl_scan_se.calls (k : Nat) (g : Nat) (s0_0 : ByteArray) (s0_1 : Int) (s0_2 : Bool) (r1 : Int) (r2 : ByteArray) (r3 : Int) (r4 : Bool) (w0 w : World) (hI : IsS73 w0 w g s0_0 s0_1 s0_2) (hB : Below w0.heap.size w0 w) (h : impl_scan_se.f k s0_0 s0_1 s0_2 = some (r1, r2, r3, r4)) :
  Calls Try.prog 65 #[.pointer (some ⟨g, 0, none⟩)] w fun e w' => e = .returned (.int .i64 r1) ∧ IsS73 w0 w' g r2 r3 r4 ∧ Below w0.heap.size w0 w' ∧ KeepBut w w' g none := by
 have HI0 := Aside0.mk hI
 have HK := Aside0.mk (KeepBut.refl w g none)
 have HL := Aside0.mk hB.size
 clear hI
 have HW0 := Aside0.mk hB.size
 have HB := Aside0.mk hB
 clear hB
 have H : ((impl_scan_ue.f k s0_0 s0_1 s0_2).bind fun bt222 => ((impl_OpenSe.f bt222.1).bind fun bt226 => (if bt222.2.2.2 = true then (some (bt226.1, bt222.2.1, bt222.2.2.1, true)) else (some (bt226.1, bt222.2.1, bt222.2.2.1, !bt226.2))))) = some (r1, r2, r3, r4) := h
 clear h
 replace H := Option.bind_eq_some_iff.mp H
 obtain ⟨⟨t222, t223, t224, t225⟩, A20, H⟩ := H
 replace H : ((impl_OpenSe.f t222).bind fun bt226 => (if t225 = true then (some (bt226.1, t223, t224, true)) else (some (bt226.1, t223, t224, !bt226.2)))) = some (r1, r2, r3, r4) := H
 have A2 := Aside0.mk A20
 clear A20
 replace H := Option.bind_eq_some_iff.mp H
 obtain ⟨⟨t226, t227⟩, A30, H⟩ := H
 replace H : (if t225 = true then (some (t226, t223, t224, true)) else (some (t226, t223, t224, !t227))) = some (r1, r2, r3, r4) := H
 have A3 := Aside0.mk A30
 clear A30
 by_cases c4 : t225 = true
 ·subst c4
  have H1 : (some (t226, t223, t224, true)) = some (r1, r2, r3, r4) := by rw [if_pos rfl] at H; exact H
  clear H
  have H := H1
  clear H1
  simp only [Option.some.injEq, Prod.mk.injEq] at H
  obtain ⟨rfl, rfl, rfl, rfl⟩ := H
  go_enter Try.func65, Try.ntmps65
  go_wp2_with (first | ((with_reducible refine zg (f := 63) rfl ?_); refine zr (some 7) rfl rfl Try.func63 (by kernel_rfl) rfl #[.pointer (some ⟨g, 0, none⟩)] rfl (by (try simp only [List.map_toArray, List.map_cons, List.map_nil]); first | done | rfl | (simp only [List.length_drop, List.length_take]; rfl)) ?_; (with_reducible refine (impl_scan_ue.calls k g s0_0 s0_1 s0_2 t222 t223 t224 true w0 _ ?side1 ?side2 A2.out).mono ?_); (case side1 => repeat (first | (with_reducible first | exact HI0.out | apply IsS73.alloc | apply IsS73.drewN | apply IsS73.drew | apply IsS73.set_0 | apply IsS73.set_1 | apply IsS73.set_2) | exact HI0.out)); (case side2 => repeat (first | (with_reducible first | exact HB.out | apply z7 | apply z1 | apply z6 | refine z2 ?_ (IsS73.ge HI0.out)) | exact HB.out)); rintro e w5 ⟨rfl, hi, hb, hk⟩; refine ⟨_, rfl, ?_⟩; have n0_ := Aside0.mk (KeepBut.trans (by repeat (first | (with_reducible first | exact HK.out | apply KeepBut.set_ | apply zq | apply zt | apply zp) | exact HK.out)) hk (.inl rfl)); have n1_ := Aside0.mk (hb); have n2_ := Aside0.mk (hi); clear HK; clear HB; clear HI0; have HK := n0_; have HB := n1_; have HI0 := n2_; clear n0_ n1_ n2_; (try clear hb); (try clear hb2); (try clear hk); (try clear hi)) | ((with_reducible refine zg (f := 101) rfl ?_); refine zr (some 8) rfl rfl Try.func101 (by kernel_rfl) rfl #[.int .i64 t222] rfl (by (try simp only [List.map_toArray, List.map_cons, List.map_nil]); first | done | rfl | (simp only [List.length_drop, List.length_take]; rfl)) ?_; (with_reducible refine (impl_OpenSe.calls t222 t226 t227 _ A3.out).mono ?_); rintro e w' ⟨rfl, ⟨nd, rfl⟩⟩; refine ⟨_, rfl, ?_⟩; (try (rw [zz w5]; generalize hq_ : World.drewN w5 _ = w5; have n0_ : Aside0 (IsS73 w0 w5 g t223 t224 true) := ⟨by rw [← hq_]; exact (by repeat (first | (with_reducible first | exact HI0.out | apply IsS73.alloc | apply IsS73.drewN | apply IsS73.drew | apply IsS73.set_0 | apply IsS73.set_1 | apply IsS73.set_2) | exact HI0.out))⟩; have n1_ : Aside0 (KeepBut w w5 g none) := ⟨by rw [← hq_]; exact (by repeat (first | (with_reducible first | exact HK.out | apply KeepBut.set_ | apply zq | apply zt | apply zp) | exact HK.out))⟩; have n2_ : Aside0 (Below w0.heap.size w0 w5) := ⟨by rw [← hq_]; exact (by repeat (first | (with_reducible first | exact HB.out | apply z7 | apply z1 | apply z6 | refine z2 ?_ (IsS73.ge HI0.out)) | exact HB.out))⟩; clear HI0 HK HB hq_; have HI0 := n0_; have HK := n1_; have HB := n2_; clear n0_ n1_ n2_)); obtain ⟨HGz6, hgz6⟩ := HI0.out; have hcz6_0 := cellS73_0 HGz6; have hcz6_1 := cellS73_1 HGz6; have hcz6_2 := cellS73_2 HGz6; have hfz6_0 := z9 HGz6 0; have hfz6_1 := z9 HGz6 1; have hfz6_2 := z9 HGz6 2; clear HGz6 hgz6))
  go_ret
  exact ⟨by first | rfl | (simp [errW_none, errW_some] <;> rfl) | (simp [*, errW_none, errW_some] <;> rfl), by repeat (first | (with_reducible first | exact HI0.out | apply IsS73.alloc | apply IsS73.drewN | apply IsS73.drew | apply IsS73.set_0 | apply IsS73.set_1 | apply IsS73.set_2) | exact HI0.out), by repeat (first | (with_reducible first | exact HB.out | apply z7 | apply z1 | apply z6 | refine z2 ?_ (IsS73.ge HI0.out)) | exact HB.out), by repeat (first | (with_reducible first | exact HK.out | apply KeepBut.set_ | apply zq | apply zt | apply zp) | exact HK.out)⟩
 ·replace c4 := Bool.eq_false_iff.mpr c4
  subst c4
  have H1 : (some (t226, t223, t224, !t227)) = some (r1, r2, r3, r4) := by rw [if_neg (show ¬ (false = true) by decide)] at H; exact H
  clear H
  have H := H1
  clear H1
  simp only [Option.some.injEq, Prod.mk.injEq] at H
  obtain ⟨rfl, rfl, rfl, rfl⟩ := H
  go_enter Try.func65, Try.ntmps65
  go_wp2_with (first | ((with_reducible refine zg (f := 63) rfl ?_); refine zr (some 7) rfl rfl Try.func63 (by kernel_rfl) rfl #[.pointer (some ⟨g, 0, none⟩)] rfl (by (try simp only [List.map_toArray, List.map_cons, List.map_nil]); first | done | rfl | (simp only [List.length_drop, List.length_take]; rfl)) ?_; (with_reducible refine (impl_scan_ue.calls k g s0_0 s0_1 s0_2 t222 t223 t224 false w0 _ ?side1 ?side2 A2.out).mono ?_); (case side1 => repeat (first | (with_reducible first | exact HI0.out | apply IsS73.alloc | apply IsS73.drewN | apply IsS73.drew | apply IsS73.set_0 | apply IsS73.set_1 | apply IsS73.set_2) | exact HI0.out)); (case side2 => repeat (first | (with_reducible first | exact HB.out | apply z7 | apply z1 | apply z6 | refine z2 ?_ (IsS73.ge HI0.out)) | exact HB.out)); rintro e w7 ⟨rfl, hi, hb, hk⟩; refine ⟨_, rfl, ?_⟩; have n0_ := Aside0.mk (KeepBut.trans (by repeat (first | (with_reducible first | exact HK.out | apply KeepBut.set_ | apply zq | apply zt | apply zp) | exact HK.out)) hk (.inl rfl)); have n1_ := Aside0.mk (hb); have n2_ := Aside0.mk (hi); clear HK; clear HB; clear HI0; have HK := n0_; have HB := n1_; have HI0 := n2_; clear n0_ n1_ n2_; (try clear hb); (try clear hb2); (try clear hk); (try clear hi)) | ((with_reducible refine zg (f := 101) rfl ?_); refine zr (some 8) rfl rfl Try.func101 (by kernel_rfl) rfl #[.int .i64 t222] rfl (by (try simp only [List.map_toArray, List.map_cons, List.map_nil]); first | done | rfl | (simp only [List.length_drop, List.length_take]; rfl)) ?_; (with_reducible refine (impl_OpenSe.calls t222 t226 t227 _ A3.out).mono ?_); rintro e w' ⟨rfl, ⟨nd, rfl⟩⟩; refine ⟨_, rfl, ?_⟩; (try (rw [zz w7]; generalize hq_ : World.drewN w7 _ = w7; have n0_ : Aside0 (IsS73 w0 w7 g t223 t224 false) := ⟨by rw [← hq_]; exact (by repeat (first | (with_reducible first | exact HI0.out | apply IsS73.alloc | apply IsS73.drewN | apply IsS73.drew | apply IsS73.set_0 | apply IsS73.set_1 | apply IsS73.set_2) | exact HI0.out))⟩; have n1_ : Aside0 (KeepBut w w7 g none) := ⟨by rw [← hq_]; exact (by repeat (first | (with_reducible first | exact HK.out | apply KeepBut.set_ | apply zq | apply zt | apply zp) | exact HK.out))⟩; have n2_ : Aside0 (Below w0.heap.size w0 w7) := ⟨by rw [← hq_]; exact (by repeat (first | (with_reducible first | exact HB.out | apply z7 | apply z1 | apply z6 | refine z2 ?_ (IsS73.ge HI0.out)) | exact HB.out))⟩; clear HI0 HK HB hq_; have HI0 := n0_; have HK := n1_; have HB := n2_; clear n0_ n1_ n2_)); obtain ⟨HGz8, hgz8⟩ := HI0.out; have hcz8_0 := cellS73_0 HGz8; have hcz8_1 := cellS73_1 HGz8; have hcz8_2 := cellS73_2 HGz8; have hfz8_0 := z9 HGz8 0; have hfz8_1 := z9 HGz8 1; have hfz8_2 := z9 HGz8 2; clear HGz8 hgz8))
  go_ret
  exact ⟨by first | rfl | (simp [errW_none, errW_some] <;> rfl) | (simp [*, errW_none, errW_some] <;> rfl), by repeat (first | (with_reducible first | exact HI0.out | apply IsS73.alloc | apply IsS73.drewN | apply IsS73.drew | apply IsS73.set_0 | apply IsS73.set_1 | apply IsS73.set_2) | exact HI0.out), by repeat (first | (with_reducible first | exact HB.out | apply z7 | apply z1 | apply z6 | refine z2 ?_ (IsS73.ge HI0.out)) | exact HB.out), by repeat (first | (with_reducible first | exact HK.out | apply KeepBut.set_ | apply zq | apply zt | apply zp) | exact HK.out)⟩
def impl_ReadHead.j0 : Nat → Bool → Int → Int → List Int → List Int → Int → Bool → Bool → Bool → ByteArray → Int → Bool → Option (Int × Int × Int × Int × Bool)
 | 0, _, _, _, _, _, _, _, _, _, _, _, _ => none
 | k + 1, x20, x229000, x229001, x229002, x229003, x230000, x230001, x230002, x230003, x235000, x235001, x235002 => if x20 = true then (some (0, 0, 0, 0, false)) else ((impl_scan_ue.f k x235000 x235001 x235002).bind fun bt237 => ((impl_scan_fix.f k bt237.2.1 bt237.2.2.1 bt237.2.2.2 x229001).bind fun bt242 => ((impl_scan_se.f k bt242.2.1 bt242.2.2.1 bt242.2.2.2).bind fun bt246 => (if bt246.2.2.2 = true then (some (0, 0, 0, 0, false)) else ((impl_HeadOk.f k x229000 x229001 x229002 x229003 x230000 x230001 x230002 x230003 bt237.1 bt242.1 (wrap64 (bt246.1 + x230000))).bind fun t250 => (if t250 = true then (some (bt237.1, bt242.1, wrap64 (bt246.1 + x230000), bt246.2.2.1, true)) else (some (0, 0, 0, 0, false))))))))
def impl_ReadHead.f (k : Nat) (a0_0 : Int) (a0_1 : Int) (l0_2 : List Int) (l0_3 : List Int) (a1_0 : Int) (a1_1 : Bool) (a1_2 : Bool) (a1_3 : Bool) (a2 : ByteArray) : Option (Int × Int × Int × Int × Bool) := (impl_opened.f k a2 0).bind fun bt231 => ((impl_SeqOk.f k a0_0 a0_1 l0_2 l0_3).bind fun t235 => (if t235 = true then ((impl_ParOk.f a1_0 a1_1 a1_2 a1_3).bind fun t236 => (impl_ReadHead.j0 k (!t236) a0_0 a0_1 l0_2 l0_3 a1_0 a1_1 a1_2 a1_3 bt231.1 bt231.2.1 bt231.2.2)) else (impl_ReadHead.j0 k true a0_0 a0_1 l0_2 l0_3 a1_0 a1_1 a1_2 a1_3 bt231.1 bt231.2.1 bt231.2.2)))
theorem impl_ReadHead.mono_l : ∀ k, (∀ y0 y1 y2 y3 y4 y5 y6 y7 y8 y9 y10 y11, LeO (impl_ReadHead.j0 k y0 y1 y2 y3 y4 y5 y6 y7 y8 y9 y10 y11) (impl_ReadHead.j0 (k + 1) y0 y1 y2 y3 y4 y5 y6 y7 y8 y9 y10 y11))
 | 0 => fun _ _ _ _ _ _ _ _ _ _ _ _ r h => by simp [impl_ReadHead.j0] at h
 | k + 1 => by
  have ih0 := impl_ReadHead.mono_l k
  ·intro y0 y1 y2 y3 y4 y5 y6 y7 y8 y9 y10 y11
   unfold impl_ReadHead.j0
   repeat' first
   | (with_reducible exact ih0 _ _ _ _ _ _ _ _ _ _ _ _)
   | (with_reducible exact impl_HeadOk.mono _ _ _ _ _ _ _ _ _ _ _ _)
   | (with_reducible exact impl_SeqOk.mono _ _ _ _ _)
   | (with_reducible exact impl_opened.mono _ _ _)
   | (with_reducible exact impl_scan_fix.mono _ _ _ _ _)
   | (with_reducible exact impl_scan_se.mono _ _ _ _)
   | (with_reducible exact impl_scan_ue.mono _ _ _ _)
   | (with_reducible exact LeO.refl _)
   | (with_reducible exact LeO.none _)
   | (with_reducible refine LeO.ite ?_ ?_)
   | (with_reducible refine LeO.bind ?_ (fun _ => ?_))
   | exact ih0 _ _ _ _ _ _ _ _ _ _ _ _
   | exact impl_HeadOk.mono _ _ _ _ _ _ _ _ _ _ _ _
   | exact impl_SeqOk.mono _ _ _ _ _
   | exact impl_opened.mono _ _ _
   | exact impl_scan_fix.mono _ _ _ _ _
   | exact impl_scan_se.mono _ _ _ _
   | exact impl_scan_ue.mono _ _ _ _
   | exact LeO.none _
   | refine LeO.ite ?_ ?_
   | refine LeO.bind ?_ (fun _ => ?_)
theorem impl_ReadHead.mono : ∀ a0 a1 a2 a3 a4 a5 a6 a7 a8 k, LeO (impl_ReadHead.f k a0 a1 a2 a3 a4 a5 a6 a7 a8) (impl_ReadHead.f (k + 1) a0 a1 a2 a3 a4 a5 a6 a7 a8) := by
 intro a0 a1 a2 a3 a4 a5 a6 a7 a8 k
 have ih0 := impl_ReadHead.mono_l k
 unfold impl_ReadHead.f
 repeat' first
   | (with_reducible exact ih0 _ _ _ _ _ _ _ _ _ _ _ _)
   | (with_reducible exact impl_HeadOk.mono _ _ _ _ _ _ _ _ _ _ _ _)
   | (with_reducible exact impl_SeqOk.mono _ _ _ _ _)
   | (with_reducible exact impl_opened.mono _ _ _)
   | (with_reducible exact impl_scan_fix.mono _ _ _ _ _)
   | (with_reducible exact impl_scan_se.mono _ _ _ _)
   | (with_reducible exact impl_scan_ue.mono _ _ _ _)
   | (with_reducible exact LeO.refl _)
   | (with_reducible exact LeO.none _)
   | (with_reducible refine LeO.ite ?_ ?_)
   | (with_reducible refine LeO.bind ?_ (fun _ => ?_))
   | exact ih0 _ _ _ _ _ _ _ _ _ _ _ _
   | exact impl_HeadOk.mono _ _ _ _ _ _ _ _ _ _ _ _
   | exact impl_SeqOk.mono _ _ _ _ _
   | exact impl_opened.mono _ _ _
   | exact impl_scan_fix.mono _ _ _ _ _
   | exact impl_scan_se.mono _ _ _ _
   | exact impl_scan_ue.mono _ _ _ _
   | exact LeO.none _
   | refine LeO.ite ?_ ?_
   | refine LeO.bind ?_ (fun _ => ?_)
def impl_ReadHead.T10 : Bool × List (List Nat × List Nat) := (true, [([], []), ([], []), ([1], [1]), ([2], [2]), ([3], [3]), ([0, 0], [0]), ([4, 5, 0, 1, 2, 3, 4, 5], [4]), ([6, 0, 1, 2, 3, 4, 5, 6], [])])
def impl_ReadHead.B10 : List Nat := [0, 0, 2, 6, 14, 1, 63, 127]
theorem impl_ReadHead.tab10 : rtab .any (opsOf Try.f23 10) = impl_ReadHead.T10 := by kernel_rfl
theorem impl_ReadHead.bits10 : zd1 impl_ReadHead.T10.2 impl_ReadHead.B10 = true := by kernel_rfl
set_option maxHeartbeats 8000000 in
set_option maxRecDepth 100000 in
theorem impl_ReadHead.calls (k : Nat) (a0_0 : Int) (a0_1 : Int) (A0_2 : Option Addr) (c0_2 : Nat) (l0_2 : List Int) (A0_3 : Option Addr) (c0_3 : Nat) (l0_3 : List Int) (a1_0 : Int) (a1_1 : Bool) (a1_2 : Bool) (a1_3 : Bool) (a2 : ByteArray) (r1 : Int) (r2 : Int) (r3 : Int) (r4 : Int) (r5 : Bool) (w : World) (hr0_2 : Kd.C (Kd.int .i64) w A0_2 l0_2.length l0_2) (hc0_2 : l0_2.length ≤ c0_2) (hr0_3 : Kd.C (Kd.int .i64) w A0_3 l0_3.length l0_3) (hc0_3 : l0_3.length ≤ c0_3) (h : impl_ReadHead.f k a0_0 a0_1 l0_2 l0_3 a1_0 a1_1 a1_2 a1_3 a2 = some (r1, r2, r3, r4, r5)) :
  Calls Try.prog 23 #[.agg #[.int .i64 a0_0, .int .i64 a0_1, .slice A0_2 l0_2.length c0_2, .slice A0_3 l0_3.length c0_3], .agg #[.int .i64 a1_0, .bool a1_1, .bool a1_2, .bool a1_3], .string a2] w fun e w' => e = .returned (.tuple #[.agg #[.int .i64 r1, .int .i64 r2, .int .i64 r3], .int .i64 r4, .bool r5]) ∧ Below w.heap.size w w' := by
 have hu37 := Try.underlying37
 have hu39 := Try.underlying39
 have hu34 := Try.underlying34
 have HR0_2 := Aside0.mk hr0_2
 have HC0_2 := Aside0.mk hc0_2
 clear hr0_2 hc0_2
 have HR0_3 := Aside0.mk hr0_3
 have HC0_3 := Aside0.mk hc0_3
 clear hr0_3 hc0_3
 have HB := Aside0.mk (Below.refl w.heap.size w)
 have H : ((impl_opened.f k a2 0).bind fun bt231 => ((impl_SeqOk.f k a0_0 a0_1 l0_2 l0_3).bind fun t235 => (if t235 = true then ((impl_ParOk.f a1_0 a1_1 a1_2 a1_3).bind fun t236 => (impl_ReadHead.j0 k (!t236) a0_0 a0_1 l0_2 l0_3 a1_0 a1_1 a1_2 a1_3 bt231.1 bt231.2.1 bt231.2.2)) else (impl_ReadHead.j0 k true a0_0 a0_1 l0_2 l0_3 a1_0 a1_1 a1_2 a1_3 bt231.1 bt231.2.1 bt231.2.2)))) = some (r1, r2, r3, r4, r5) := h
 clear h
 replace H := Option.bind_eq_some_iff.mp H
 obtain ⟨⟨t231, t232, t233⟩, A40, H⟩ := H
 replace H : ((impl_SeqOk.f k a0_0 a0_1 l0_2 l0_3).bind fun t235 => (if t235 = true then ((impl_ParOk.f a1_0 a1_1 a1_2 a1_3).bind fun t236 => (impl_ReadHead.j0 k (!t236) a0_0 a0_1 l0_2 l0_3 a1_0 a1_1 a1_2 a1_3 t231 t232 t233)) else (impl_ReadHead.j0 k true a0_0 a0_1 l0_2 l0_3 a1_0 a1_1 a1_2 a1_3 t231 t232 t233))) = some (r1, r2, r3, r4, r5) := H
 have A4 := Aside0.mk A40
 clear A40
 have HC5 := Aside0.mk H
 clear H
 go_enter Try.func23, Try.ntmps23
 go_upto_region 2 with (first | ((with_reducible refine zl (N := 3) rfl ?_); refine zj ?hg (N := 3) ?hd (cs := #[.int .i64 a0_0, .int .i64 a0_1, .slice A0_2 l0_2.length c0_2, .slice A0_3 l0_3.length c0_3]) (t := 37) ?hr ?_; (case hd => rfl); (case hg => rfl); (case hr => first | (go_simp; done) | (go_simp; rfl)); intro gb228 hg w6 hbox hb; have n0_ := Aside0.mk (zc (by repeat (first | (with_reducible first | exact HB.out | apply z7 | apply z1 | apply z6) | exact HB.out)) hb); have n1_ := Aside0.mk (hbox); have n2_ := Aside0.mk ((by rw [hg]; exact (zb (by repeat (first | (with_reducible first | exact HB.out | apply z7 | apply z1 | apply z6) | exact HB.out))) : w.heap.size ≤ gb228)); have n3_ := Aside0.mk ((by rw [hg]; exact (zb (by repeat (first | (with_reducible first | exact HB.out | apply z7 | apply z1 | apply z6) | exact HB.out))) : w.heap.size ≤ gb228)); clear HB; have HB := n0_; have BK228 := n1_; have GW228 := n2_; have GE228 := n3_; clear n0_ n1_ n2_ n3_; clear hb hbox hg) | ((with_reducible refine zl (N := 4) rfl ?_); refine zj ?hg (N := 4) ?hd (cs := #[.int .i64 a1_0, .bool a1_1, .bool a1_2, .bool a1_3]) (t := 39) ?hr ?_; (case hd => rfl); (case hg => rfl); (case hr => first | (go_simp; done) | (go_simp; rfl)); intro gb229 hg w7 hbox hb; have n0_ := Aside0.mk (za (g := gb228) (o := .cells #[.int .i64 a0_0, .int .i64 a0_1, .slice A0_2 l0_2.length c0_2, .slice A0_3 l0_3.length c0_3] 37 (0, 0)) (by (with_reducible repeat (first | refine z5 ?_ _ | refine z8 ?_ | refine z4 ?_ _)); exact BK228.out) hb); have n1_ := Aside0.mk (zc (by repeat (first | (with_reducible first | exact HB.out | apply z7 | apply z1 | apply z6 | refine z2 ?_ GE228.out) | exact HB.out)) hb); have n2_ := Aside0.mk (hbox); have n3_ := Aside0.mk ((by rw [hg]; exact (zb (by repeat (first | (with_reducible first | exact HB.out | apply z7 | apply z1 | apply z6 | refine z2 ?_ GE228.out) | exact HB.out))) : w.heap.size ≤ gb229)); have n4_ := Aside0.mk ((by rw [hg]; exact (zb (by repeat (first | (with_reducible first | exact HB.out | apply z7 | apply z1 | apply z6 | refine z2 ?_ GE228.out) | exact HB.out))) : w.heap.size ≤ gb229)); have n5_ := Aside0.mk ((by rw [hg]; exact Nat.ne_of_lt (zi (g := gb228) (o := .cells #[.int .i64 a0_0, .int .i64 a0_1, .slice A0_2 l0_2.length c0_2, .slice A0_3 l0_3.length c0_3] 37 (0, 0)) (by (with_reducible repeat (first | refine z5 ?_ _ | refine z8 ?_ | refine z4 ?_ _)); exact BK228.out)) : gb228 ≠ gb229)); have n6_ := Aside0.mk ((by rw [hg]; exact Nat.ne_of_gt (zi (g := gb228) (o := .cells #[.int .i64 a0_0, .int .i64 a0_1, .slice A0_2 l0_2.length c0_2, .slice A0_3 l0_3.length c0_3] 37 (0, 0)) (by (with_reducible repeat (first | refine z5 ?_ _ | refine z8 ?_ | refine z4 ?_ _)); exact BK228.out)) : gb229 ≠ gb228)); clear BK228; clear HB; have BK228 := n0_; have HB := n1_; have BK229 := n2_; have GW229 := n3_; have GE229 := n4_; have NB228_229 := n5_; have NB229_228 := n6_; clear n0_ n1_ n2_ n3_ n4_ n5_ n6_; clear hb hbox hg) | ((with_reducible refine zl (N := 6) rfl ?_); refine zj ?hg (N := 6) ?hd (cs := #[.int .i64 0, .int .i64 0, .int .i64 0]) (t := 34) ?hr ?_; (case hd => rfl); (case hg => rfl); (case hr => first | (go_simp; done) | (go_simp; rfl)); intro gb230 hg w8 hbox hb; have n0_ := Aside0.mk (za (g := gb228) (o := .cells #[.int .i64 a0_0, .int .i64 a0_1, .slice A0_2 l0_2.length c0_2, .slice A0_3 l0_3.length c0_3] 37 (0, 0)) (by (with_reducible repeat (first | refine z5 ?_ _ | refine z8 ?_ | refine z4 ?_ _)); exact BK228.out) hb); have n1_ := Aside0.mk (za (g := gb229) (o := .cells #[.int .i64 a1_0, .bool a1_1, .bool a1_2, .bool a1_3] 39 (0, 0)) (by (with_reducible repeat (first | refine z5 ?_ _ | refine z8 ?_ | refine z4 ?_ _)); exact BK229.out) hb); have n2_ := Aside0.mk (zc (by repeat (first | (with_reducible first | exact HB.out | apply z7 | apply z1 | apply z6 | refine z2 ?_ GE228.out | refine z2 ?_ GE229.out) | exact HB.out)) hb); have n3_ := Aside0.mk (hbox); have n4_ := Aside0.mk ((by rw [hg]; exact (zb (by repeat (first | (with_reducible first | exact HB.out | apply z7 | apply z1 | apply z6 | refine z2 ?_ GE228.out | refine z2 ?_ GE229.out) | exact HB.out))) : w.heap.size ≤ gb230)); have n5_ := Aside0.mk ((by rw [hg]; exact (zb (by repeat (first | (with_reducible first | exact HB.out | apply z7 | apply z1 | apply z6 | refine z2 ?_ GE228.out | refine z2 ?_ GE229.out) | exact HB.out))) : w.heap.size ≤ gb230)); have n6_ := Aside0.mk ((by rw [hg]; exact Nat.ne_of_lt (zi (g := gb228) (o := .cells #[.int .i64 a0_0, .int .i64 a0_1, .slice A0_2 l0_2.length c0_2, .slice A0_3 l0_3.length c0_3] 37 (0, 0)) (by (with_reducible repeat (first | refine z5 ?_ _ | refine z8 ?_ | refine z4 ?_ _)); exact BK228.out)) : gb228 ≠ gb230)); have n7_ := Aside0.mk ((by rw [hg]; exact Nat.ne_of_gt (zi (g := gb228) (o := .cells #[.int .i64 a0_0, .int .i64 a0_1, .slice A0_2 l0_2.length c0_2, .slice A0_3 l0_3.length c0_3] 37 (0, 0)) (by (with_reducible repeat (first | refine z5 ?_ _ | refine z8 ?_ | refine z4 ?_ _)); exact BK228.out)) : gb230 ≠ gb228)); have n8_ := Aside0.mk ((by rw [hg]; exact Nat.ne_of_lt (zi (g := gb229) (o := .cells #[.int .i64 a1_0, .bool a1_1, .bool a1_2, .bool a1_3] 39 (0, 0)) (by (with_reducible repeat (first | refine z5 ?_ _ | refine z8 ?_ | refine z4 ?_ _)); exact BK229.out)) : gb229 ≠ gb230)); have n9_ := Aside0.mk ((by rw [hg]; exact Nat.ne_of_gt (zi (g := gb229) (o := .cells #[.int .i64 a1_0, .bool a1_1, .bool a1_2, .bool a1_3] 39 (0, 0)) (by (with_reducible repeat (first | refine z5 ?_ _ | refine z8 ?_ | refine z4 ?_ _)); exact BK229.out)) : gb230 ≠ gb229)); clear BK228; clear BK229; clear HB; have BK228 := n0_; have BK229 := n1_; have HB := n2_; have BK230 := n3_; have GW230 := n4_; have GE230 := n5_; have NB228_230 := n6_; have NB230_228 := n7_; have NB229_230 := n8_; have NB230_229 := n9_; clear n0_ n1_ n2_ n3_ n4_ n5_ n6_ n7_ n8_ n9_; clear hb hbox hg) | ((with_reducible refine zg (f := 60) rfl ?_); refine zr (some 12) rfl rfl Try.func60 (by kernel_rfl) rfl #[.string a2, .int .i64 0] rfl (by (try simp only [List.map_toArray, List.map_cons, List.map_nil]); first | done | rfl | (simp only [List.length_drop, List.length_take]; rfl)) ?_; (with_reducible refine (impl_opened.calls k a2 0 t231 t232 t233 w _ ?side1 A4.out).mono ?_); (case side1 => repeat (first | (with_reducible first | exact HB.out | apply z7 | apply z1 | apply z6 | refine z2 ?_ GE228.out | refine z2 ?_ GE229.out | refine z2 ?_ GE230.out) | exact HB.out)); rintro e w9 ⟨g234, rfl, hi, hb, hb2⟩; refine ⟨_, rfl, ?_⟩; have n0_ := Aside0.mk (za (g := gb228) (o := .cells #[.int .i64 a0_0, .int .i64 a0_1, .slice A0_2 l0_2.length c0_2, .slice A0_3 l0_3.length c0_3] 37 (0, 0)) (by (with_reducible repeat (first | refine z5 ?_ _ | refine z8 ?_ | refine z4 ?_ _)); exact BK228.out) hb2); have n1_ := Aside0.mk (za (g := gb229) (o := .cells #[.int .i64 a1_0, .bool a1_1, .bool a1_2, .bool a1_3] 39 (0, 0)) (by (with_reducible repeat (first | refine z5 ?_ _ | refine z8 ?_ | refine z4 ?_ _)); exact BK229.out) hb2); have n2_ := Aside0.mk (za (g := gb230) (o := .cells #[.int .i64 0, .int .i64 0, .int .i64 0] 34 (0, 0)) (by (with_reducible repeat (first | refine z5 ?_ _ | refine z8 ?_ | refine z4 ?_ _)); exact BK230.out) hb2); have n3_ := Aside0.mk (hb); have n4_ := Aside0.mk (hi); have n5_ := Aside0.mk (IsS73.ne_blk hi (za (g := gb228) (o := .cells #[.int .i64 a0_0, .int .i64 a0_1, .slice A0_2 l0_2.length c0_2, .slice A0_3 l0_3.length c0_3] 37 (0, 0)) (by (with_reducible repeat (first | refine z5 ?_ _ | refine z8 ?_ | refine z4 ?_ _)); exact BK228.out) hb2) (by decide)); have n6_ := Aside0.mk (Ne.symm (IsS73.ne_blk hi (za (g := gb228) (o := .cells #[.int .i64 a0_0, .int .i64 a0_1, .slice A0_2 l0_2.length c0_2, .slice A0_3 l0_3.length c0_3] 37 (0, 0)) (by (with_reducible repeat (first | refine z5 ?_ _ | refine z8 ?_ | refine z4 ?_ _)); exact BK228.out) hb2) (by decide))); have n7_ := Aside0.mk (IsS73.ne_blk hi (za (g := gb229) (o := .cells #[.int .i64 a1_0, .bool a1_1, .bool a1_2, .bool a1_3] 39 (0, 0)) (by (with_reducible repeat (first | refine z5 ?_ _ | refine z8 ?_ | refine z4 ?_ _)); exact BK229.out) hb2) (by decide)); have n8_ := Aside0.mk (Ne.symm (IsS73.ne_blk hi (za (g := gb229) (o := .cells #[.int .i64 a1_0, .bool a1_1, .bool a1_2, .bool a1_3] 39 (0, 0)) (by (with_reducible repeat (first | refine z5 ?_ _ | refine z8 ?_ | refine z4 ?_ _)); exact BK229.out) hb2) (by decide))); have n9_ := Aside0.mk (IsS73.ne_blk hi (za (g := gb230) (o := .cells #[.int .i64 0, .int .i64 0, .int .i64 0] 34 (0, 0)) (by (with_reducible repeat (first | refine z5 ?_ _ | refine z8 ?_ | refine z4 ?_ _)); exact BK230.out) hb2) (by decide)); have n10_ := Aside0.mk (Ne.symm (IsS73.ne_blk hi (za (g := gb230) (o := .cells #[.int .i64 0, .int .i64 0, .int .i64 0] 34 (0, 0)) (by (with_reducible repeat (first | refine z5 ?_ _ | refine z8 ?_ | refine z4 ?_ _)); exact BK230.out) hb2) (by decide))); clear BK228; clear BK229; clear BK230; clear HB; have BK228 := n0_; have BK229 := n1_; have BK230 := n2_; have HB := n3_; have HI234 := n4_; have NB234_228 := n5_; have NB228_234 := n6_; have NB234_229 := n7_; have NB229_234 := n8_; have NB234_230 := n9_; have NB230_234 := n10_; clear n0_ n1_ n2_ n3_ n4_ n5_ n6_ n7_ n8_ n9_ n10_; (try clear hb); (try clear hb2); (try clear hk); (try clear hi)))
 (try simp only [Act.put, List.setIfInBounds_toArray, List.set_cons_zero, List.set_cons_succ])
 go_cut [20] (fun v20 wc => ∃ (kq : Nat) (x20_4 : Bool), v20 = .bool x20_4 ∧ Aside0 (impl_ReadHead.j0 kq x20_4 a0_0 a0_1 l0_2 l0_3 a1_0 a1_1 a1_2 a1_3 t231 t232 t233 = some (r1, r2, r3, r4, r5)) ∧ Aside0 (kq ≤ k) ∧ Aside0 (wc.heap[gb228]? = some (.cells #[.int .i64 a0_0, .int .i64 a0_1, (.slice A0_2 l0_2.length c0_2), (.slice A0_3 l0_3.length c0_3)] 37 (0, 0))) ∧ Aside0 (wc.heap[gb229]? = some (.cells #[.int .i64 a1_0, .bool a1_1, .bool a1_2, .bool a1_3] 39 (0, 0))) ∧ Aside0 (wc.heap[gb230]? = some (.cells #[.int .i64 0, .int .i64 0, .int .i64 0] 34 (0, 0))) ∧ Aside0 (IsS73 w wc g234 t231 t232 t233) ∧ Aside0 (Below w.heap.size w wc))
 case first =>
  have H := HC5.out
  clear HC5
  replace H := Option.bind_eq_some_iff.mp H
  obtain ⟨t235, A100, H⟩ := H
  replace H : (if t235 = true then ((impl_ParOk.f a1_0 a1_1 a1_2 a1_3).bind fun t236 => (impl_ReadHead.j0 k (!t236) a0_0 a0_1 l0_2 l0_3 a1_0 a1_1 a1_2 a1_3 t231 t232 t233)) else (impl_ReadHead.j0 k true a0_0 a0_1 l0_2 l0_3 a1_0 a1_1 a1_2 a1_3 t231 t232 t233)) = some (r1, r2, r3, r4, r5) := H
  have A10 := Aside0.mk A100
  clear A100
  by_cases c11 : t235 = true
  ·subst c11
   have H1 : ((impl_ParOk.f a1_0 a1_1 a1_2 a1_3).bind fun t236 => (impl_ReadHead.j0 k (!t236) a0_0 a0_1 l0_2 l0_3 a1_0 a1_1 a1_2 a1_3 t231 t232 t233)) = some (r1, r2, r3, r4, r5) := by rw [if_pos rfl] at H; exact H
   clear H
   have H := H1
   clear H1
   replace H := Option.bind_eq_some_iff.mp H
   obtain ⟨t236, A120, H⟩ := H
   replace H : (impl_ReadHead.j0 k (!t236) a0_0 a0_1 l0_2 l0_3 a1_0 a1_1 a1_2 a1_3 t231 t232 t233) = some (r1, r2, r3, r4, r5) := H
   have A12 := Aside0.mk A120
   clear A120
   have H' := Aside0.mk H
   clear H
   have hnb13 := NB228_229.out
   have hnc13 := NB229_228.out
   have hnb14 := NB228_230.out
   have hnc14 := NB230_228.out
   have hnb15 := NB228_234.out
   have hnc15 := NB234_228.out
   have hcz16_0 : w9.cell? ⟨gb228, 0, none⟩ = some (.int .i64 a0_0) := (z3 BK228.out 0).trans rfl
   have hcz16_1 : w9.cell? ⟨gb228, 1, none⟩ = some (.int .i64 a0_1) := (z3 BK228.out 1).trans rfl
   have hcz16_2 : w9.cell? ⟨gb228, 2, none⟩ = some (.slice A0_2 l0_2.length c0_2) := (z3 BK228.out 2).trans rfl
   have hcz16_3 : w9.cell? ⟨gb228, 3, none⟩ = some (.slice A0_3 l0_3.length c0_3) := (z3 BK228.out 3).trans rfl
   have hfz16_0 := z9 BK228.out 0
   have hfz16_1 := z9 BK228.out 1
   have hfz16_2 := z9 BK228.out 2
   have hfz16_3 := z9 BK228.out 3
   go_wp2_with (first | ((with_reducible refine zg (f := 61) rfl ?_); refine zr (some 14) rfl rfl Try.func61 (by kernel_rfl) rfl #[.agg #[.int .i64 a0_0, .int .i64 a0_1, .slice A0_2 l0_2.length c0_2, .slice A0_3 l0_3.length c0_3]] rfl (by (try simp only [List.map_toArray, List.map_cons, List.map_nil]); first | done | rfl | (simp only [List.length_drop, List.length_take]; rfl)) ?_; (with_reducible refine (impl_SeqOk.calls k a0_0 a0_1 _ _ l0_2 _ _ l0_3 true _ ?side1 ?side2 ?side3 ?side4 A10.out).mono ?_); (case side1 => repeat (first | exact (Kd.C_below HR0_2.out HB.out) | (with_reducible refine Kd.C_alloc ?_ _) | (with_reducible refine Kd.C_drewN ?_ _) | (with_reducible refine Kd.C_drew ?_))); (case side2 => exact HC0_2.out); (case side3 => repeat (first | exact (Kd.C_below HR0_3.out HB.out) | (with_reducible refine Kd.C_alloc ?_ _) | (with_reducible refine Kd.C_drewN ?_ _) | (with_reducible refine Kd.C_drew ?_))); (case side4 => exact HC0_3.out); rintro e w17 ⟨rfl, hb⟩; refine ⟨_, rfl, ?_⟩; have n0_ := Aside0.mk (za (g := gb228) (o := .cells #[.int .i64 a0_0, .int .i64 a0_1, .slice A0_2 l0_2.length c0_2, .slice A0_3 l0_3.length c0_3] 37 (0, 0)) (by (with_reducible repeat (first | refine z5 ?_ _ | refine z8 ?_ | refine z4 ?_ _)); exact BK228.out) hb); have n1_ := Aside0.mk (za (g := gb229) (o := .cells #[.int .i64 a1_0, .bool a1_1, .bool a1_2, .bool a1_3] 39 (0, 0)) (by (with_reducible repeat (first | refine z5 ?_ _ | refine z8 ?_ | refine z4 ?_ _)); exact BK229.out) hb); have n2_ := Aside0.mk (za (g := gb230) (o := .cells #[.int .i64 0, .int .i64 0, .int .i64 0] 34 (0, 0)) (by (with_reducible repeat (first | refine z5 ?_ _ | refine z8 ?_ | refine z4 ?_ _)); exact BK230.out) hb); have n3_ := Aside0.mk (IsS73.below (by repeat (first | (with_reducible first | exact HI234.out | apply IsS73.alloc | apply IsS73.drewN | apply IsS73.drew | apply IsS73.set_0 | apply IsS73.set_1 | apply IsS73.set_2 | refine IsS73.far ?_ NB234_228.out _ | refine IsS73.far ?_ NB234_229.out _ | refine IsS73.far ?_ NB234_230.out _) | exact HI234.out)) hb); have n4_ := Aside0.mk (zc (by repeat (first | (with_reducible first | exact HB.out | apply z7 | apply z1 | apply z6 | refine z2 ?_ (IsS73.ge HI234.out) | refine z2 ?_ GE228.out | refine z2 ?_ GE229.out | refine z2 ?_ GE230.out) | exact HB.out)) hb); clear BK228; clear BK229; clear BK230; clear HI234; clear HB; have BK228 := n0_; have BK229 := n1_; have BK230 := n2_; have HI234 := n3_; have HB := n4_; clear n0_ n1_ n2_ n3_ n4_; (try clear hb); (try clear hb2); (try clear hk); (try clear hi); have hnb18 := NB229_230.out; have hnc18 := NB230_229.out; have hnb19 := NB229_234.out; have hnc19 := NB234_229.out; have hcz20_0 : w17.cell? ⟨gb229, 0, none⟩ = some (.int .i64 a1_0) := (z3 BK229.out 0).trans rfl; have hcz20_1 : w17.cell? ⟨gb229, 1, none⟩ = some (.bool a1_1) := (z3 BK229.out 1).trans rfl; have hcz20_2 : w17.cell? ⟨gb229, 2, none⟩ = some (.bool a1_2) := (z3 BK229.out 2).trans rfl; have hcz20_3 : w17.cell? ⟨gb229, 3, none⟩ = some (.bool a1_3) := (z3 BK229.out 3).trans rfl; have hfz20_0 := z9 BK229.out 0; have hfz20_1 := z9 BK229.out 1; have hfz20_2 := z9 BK229.out 2; have hfz20_3 := z9 BK229.out 3) | (go_at_call 62; (with_reducible refine (impl_ParOk.calls a1_0 a1_1 a1_2 a1_3 t236 _ A12.out).mono ?_); rintro e w21 ⟨rfl, hb⟩; have n0_ := Aside0.mk (za (g := gb228) (o := .cells #[.int .i64 a0_0, .int .i64 a0_1, .slice A0_2 l0_2.length c0_2, .slice A0_3 l0_3.length c0_3] 37 (0, 0)) (by (with_reducible repeat (first | refine z5 ?_ _ | refine z8 ?_ | refine z4 ?_ _)); exact BK228.out) hb); have n1_ := Aside0.mk (za (g := gb229) (o := .cells #[.int .i64 a1_0, .bool a1_1, .bool a1_2, .bool a1_3] 39 (0, 0)) (by (with_reducible repeat (first | refine z5 ?_ _ | refine z8 ?_ | refine z4 ?_ _)); exact BK229.out) hb); have n2_ := Aside0.mk (za (g := gb230) (o := .cells #[.int .i64 0, .int .i64 0, .int .i64 0] 34 (0, 0)) (by (with_reducible repeat (first | refine z5 ?_ _ | refine z8 ?_ | refine z4 ?_ _)); exact BK230.out) hb); have n3_ := Aside0.mk (IsS73.below (by repeat (first | (with_reducible first | exact HI234.out | apply IsS73.alloc | apply IsS73.drewN | apply IsS73.drew | apply IsS73.set_0 | apply IsS73.set_1 | apply IsS73.set_2 | refine IsS73.far ?_ NB234_228.out _ | refine IsS73.far ?_ NB234_229.out _ | refine IsS73.far ?_ NB234_230.out _) | exact HI234.out)) hb); have n4_ := Aside0.mk (zc (by repeat (first | (with_reducible first | exact HB.out | apply z7 | apply z1 | apply z6 | refine z2 ?_ (IsS73.ge HI234.out) | refine z2 ?_ GE228.out | refine z2 ?_ GE229.out | refine z2 ?_ GE230.out) | exact HB.out)) hb); clear BK228; clear BK229; clear BK230; clear HI234; clear HB; have BK228 := n0_; have BK229 := n1_; have BK230 := n2_; have HI234 := n3_; have HB := n4_; clear n0_ n1_ n2_ n3_ n4_; (try clear hb); (try clear hb2); (try clear hk); (try clear hi)))
   go_meet
   case rel => exact ⟨_, (!t236), (by first | rfl | (simp; done) | (simp [*]; done)), H', ⟨by first | omega | exact Nat.le_refl _⟩, ⟨by (with_reducible repeat (first | refine z5 ?_ _ | refine z8 ?_ | refine z4 ?_ _)); exact BK228.out⟩, ⟨by (with_reducible repeat (first | refine z5 ?_ _ | refine z8 ?_ | refine z4 ?_ _)); exact BK229.out⟩, ⟨by (with_reducible repeat (first | refine z5 ?_ _ | refine z8 ?_ | refine z4 ?_ _)); exact BK230.out⟩, ⟨by repeat (first | (with_reducible first | exact HI234.out | apply IsS73.alloc | apply IsS73.drewN | apply IsS73.drew | apply IsS73.set_0 | apply IsS73.set_1 | apply IsS73.set_2 | refine IsS73.far ?_ NB234_228.out _ | refine IsS73.far ?_ NB234_229.out _ | refine IsS73.far ?_ NB234_230.out _) | exact HI234.out)⟩, ⟨by repeat (first | (with_reducible first | exact HB.out | apply z7 | apply z1 | apply z6 | refine z2 ?_ (IsS73.ge HI234.out) | refine z2 ?_ GE228.out | refine z2 ?_ GE229.out | refine z2 ?_ GE230.out) | exact HB.out)⟩⟩
  ·replace c11 := Bool.eq_false_iff.mpr c11
   subst c11
   have H1 : (impl_ReadHead.j0 k true a0_0 a0_1 l0_2 l0_3 a1_0 a1_1 a1_2 a1_3 t231 t232 t233) = some (r1, r2, r3, r4, r5) := by rw [if_neg (show ¬ (false = true) by decide)] at H; exact H
   clear H
   have H := H1
   clear H1
   have H' := Aside0.mk H
   clear H
   have hnb22 := NB228_229.out
   have hnc22 := NB229_228.out
   have hnb23 := NB228_230.out
   have hnc23 := NB230_228.out
   have hnb24 := NB228_234.out
   have hnc24 := NB234_228.out
   have hcz25_0 : w9.cell? ⟨gb228, 0, none⟩ = some (.int .i64 a0_0) := (z3 BK228.out 0).trans rfl
   have hcz25_1 : w9.cell? ⟨gb228, 1, none⟩ = some (.int .i64 a0_1) := (z3 BK228.out 1).trans rfl
   have hcz25_2 : w9.cell? ⟨gb228, 2, none⟩ = some (.slice A0_2 l0_2.length c0_2) := (z3 BK228.out 2).trans rfl
   have hcz25_3 : w9.cell? ⟨gb228, 3, none⟩ = some (.slice A0_3 l0_3.length c0_3) := (z3 BK228.out 3).trans rfl
   have hfz25_0 := z9 BK228.out 0
   have hfz25_1 := z9 BK228.out 1
   have hfz25_2 := z9 BK228.out 2
   have hfz25_3 := z9 BK228.out 3
   go_wp2_with (first | ((with_reducible refine zg (f := 61) rfl ?_); refine zr (some 14) rfl rfl Try.func61 (by kernel_rfl) rfl #[.agg #[.int .i64 a0_0, .int .i64 a0_1, .slice A0_2 l0_2.length c0_2, .slice A0_3 l0_3.length c0_3]] rfl (by (try simp only [List.map_toArray, List.map_cons, List.map_nil]); first | done | rfl | (simp only [List.length_drop, List.length_take]; rfl)) ?_; (with_reducible refine (impl_SeqOk.calls k a0_0 a0_1 _ _ l0_2 _ _ l0_3 false _ ?side1 ?side2 ?side3 ?side4 A10.out).mono ?_); (case side1 => repeat (first | exact (Kd.C_below HR0_2.out HB.out) | (with_reducible refine Kd.C_alloc ?_ _) | (with_reducible refine Kd.C_drewN ?_ _) | (with_reducible refine Kd.C_drew ?_))); (case side2 => exact HC0_2.out); (case side3 => repeat (first | exact (Kd.C_below HR0_3.out HB.out) | (with_reducible refine Kd.C_alloc ?_ _) | (with_reducible refine Kd.C_drewN ?_ _) | (with_reducible refine Kd.C_drew ?_))); (case side4 => exact HC0_3.out); rintro e w26 ⟨rfl, hb⟩; refine ⟨_, rfl, ?_⟩; have n0_ := Aside0.mk (za (g := gb228) (o := .cells #[.int .i64 a0_0, .int .i64 a0_1, .slice A0_2 l0_2.length c0_2, .slice A0_3 l0_3.length c0_3] 37 (0, 0)) (by (with_reducible repeat (first | refine z5 ?_ _ | refine z8 ?_ | refine z4 ?_ _)); exact BK228.out) hb); have n1_ := Aside0.mk (za (g := gb229) (o := .cells #[.int .i64 a1_0, .bool a1_1, .bool a1_2, .bool a1_3] 39 (0, 0)) (by (with_reducible repeat (first | refine z5 ?_ _ | refine z8 ?_ | refine z4 ?_ _)); exact BK229.out) hb); have n2_ := Aside0.mk (za (g := gb230) (o := .cells #[.int .i64 0, .int .i64 0, .int .i64 0] 34 (0, 0)) (by (with_reducible repeat (first | refine z5 ?_ _ | refine z8 ?_ | refine z4 ?_ _)); exact BK230.out) hb); have n3_ := Aside0.mk (IsS73.below (by repeat (first | (with_reducible first | exact HI234.out | apply IsS73.alloc | apply IsS73.drewN | apply IsS73.drew | apply IsS73.set_0 | apply IsS73.set_1 | apply IsS73.set_2 | refine IsS73.far ?_ NB234_228.out _ | refine IsS73.far ?_ NB234_229.out _ | refine IsS73.far ?_ NB234_230.out _) | exact HI234.out)) hb); have n4_ := Aside0.mk (zc (by repeat (first | (with_reducible first | exact HB.out | apply z7 | apply z1 | apply z6 | refine z2 ?_ (IsS73.ge HI234.out) | refine z2 ?_ GE228.out | refine z2 ?_ GE229.out | refine z2 ?_ GE230.out) | exact HB.out)) hb); clear BK228; clear BK229; clear BK230; clear HI234; clear HB; have BK228 := n0_; have BK229 := n1_; have BK230 := n2_; have HI234 := n3_; have HB := n4_; clear n0_ n1_ n2_ n3_ n4_; (try clear hb); (try clear hb2); (try clear hk); (try clear hi)))
   go_meet
   case rel => exact ⟨_, (true), (by first | rfl | (simp; done) | (simp [*]; done)), H', ⟨by first | omega | exact Nat.le_refl _⟩, ⟨by (with_reducible repeat (first | refine z5 ?_ _ | refine z8 ?_ | refine z4 ?_ _)); exact BK228.out⟩, ⟨by (with_reducible repeat (first | refine z5 ?_ _ | refine z8 ?_ | refine z4 ?_ _)); exact BK229.out⟩, ⟨by (with_reducible repeat (first | refine z5 ?_ _ | refine z8 ?_ | refine z4 ?_ _)); exact BK230.out⟩, ⟨by repeat (first | (with_reducible first | exact HI234.out | apply IsS73.alloc | apply IsS73.drewN | apply IsS73.drew | apply IsS73.set_0 | apply IsS73.set_1 | apply IsS73.set_2 | refine IsS73.far ?_ NB234_228.out _ | refine IsS73.far ?_ NB234_229.out _ | refine IsS73.far ?_ NB234_230.out _) | exact HI234.out)⟩, ⟨by repeat (first | (with_reducible first | exact HB.out | apply z7 | apply z1 | apply z6 | refine z2 ?_ (IsS73.ge HI234.out) | refine z2 ?_ GE228.out | refine z2 ?_ GE229.out | refine z2 ?_ GE230.out) | exact HB.out)⟩⟩
 case rest =>
  clear HC5
  try clear c1
  try clear c2
  try clear p2
  try clear c6
  try clear c11
  try clear c13
  try clear c14
  try clear c15
  try clear c18
  try clear c19
  try clear c22
  try clear c23
  try clear c24
  try clear hcz16_0
  try clear hcz16_1
  try clear hcz16_2
  try clear hcz16_3
  try clear hcz20_0
  try clear hcz20_1
  try clear hcz20_2
  try clear hcz20_3
  try clear hcz25_0
  try clear hcz25_1
  try clear hcz25_2
  try clear hcz25_3
  try clear hfz16_0
  try clear hfz16_1
  try clear hfz16_2
  try clear hfz16_3
  try clear hfz20_0
  try clear hfz20_1
  try clear hfz20_2
  try clear hfz20_3
  try clear hfz25_0
  try clear hfz25_1
  try clear hfz25_2
  try clear hfz25_3
  obtain ⟨kq, x20_4, rfl, HA, HJ4, BK228, BK229, BK230, HI234, HB⟩ := hcut
  cases kq with
  | zero => exact absurd HA.out (by simp [impl_ReadHead.j0])
  | succ kj4 =>
   have H := HA.out
   clear HA
   simp only [impl_ReadHead.j0] at H
   by_cases c27 : x20_4 = true
   ·subst c27
    have H1 : (some (0, 0, 0, 0, false)) = some (r1, r2, r3, r4, r5) := by rw [if_pos rfl] at H; exact H
    clear H
    have H := H1
    clear H1
    simp only [Option.some.injEq, Prod.mk.injEq] at H
    obtain ⟨rfl, rfl, rfl, rfl, rfl⟩ := H
    have hnb28 := NB230_228.out
    have hnc28 := NB228_230.out
    have hnb29 := NB230_229.out
    have hnc29 := NB229_230.out
    have hnb30 := NB230_234.out
    have hnc30 := NB234_230.out
    have hcz31_0 : wc.cell? ⟨gb230, 0, none⟩ = some (.int .i64 0) := (z3 BK230.out 0).trans rfl
    have hcz31_1 : wc.cell? ⟨gb230, 1, none⟩ = some (.int .i64 0) := (z3 BK230.out 1).trans rfl
    have hcz31_2 : wc.cell? ⟨gb230, 2, none⟩ = some (.int .i64 0) := (z3 BK230.out 2).trans rfl
    have hfz31_0 := z9 BK230.out 0
    have hfz31_1 := z9 BK230.out 1
    have hfz31_2 := z9 BK230.out 2
    go_wp2
    refine bodyPost_ret (z01 rfl _ _ gb230 34 #[.int .i64 0, .int .i64 0, .int .i64 0] (0, 0) _ rfl (by (with_reducible repeat (first | refine z5 ?_ _ | refine z8 ?_ | refine z4 ?_ _)); refine zo (cs := #[.int .i64 0, .int .i64 0, .int .i64 0]) ?_ 2 _ rfl; (with_reducible repeat (first | refine z5 ?_ _ | refine z8 ?_ | refine z4 ?_ _)); refine zo (cs := #[.int .i64 0, .int .i64 0, .int .i64 0]) ?_ 1 _ rfl; (with_reducible repeat (first | refine z5 ?_ _ | refine z8 ?_ | refine z4 ?_ _)); refine zo (cs := #[.int .i64 0, .int .i64 0, .int .i64 0]) ?_ 0 _ rfl; (with_reducible repeat (first | refine z5 ?_ _ | refine z8 ?_ | refine z4 ?_ _)); exact BK230.out) Try.underlying34 rfl (by kernel_rfl)) rfl ?_
    exact ⟨by first | rfl | (simp [errW_none, errW_some] <;> rfl) | (simp [*, errW_none, errW_some] <;> rfl), by repeat (first | (with_reducible first | exact HB.out | apply z7 | apply z1 | apply z6 | refine z2 ?_ (IsS73.ge HI234.out) | refine z2 ?_ GE228.out | refine z2 ?_ GE229.out | refine z2 ?_ GE230.out) | exact HB.out)⟩
   ·replace c27 := Bool.eq_false_iff.mpr c27
    subst c27
    have H1 : ((impl_scan_ue.f kj4 t231 t232 t233).bind fun bt237 => ((impl_scan_fix.f kj4 bt237.2.1 bt237.2.2.1 bt237.2.2.2 a0_1).bind fun bt242 => ((impl_scan_se.f kj4 bt242.2.1 bt242.2.2.1 bt242.2.2.2).bind fun bt246 => (if bt246.2.2.2 = true then (some (0, 0, 0, 0, false)) else ((impl_HeadOk.f kj4 a0_0 a0_1 l0_2 l0_3 a1_0 a1_1 a1_2 a1_3 bt237.1 bt242.1 (wrap64 (bt246.1 + a1_0))).bind fun t250 => (if t250 = true then (some (bt237.1, bt242.1, wrap64 (bt246.1 + a1_0), bt246.2.2.1, true)) else (some (0, 0, 0, 0, false)))))))) = some (r1, r2, r3, r4, r5) := by rw [if_neg (show ¬ (false = true) by decide)] at H; exact H
    clear H
    have H := H1
    clear H1
    replace H := Option.bind_eq_some_iff.mp H
    obtain ⟨⟨t237, t238, t239, t240⟩, A320, H⟩ := H
    replace H : ((impl_scan_fix.f kj4 t238 t239 t240 a0_1).bind fun bt242 => ((impl_scan_se.f kj4 bt242.2.1 bt242.2.2.1 bt242.2.2.2).bind fun bt246 => (if bt246.2.2.2 = true then (some (0, 0, 0, 0, false)) else ((impl_HeadOk.f kj4 a0_0 a0_1 l0_2 l0_3 a1_0 a1_1 a1_2 a1_3 t237 bt242.1 (wrap64 (bt246.1 + a1_0))).bind fun t250 => (if t250 = true then (some (t237, bt242.1, wrap64 (bt246.1 + a1_0), bt246.2.2.1, true)) else (some (0, 0, 0, 0, false))))))) = some (r1, r2, r3, r4, r5) := H
    have A32 := Aside0.mk A320
    clear A320
    replace H := Option.bind_eq_some_iff.mp H
    obtain ⟨⟨t242, t243, t244, t245⟩, A330, H⟩ := H
    replace H : ((impl_scan_se.f kj4 t243 t244 t245).bind fun bt246 => (if bt246.2.2.2 = true then (some (0, 0, 0, 0, false)) else ((impl_HeadOk.f kj4 a0_0 a0_1 l0_2 l0_3 a1_0 a1_1 a1_2 a1_3 t237 t242 (wrap64 (bt246.1 + a1_0))).bind fun t250 => (if t250 = true then (some (t237, t242, wrap64 (bt246.1 + a1_0), bt246.2.2.1, true)) else (some (0, 0, 0, 0, false)))))) = some (r1, r2, r3, r4, r5) := H
    have A33 := Aside0.mk A330
    clear A330
    replace H := Option.bind_eq_some_iff.mp H
    obtain ⟨⟨t246, t247, t248, t249⟩, A340, H⟩ := H
    replace H : (if t249 = true then (some (0, 0, 0, 0, false)) else ((impl_HeadOk.f kj4 a0_0 a0_1 l0_2 l0_3 a1_0 a1_1 a1_2 a1_3 t237 t242 (wrap64 (t246 + a1_0))).bind fun t250 => (if t250 = true then (some (t237, t242, wrap64 (t246 + a1_0), t248, true)) else (some (0, 0, 0, 0, false))))) = some (r1, r2, r3, r4, r5) := H
    have A34 := Aside0.mk A340
    clear A340
    by_cases c35 : t249 = true
    ·subst c35
     have H1 : (some (0, 0, 0, 0, false)) = some (r1, r2, r3, r4, r5) := by rw [if_pos rfl] at H; exact H
     clear H
     have H := H1
     clear H1
     simp only [Option.some.injEq, Prod.mk.injEq] at H
     obtain ⟨rfl, rfl, rfl, rfl, rfl⟩ := H
     go_wp2_with (first | ((with_reducible refine zg (f := 63) rfl ?_); refine zr (some 23) rfl rfl Try.func63 (by kernel_rfl) rfl #[.pointer (some ⟨g234, 0, none⟩)] rfl (by (try simp only [List.map_toArray, List.map_cons, List.map_nil]); first | done | rfl | (simp only [List.length_drop, List.length_take]; rfl)) ?_; (with_reducible refine (impl_scan_ue.calls kj4 g234 t231 t232 t233 t237 t238 t239 t240 w _ ?side1 ?side2 A32.out).mono ?_); (case side1 => repeat (first | (with_reducible first | exact HI234.out | apply IsS73.alloc | apply IsS73.drewN | apply IsS73.drew | apply IsS73.set_0 | apply IsS73.set_1 | apply IsS73.set_2 | refine IsS73.far ?_ NB234_228.out _ | refine IsS73.far ?_ NB234_229.out _ | refine IsS73.far ?_ NB234_230.out _) | exact HI234.out)); (case side2 => repeat (first | (with_reducible first | exact HB.out | apply z7 | apply z1 | apply z6 | refine z2 ?_ (IsS73.ge HI234.out) | refine z2 ?_ GE228.out | refine z2 ?_ GE229.out | refine z2 ?_ GE230.out) | exact HB.out)); rintro e w36 ⟨rfl, hi, hb, hk⟩; refine ⟨_, rfl, ?_⟩; have n0_ := Aside0.mk (KeepBut.blk hk (g' := gb228) (o := .cells #[.int .i64 a0_0, .int .i64 a0_1, .slice A0_2 l0_2.length c0_2, .slice A0_3 l0_3.length c0_3] 37 (0, 0)) (by (with_reducible repeat (first | refine z5 ?_ _ | refine z8 ?_ | refine z4 ?_ _)); exact BK228.out) NB228_234.out (by simp)); have n1_ := Aside0.mk (KeepBut.blk hk (g' := gb229) (o := .cells #[.int .i64 a1_0, .bool a1_1, .bool a1_2, .bool a1_3] 39 (0, 0)) (by (with_reducible repeat (first | refine z5 ?_ _ | refine z8 ?_ | refine z4 ?_ _)); exact BK229.out) NB229_234.out (by simp)); have n2_ := Aside0.mk (KeepBut.blk hk (g' := gb230) (o := .cells #[.int .i64 0, .int .i64 0, .int .i64 0] 34 (0, 0)) (by (with_reducible repeat (first | refine z5 ?_ _ | refine z8 ?_ | refine z4 ?_ _)); exact BK230.out) NB230_234.out (by simp)); have n3_ := Aside0.mk (hb); have n4_ := Aside0.mk (hi); clear BK228; clear BK229; clear BK230; clear HB; clear HI234; have BK228 := n0_; have BK229 := n1_; have BK230 := n2_; have HB := n3_; have HI234 := n4_; clear n0_ n1_ n2_ n3_ n4_; (try clear hb); (try clear hb2); (try clear hk); (try clear hi)) | ((with_reducible refine zl (N := 10) rfl ?_); refine zj ?hg (N := 10) ?hd (cs := #[.int .i64 0, .int .i64 0, .int .i64 0]) (t := 34) ?hr ?_; (case hd => rfl); (case hg => rfl); (case hr => first | (go_simp; done) | (go_simp; rfl)); intro gb241 hg w37 hbox hb; have n0_ := Aside0.mk (za (g := gb228) (o := .cells #[.int .i64 a0_0, .int .i64 a0_1, .slice A0_2 l0_2.length c0_2, .slice A0_3 l0_3.length c0_3] 37 (0, 0)) (by (with_reducible repeat (first | refine z5 ?_ _ | refine z8 ?_ | refine z4 ?_ _)); exact BK228.out) hb); have n1_ := Aside0.mk (za (g := gb229) (o := .cells #[.int .i64 a1_0, .bool a1_1, .bool a1_2, .bool a1_3] 39 (0, 0)) (by (with_reducible repeat (first | refine z5 ?_ _ | refine z8 ?_ | refine z4 ?_ _)); exact BK229.out) hb); have n2_ := Aside0.mk (za (g := gb230) (o := .cells #[.int .i64 0, .int .i64 0, .int .i64 0] 34 (0, 0)) (by (with_reducible repeat (first | refine z5 ?_ _ | refine z8 ?_ | refine z4 ?_ _)); exact BK230.out) hb); have n3_ := Aside0.mk (IsS73.below (by repeat (first | (with_reducible first | exact HI234.out | apply IsS73.alloc | apply IsS73.drewN | apply IsS73.drew | apply IsS73.set_0 | apply IsS73.set_1 | apply IsS73.set_2 | refine IsS73.far ?_ NB234_228.out _ | refine IsS73.far ?_ NB234_229.out _ | refine IsS73.far ?_ NB234_230.out _) | exact HI234.out)) hb); have n4_ := Aside0.mk (zc (by repeat (first | (with_reducible first | exact HB.out | apply z7 | apply z1 | apply z6 | refine z2 ?_ (IsS73.ge HI234.out) | refine z2 ?_ GE228.out | refine z2 ?_ GE229.out | refine z2 ?_ GE230.out) | exact HB.out)) hb); have n5_ := Aside0.mk (hbox); have n6_ := Aside0.mk ((by rw [hg]; exact (zb (by repeat (first | (with_reducible first | exact HB.out | apply z7 | apply z1 | apply z6 | refine z2 ?_ (IsS73.ge HI234.out) | refine z2 ?_ GE228.out | refine z2 ?_ GE229.out | refine z2 ?_ GE230.out) | exact HB.out))) : w.heap.size ≤ gb241)); have n7_ := Aside0.mk ((by rw [hg]; exact (zb (by repeat (first | (with_reducible first | exact HB.out | apply z7 | apply z1 | apply z6 | refine z2 ?_ (IsS73.ge HI234.out) | refine z2 ?_ GE228.out | refine z2 ?_ GE229.out | refine z2 ?_ GE230.out) | exact HB.out))) : w.heap.size ≤ gb241)); have n8_ := Aside0.mk ((by rw [hg]; exact Nat.ne_of_lt (zi (g := gb228) (o := .cells #[.int .i64 a0_0, .int .i64 a0_1, .slice A0_2 l0_2.length c0_2, .slice A0_3 l0_3.length c0_3] 37 (0, 0)) (by (with_reducible repeat (first | refine z5 ?_ _ | refine z8 ?_ | refine z4 ?_ _)); exact BK228.out)) : gb228 ≠ gb241)); have n9_ := Aside0.mk ((by rw [hg]; exact Nat.ne_of_gt (zi (g := gb228) (o := .cells #[.int .i64 a0_0, .int .i64 a0_1, .slice A0_2 l0_2.length c0_2, .slice A0_3 l0_3.length c0_3] 37 (0, 0)) (by (with_reducible repeat (first | refine z5 ?_ _ | refine z8 ?_ | refine z4 ?_ _)); exact BK228.out)) : gb241 ≠ gb228)); have n10_ := Aside0.mk ((by rw [hg]; exact Nat.ne_of_lt (zi (g := gb229) (o := .cells #[.int .i64 a1_0, .bool a1_1, .bool a1_2, .bool a1_3] 39 (0, 0)) (by (with_reducible repeat (first | refine z5 ?_ _ | refine z8 ?_ | refine z4 ?_ _)); exact BK229.out)) : gb229 ≠ gb241)); have n11_ := Aside0.mk ((by rw [hg]; exact Nat.ne_of_gt (zi (g := gb229) (o := .cells #[.int .i64 a1_0, .bool a1_1, .bool a1_2, .bool a1_3] 39 (0, 0)) (by (with_reducible repeat (first | refine z5 ?_ _ | refine z8 ?_ | refine z4 ?_ _)); exact BK229.out)) : gb241 ≠ gb229)); have n12_ := Aside0.mk ((by rw [hg]; exact Nat.ne_of_lt (zi (g := gb230) (o := .cells #[.int .i64 0, .int .i64 0, .int .i64 0] 34 (0, 0)) (by (with_reducible repeat (first | refine z5 ?_ _ | refine z8 ?_ | refine z4 ?_ _)); exact BK230.out)) : gb230 ≠ gb241)); have n13_ := Aside0.mk ((by rw [hg]; exact Nat.ne_of_gt (zi (g := gb230) (o := .cells #[.int .i64 0, .int .i64 0, .int .i64 0] 34 (0, 0)) (by (with_reducible repeat (first | refine z5 ?_ _ | refine z8 ?_ | refine z4 ?_ _)); exact BK230.out)) : gb241 ≠ gb230)); have n14_ := Aside0.mk ((by rw [hg]; exact Nat.ne_of_lt (IsS73.lt (show IsS73 w _ g234 t238 t239 t240 from by repeat (first | (with_reducible first | exact HI234.out | apply IsS73.alloc | apply IsS73.drewN | apply IsS73.drew | apply IsS73.set_0 | apply IsS73.set_1 | apply IsS73.set_2 | refine IsS73.far ?_ NB234_228.out _ | refine IsS73.far ?_ NB234_229.out _ | refine IsS73.far ?_ NB234_230.out _) | exact HI234.out))) : g234 ≠ gb241)); have n15_ := Aside0.mk ((by rw [hg]; exact Nat.ne_of_gt (IsS73.lt (show IsS73 w _ g234 t238 t239 t240 from by repeat (first | (with_reducible first | exact HI234.out | apply IsS73.alloc | apply IsS73.drewN | apply IsS73.drew | apply IsS73.set_0 | apply IsS73.set_1 | apply IsS73.set_2 | refine IsS73.far ?_ NB234_228.out _ | refine IsS73.far ?_ NB234_229.out _ | refine IsS73.far ?_ NB234_230.out _) | exact HI234.out))) : gb241 ≠ g234)); clear BK228; clear BK229; clear BK230; clear HI234; clear HB; have BK228 := n0_; have BK229 := n1_; have BK230 := n2_; have HI234 := n3_; have HB := n4_; have BK241 := n5_; have GW241 := n6_; have GE241 := n7_; have NB228_241 := n8_; have NB241_228 := n9_; have NB229_241 := n10_; have NB241_229 := n11_; have NB230_241 := n12_; have NB241_230 := n13_; have NB234_241 := n14_; have NB241_234 := n15_; clear n0_ n1_ n2_ n3_ n4_ n5_ n6_ n7_ n8_ n9_ n10_ n11_ n12_ n13_ n14_ n15_; clear hb hbox hg; have hnb38 := NB241_228.out; have hnc38 := NB228_241.out; have hnb39 := NB241_229.out; have hnc39 := NB229_241.out; have hnb40 := NB241_230.out; have hnc40 := NB230_241.out; have hnb41 := NB241_234.out; have hnc41 := NB234_241.out; have hcz42_0 : w37.cell? ⟨gb241, 0, none⟩ = some (.int .i64 0) := (z3 BK241.out 0).trans rfl; have hcz42_1 : w37.cell? ⟨gb241, 1, none⟩ = some (.int .i64 0) := (z3 BK241.out 1).trans rfl; have hcz42_2 : w37.cell? ⟨gb241, 2, none⟩ = some (.int .i64 0) := (z3 BK241.out 2).trans rfl; have hfz42_0 := z9 BK241.out 0; have hfz42_1 := z9 BK241.out 1; have hfz42_2 := z9 BK241.out 2; have hnb43 := NB228_229.out; have hnc43 := NB229_228.out; have hnb44 := NB228_230.out; have hnc44 := NB230_228.out; have hnb45 := NB228_234.out; have hnc45 := NB234_228.out; have hcz46_0 : w37.cell? ⟨gb228, 0, none⟩ = some (.int .i64 a0_0) := (z3 BK228.out 0).trans rfl; have hcz46_1 : w37.cell? ⟨gb228, 1, none⟩ = some (.int .i64 a0_1) := (z3 BK228.out 1).trans rfl; have hcz46_2 : w37.cell? ⟨gb228, 2, none⟩ = some (.slice A0_2 l0_2.length c0_2) := (z3 BK228.out 2).trans rfl; have hcz46_3 : w37.cell? ⟨gb228, 3, none⟩ = some (.slice A0_3 l0_3.length c0_3) := (z3 BK228.out 3).trans rfl; have hfz46_0 := z9 BK228.out 0; have hfz46_1 := z9 BK228.out 1; have hfz46_2 := z9 BK228.out 2; have hfz46_3 := z9 BK228.out 3) | ((with_reducible refine zg (f := 64) rfl ?_); refine zr (some 28) rfl rfl Try.func64 (by kernel_rfl) rfl #[.pointer (some ⟨g234, 0, none⟩), .int .i64 a0_1] rfl (by (try simp only [List.map_toArray, List.map_cons, List.map_nil]); first | done | rfl | (simp only [List.length_drop, List.length_take]; rfl)) ?_; (with_reducible refine (impl_scan_fix.calls kj4 g234 t238 t239 t240 a0_1 t242 t243 t244 t245 w _ ?side1 ?side2 A33.out).mono ?_); (case side1 => repeat (first | (with_reducible first | exact HI234.out | apply IsS73.alloc | apply IsS73.drewN | apply IsS73.drew | apply IsS73.set_0 | apply IsS73.set_1 | apply IsS73.set_2 | refine IsS73.far ?_ NB234_228.out _ | refine IsS73.far ?_ NB234_229.out _ | refine IsS73.far ?_ NB234_230.out _ | refine IsS73.far ?_ NB234_241.out _) | exact HI234.out)); (case side2 => repeat (first | (with_reducible first | exact HB.out | apply z7 | apply z1 | apply z6 | refine z2 ?_ (IsS73.ge HI234.out) | refine z2 ?_ GE228.out | refine z2 ?_ GE229.out | refine z2 ?_ GE230.out | refine z2 ?_ GE241.out) | exact HB.out)); rintro e w47 ⟨rfl, hi, hb, hk⟩; refine ⟨_, rfl, ?_⟩; have n0_ := Aside0.mk (KeepBut.blk hk (g' := gb228) (o := .cells #[.int .i64 a0_0, .int .i64 a0_1, .slice A0_2 l0_2.length c0_2, .slice A0_3 l0_3.length c0_3] 37 (0, 0)) (by (with_reducible repeat (first | refine z5 ?_ _ | refine z8 ?_ | refine z4 ?_ _)); refine zk ?_ NB228_241.out _; (with_reducible repeat (first | refine z5 ?_ _ | refine z8 ?_ | refine z4 ?_ _)); refine zk ?_ NB228_241.out _; (with_reducible repeat (first | refine z5 ?_ _ | refine z8 ?_ | refine z4 ?_ _)); refine zk ?_ NB228_241.out _; (with_reducible repeat (first | refine z5 ?_ _ | refine z8 ?_ | refine z4 ?_ _)); exact BK228.out) NB228_234.out (by simp)); have n1_ := Aside0.mk (KeepBut.blk hk (g' := gb229) (o := .cells #[.int .i64 a1_0, .bool a1_1, .bool a1_2, .bool a1_3] 39 (0, 0)) (by (with_reducible repeat (first | refine z5 ?_ _ | refine z8 ?_ | refine z4 ?_ _)); refine zk ?_ NB229_241.out _; (with_reducible repeat (first | refine z5 ?_ _ | refine z8 ?_ | refine z4 ?_ _)); refine zk ?_ NB229_241.out _; (with_reducible repeat (first | refine z5 ?_ _ | refine z8 ?_ | refine z4 ?_ _)); refine zk ?_ NB229_241.out _; (with_reducible repeat (first | refine z5 ?_ _ | refine z8 ?_ | refine z4 ?_ _)); exact BK229.out) NB229_234.out (by simp)); have n2_ := Aside0.mk (KeepBut.blk hk (g' := gb230) (o := .cells #[.int .i64 0, .int .i64 0, .int .i64 0] 34 (0, 0)) (by (with_reducible repeat (first | refine z5 ?_ _ | refine z8 ?_ | refine z4 ?_ _)); refine zk ?_ NB230_241.out _; (with_reducible repeat (first | refine z5 ?_ _ | refine z8 ?_ | refine z4 ?_ _)); refine zk ?_ NB230_241.out _; (with_reducible repeat (first | refine z5 ?_ _ | refine z8 ?_ | refine z4 ?_ _)); refine zk ?_ NB230_241.out _; (with_reducible repeat (first | refine z5 ?_ _ | refine z8 ?_ | refine z4 ?_ _)); exact BK230.out) NB230_234.out (by simp)); have n3_ := Aside0.mk (KeepBut.blk hk (g' := gb241) (o := .cells #[.int .i64 t237, .int .i64 0, .int .i64 0] 34 (0, 0)) (by (with_reducible repeat (first | refine z5 ?_ _ | refine z8 ?_ | refine z4 ?_ _)); refine zo (cs := #[.int .i64 t237, .int .i64 0, .int .i64 0]) ?_ 2 _ rfl; (with_reducible repeat (first | refine z5 ?_ _ | refine z8 ?_ | refine z4 ?_ _)); refine zo (cs := #[.int .i64 t237, .int .i64 0, .int .i64 0]) ?_ 1 _ rfl; (with_reducible repeat (first | refine z5 ?_ _ | refine z8 ?_ | refine z4 ?_ _)); refine zo (cs := #[.int .i64 0, .int .i64 0, .int .i64 0]) ?_ 0 _ rfl; (with_reducible repeat (first | refine z5 ?_ _ | refine z8 ?_ | refine z4 ?_ _)); exact BK241.out) NB241_234.out (by simp)); have n4_ := Aside0.mk (hb); have n5_ := Aside0.mk (hi); clear BK228; clear BK229; clear BK230; clear BK241; clear HB; clear HI234; have BK228 := n0_; have BK229 := n1_; have BK230 := n2_; have BK241 := n3_; have HB := n4_; have HI234 := n5_; clear n0_ n1_ n2_ n3_ n4_ n5_; (try clear hb); (try clear hb2); (try clear hk); (try clear hi); have hcz48_0 : w47.cell? ⟨gb241, 0, none⟩ = some (.int .i64 t237) := (z3 BK241.out 0).trans rfl; have hcz48_1 : w47.cell? ⟨gb241, 1, none⟩ = some (.int .i64 0) := (z3 BK241.out 1).trans rfl; have hcz48_2 : w47.cell? ⟨gb241, 2, none⟩ = some (.int .i64 0) := (z3 BK241.out 2).trans rfl; have hfz48_0 := z9 BK241.out 0; have hfz48_1 := z9 BK241.out 1; have hfz48_2 := z9 BK241.out 2) | ((with_reducible refine zg (f := 65) rfl ?_); refine zr (some 31) rfl rfl Try.func65 (by kernel_rfl) rfl #[.pointer (some ⟨g234, 0, none⟩)] rfl (by (try simp only [List.map_toArray, List.map_cons, List.map_nil]); first | done | rfl | (simp only [List.length_drop, List.length_take]; rfl)) ?_; (with_reducible refine (impl_scan_se.calls kj4 g234 t243 t244 t245 t246 t247 t248 true w _ ?side1 ?side2 A34.out).mono ?_); (case side1 => repeat (first | (with_reducible first | exact HI234.out | apply IsS73.alloc | apply IsS73.drewN | apply IsS73.drew | apply IsS73.set_0 | apply IsS73.set_1 | apply IsS73.set_2 | refine IsS73.far ?_ NB234_228.out _ | refine IsS73.far ?_ NB234_229.out _ | refine IsS73.far ?_ NB234_230.out _ | refine IsS73.far ?_ NB234_241.out _) | exact HI234.out)); (case side2 => repeat (first | (with_reducible first | exact HB.out | apply z7 | apply z1 | apply z6 | refine z2 ?_ (IsS73.ge HI234.out) | refine z2 ?_ GE228.out | refine z2 ?_ GE229.out | refine z2 ?_ GE230.out | refine z2 ?_ GE241.out) | exact HB.out)); rintro e w49 ⟨rfl, hi, hb, hk⟩; refine ⟨_, rfl, ?_⟩; have n0_ := Aside0.mk (KeepBut.blk hk (g' := gb228) (o := .cells #[.int .i64 a0_0, .int .i64 a0_1, .slice A0_2 l0_2.length c0_2, .slice A0_3 l0_3.length c0_3] 37 (0, 0)) (by (with_reducible repeat (first | refine z5 ?_ _ | refine z8 ?_ | refine z4 ?_ _)); refine zk ?_ NB228_241.out _; (with_reducible repeat (first | refine z5 ?_ _ | refine z8 ?_ | refine z4 ?_ _)); exact BK228.out) NB228_234.out (by simp)); have n1_ := Aside0.mk (KeepBut.blk hk (g' := gb229) (o := .cells #[.int .i64 a1_0, .bool a1_1, .bool a1_2, .bool a1_3] 39 (0, 0)) (by (with_reducible repeat (first | refine z5 ?_ _ | refine z8 ?_ | refine z4 ?_ _)); refine zk ?_ NB229_241.out _; (with_reducible repeat (first | refine z5 ?_ _ | refine z8 ?_ | refine z4 ?_ _)); exact BK229.out) NB229_234.out (by simp)); have n2_ := Aside0.mk (KeepBut.blk hk (g' := gb230) (o := .cells #[.int .i64 0, .int .i64 0, .int .i64 0] 34 (0, 0)) (by (with_reducible repeat (first | refine z5 ?_ _ | refine z8 ?_ | refine z4 ?_ _)); refine zk ?_ NB230_241.out _; (with_reducible repeat (first | refine z5 ?_ _ | refine z8 ?_ | refine z4 ?_ _)); exact BK230.out) NB230_234.out (by simp)); have n3_ := Aside0.mk (KeepBut.blk hk (g' := gb241) (o := .cells #[.int .i64 t237, .int .i64 t242, .int .i64 0] 34 (0, 0)) (by (with_reducible repeat (first | refine z5 ?_ _ | refine z8 ?_ | refine z4 ?_ _)); refine zo (cs := #[.int .i64 t237, .int .i64 0, .int .i64 0]) ?_ 1 _ rfl; (with_reducible repeat (first | refine z5 ?_ _ | refine z8 ?_ | refine z4 ?_ _)); exact BK241.out) NB241_234.out (by simp)); have n4_ := Aside0.mk (hb); have n5_ := Aside0.mk (hi); clear BK228; clear BK229; clear BK230; clear BK241; clear HB; clear HI234; have BK228 := n0_; have BK229 := n1_; have BK230 := n2_; have BK241 := n3_; have HB := n4_; have HI234 := n5_; clear n0_ n1_ n2_ n3_ n4_ n5_; (try clear hb); (try clear hb2); (try clear hk); (try clear hi); have hcz50_0 : w49.cell? ⟨gb241, 0, none⟩ = some (.int .i64 t237) := (z3 BK241.out 0).trans rfl; have hcz50_1 : w49.cell? ⟨gb241, 1, none⟩ = some (.int .i64 t242) := (z3 BK241.out 1).trans rfl; have hcz50_2 : w49.cell? ⟨gb241, 2, none⟩ = some (.int .i64 0) := (z3 BK241.out 2).trans rfl; have hfz50_0 := z9 BK241.out 0; have hfz50_1 := z9 BK241.out 1; have hfz50_2 := z9 BK241.out 2; have hnb51 := NB229_230.out; have hnc51 := NB230_229.out; have hnb52 := NB229_234.out; have hnc52 := NB234_229.out; have hcz53_0 : w49.cell? ⟨gb229, 0, none⟩ = some (.int .i64 a1_0) := (z3 BK229.out 0).trans rfl; have hcz53_1 : w49.cell? ⟨gb229, 1, none⟩ = some (.bool a1_1) := (z3 BK229.out 1).trans rfl; have hcz53_2 : w49.cell? ⟨gb229, 2, none⟩ = some (.bool a1_2) := (z3 BK229.out 2).trans rfl; have hcz53_3 : w49.cell? ⟨gb229, 3, none⟩ = some (.bool a1_3) := (z3 BK229.out 3).trans rfl; have hfz53_0 := z9 BK229.out 0; have hfz53_1 := z9 BK229.out 1; have hfz53_2 := z9 BK229.out 2; have hfz53_3 := z9 BK229.out 3; obtain ⟨HGz54, hgz54⟩ := HI234.out; have hcz54_0 := cellS73_0 HGz54; have hcz54_1 := cellS73_1 HGz54; have hcz54_2 := cellS73_2 HGz54; have hfz54_0 := z9 HGz54 0; have hfz54_1 := z9 HGz54 1; have hfz54_2 := z9 HGz54 2; clear HGz54 hgz54; have hnb55 := NB230_234.out; have hnc55 := NB234_230.out; have hcz56_0 : w49.cell? ⟨gb230, 0, none⟩ = some (.int .i64 0) := (z3 BK230.out 0).trans rfl; have hcz56_1 : w49.cell? ⟨gb230, 1, none⟩ = some (.int .i64 0) := (z3 BK230.out 1).trans rfl; have hcz56_2 : w49.cell? ⟨gb230, 2, none⟩ = some (.int .i64 0) := (z3 BK230.out 2).trans rfl; have hfz56_0 := z9 BK230.out 0; have hfz56_1 := z9 BK230.out 1; have hfz56_2 := z9 BK230.out 2))
     refine bodyPost_ret (z01 rfl _ _ gb230 34 #[.int .i64 0, .int .i64 0, .int .i64 0] (0, 0) _ rfl (by (with_reducible repeat (first | refine z5 ?_ _ | refine z8 ?_ | refine z4 ?_ _)); refine zo (cs := #[.int .i64 0, .int .i64 0, .int .i64 0]) ?_ 2 _ rfl; (with_reducible repeat (first | refine z5 ?_ _ | refine z8 ?_ | refine z4 ?_ _)); refine zo (cs := #[.int .i64 0, .int .i64 0, .int .i64 0]) ?_ 1 _ rfl; (with_reducible repeat (first | refine z5 ?_ _ | refine z8 ?_ | refine z4 ?_ _)); refine zo (cs := #[.int .i64 0, .int .i64 0, .int .i64 0]) ?_ 0 _ rfl; (with_reducible repeat (first | refine z5 ?_ _ | refine z8 ?_ | refine z4 ?_ _)); refine zk ?_ NB230_241.out _; (with_reducible repeat (first | refine z5 ?_ _ | refine z8 ?_ | refine z4 ?_ _)); refine zk ?_ NB230_241.out _; (with_reducible repeat (first | refine z5 ?_ _ | refine z8 ?_ | refine z4 ?_ _)); exact BK230.out) Try.underlying34 rfl (by kernel_rfl)) rfl ?_
     exact ⟨by first | rfl | (simp [errW_none, errW_some] <;> rfl) | (simp [*, errW_none, errW_some] <;> rfl), by repeat (first | (with_reducible first | exact HB.out | apply z7 | apply z1 | apply z6 | refine z2 ?_ (IsS73.ge HI234.out) | refine z2 ?_ GE228.out | refine z2 ?_ GE229.out | refine z2 ?_ GE230.out | refine z2 ?_ GE241.out) | exact HB.out)⟩
    ·replace c35 := Bool.eq_false_iff.mpr c35
     subst c35
     have H1 : ((impl_HeadOk.f kj4 a0_0 a0_1 l0_2 l0_3 a1_0 a1_1 a1_2 a1_3 t237 t242 (wrap64 (t246 + a1_0))).bind fun t250 => (if t250 = true then (some (t237, t242, wrap64 (t246 + a1_0), t248, true)) else (some (0, 0, 0, 0, false)))) = some (r1, r2, r3, r4, r5) := by rw [if_neg (show ¬ (false = true) by decide)] at H; exact H
     clear H
     have H := H1
     clear H1
     replace H := Option.bind_eq_some_iff.mp H
     obtain ⟨t250, A570, H⟩ := H
     replace H : (if t250 = true then (some (t237, t242, wrap64 (t246 + a1_0), t248, true)) else (some (0, 0, 0, 0, false))) = some (r1, r2, r3, r4, r5) := H
     have A57 := Aside0.mk A570
     clear A570
     by_cases c58 : t250 = true
     ·subst c58
      have H1 : (some (t237, t242, wrap64 (t246 + a1_0), t248, true)) = some (r1, r2, r3, r4, r5) := by rw [if_pos rfl] at H; exact H
      clear H
      have H := H1
      clear H1
      simp only [Option.some.injEq, Prod.mk.injEq] at H
      obtain ⟨rfl, rfl, rfl, rfl, rfl⟩ := H
      try go_wp2_with (first | ((with_reducible refine zg (f := 63) rfl ?_); refine zr (some 23) rfl rfl Try.func63 (by kernel_rfl) rfl #[.pointer (some ⟨g234, 0, none⟩)] rfl (by (try simp only [List.map_toArray, List.map_cons, List.map_nil]); first | done | rfl | (simp only [List.length_drop, List.length_take]; rfl)) ?_; (with_reducible refine (impl_scan_ue.calls kj4 g234 t231 t232 t233 t237 t238 t239 t240 w _ ?side1 ?side2 A32.out).mono ?_); (case side1 => repeat (first | (with_reducible first | exact HI234.out | apply IsS73.alloc | apply IsS73.drewN | apply IsS73.drew | apply IsS73.set_0 | apply IsS73.set_1 | apply IsS73.set_2 | refine IsS73.far ?_ NB234_228.out _ | refine IsS73.far ?_ NB234_229.out _ | refine IsS73.far ?_ NB234_230.out _) | exact HI234.out)); (case side2 => repeat (first | (with_reducible first | exact HB.out | apply z7 | apply z1 | apply z6 | refine z2 ?_ (IsS73.ge HI234.out) | refine z2 ?_ GE228.out | refine z2 ?_ GE229.out | refine z2 ?_ GE230.out) | exact HB.out)); rintro e w59 ⟨rfl, hi, hb, hk⟩; refine ⟨_, rfl, ?_⟩; have n0_ := Aside0.mk (KeepBut.blk hk (g' := gb228) (o := .cells #[.int .i64 a0_0, .int .i64 a0_1, .slice A0_2 l0_2.length c0_2, .slice A0_3 l0_3.length c0_3] 37 (0, 0)) (by (with_reducible repeat (first | refine z5 ?_ _ | refine z8 ?_ | refine z4 ?_ _)); exact BK228.out) NB228_234.out (by simp)); have n1_ := Aside0.mk (KeepBut.blk hk (g' := gb229) (o := .cells #[.int .i64 a1_0, .bool a1_1, .bool a1_2, .bool a1_3] 39 (0, 0)) (by (with_reducible repeat (first | refine z5 ?_ _ | refine z8 ?_ | refine z4 ?_ _)); exact BK229.out) NB229_234.out (by simp)); have n2_ := Aside0.mk (KeepBut.blk hk (g' := gb230) (o := .cells #[.int .i64 0, .int .i64 0, .int .i64 0] 34 (0, 0)) (by (with_reducible repeat (first | refine z5 ?_ _ | refine z8 ?_ | refine z4 ?_ _)); exact BK230.out) NB230_234.out (by simp)); have n3_ := Aside0.mk (hb); have n4_ := Aside0.mk (hi); clear BK228; clear BK229; clear BK230; clear HB; clear HI234; have BK228 := n0_; have BK229 := n1_; have BK230 := n2_; have HB := n3_; have HI234 := n4_; clear n0_ n1_ n2_ n3_ n4_; (try clear hb); (try clear hb2); (try clear hk); (try clear hi)) | ((with_reducible refine zl (N := 10) rfl ?_); refine zj ?hg (N := 10) ?hd (cs := #[.int .i64 0, .int .i64 0, .int .i64 0]) (t := 34) ?hr ?_; (case hd => rfl); (case hg => rfl); (case hr => first | (go_simp; done) | (go_simp; rfl)); intro gb241 hg w60 hbox hb; have n0_ := Aside0.mk (za (g := gb228) (o := .cells #[.int .i64 a0_0, .int .i64 a0_1, .slice A0_2 l0_2.length c0_2, .slice A0_3 l0_3.length c0_3] 37 (0, 0)) (by (with_reducible repeat (first | refine z5 ?_ _ | refine z8 ?_ | refine z4 ?_ _)); exact BK228.out) hb); have n1_ := Aside0.mk (za (g := gb229) (o := .cells #[.int .i64 a1_0, .bool a1_1, .bool a1_2, .bool a1_3] 39 (0, 0)) (by (with_reducible repeat (first | refine z5 ?_ _ | refine z8 ?_ | refine z4 ?_ _)); exact BK229.out) hb); have n2_ := Aside0.mk (za (g := gb230) (o := .cells #[.int .i64 0, .int .i64 0, .int .i64 0] 34 (0, 0)) (by (with_reducible repeat (first | refine z5 ?_ _ | refine z8 ?_ | refine z4 ?_ _)); exact BK230.out) hb); have n3_ := Aside0.mk (IsS73.below (by repeat (first | (with_reducible first | exact HI234.out | apply IsS73.alloc | apply IsS73.drewN | apply IsS73.drew | apply IsS73.set_0 | apply IsS73.set_1 | apply IsS73.set_2 | refine IsS73.far ?_ NB234_228.out _ | refine IsS73.far ?_ NB234_229.out _ | refine IsS73.far ?_ NB234_230.out _) | exact HI234.out)) hb); have n4_ := Aside0.mk (zc (by repeat (first | (with_reducible first | exact HB.out | apply z7 | apply z1 | apply z6 | refine z2 ?_ (IsS73.ge HI234.out) | refine z2 ?_ GE228.out | refine z2 ?_ GE229.out | refine z2 ?_ GE230.out) | exact HB.out)) hb); have n5_ := Aside0.mk (hbox); have n6_ := Aside0.mk ((by rw [hg]; exact (zb (by repeat (first | (with_reducible first | exact HB.out | apply z7 | apply z1 | apply z6 | refine z2 ?_ (IsS73.ge HI234.out) | refine z2 ?_ GE228.out | refine z2 ?_ GE229.out | refine z2 ?_ GE230.out) | exact HB.out))) : w.heap.size ≤ gb241)); have n7_ := Aside0.mk ((by rw [hg]; exact (zb (by repeat (first | (with_reducible first | exact HB.out | apply z7 | apply z1 | apply z6 | refine z2 ?_ (IsS73.ge HI234.out) | refine z2 ?_ GE228.out | refine z2 ?_ GE229.out | refine z2 ?_ GE230.out) | exact HB.out))) : w.heap.size ≤ gb241)); have n8_ := Aside0.mk ((by rw [hg]; exact Nat.ne_of_lt (zi (g := gb228) (o := .cells #[.int .i64 a0_0, .int .i64 a0_1, .slice A0_2 l0_2.length c0_2, .slice A0_3 l0_3.length c0_3] 37 (0, 0)) (by (with_reducible repeat (first | refine z5 ?_ _ | refine z8 ?_ | refine z4 ?_ _)); exact BK228.out)) : gb228 ≠ gb241)); have n9_ := Aside0.mk ((by rw [hg]; exact Nat.ne_of_gt (zi (g := gb228) (o := .cells #[.int .i64 a0_0, .int .i64 a0_1, .slice A0_2 l0_2.length c0_2, .slice A0_3 l0_3.length c0_3] 37 (0, 0)) (by (with_reducible repeat (first | refine z5 ?_ _ | refine z8 ?_ | refine z4 ?_ _)); exact BK228.out)) : gb241 ≠ gb228)); have n10_ := Aside0.mk ((by rw [hg]; exact Nat.ne_of_lt (zi (g := gb229) (o := .cells #[.int .i64 a1_0, .bool a1_1, .bool a1_2, .bool a1_3] 39 (0, 0)) (by (with_reducible repeat (first | refine z5 ?_ _ | refine z8 ?_ | refine z4 ?_ _)); exact BK229.out)) : gb229 ≠ gb241)); have n11_ := Aside0.mk ((by rw [hg]; exact Nat.ne_of_gt (zi (g := gb229) (o := .cells #[.int .i64 a1_0, .bool a1_1, .bool a1_2, .bool a1_3] 39 (0, 0)) (by (with_reducible repeat (first | refine z5 ?_ _ | refine z8 ?_ | refine z4 ?_ _)); exact BK229.out)) : gb241 ≠ gb229)); have n12_ := Aside0.mk ((by rw [hg]; exact Nat.ne_of_lt (zi (g := gb230) (o := .cells #[.int .i64 0, .int .i64 0, .int .i64 0] 34 (0, 0)) (by (with_reducible repeat (first | refine z5 ?_ _ | refine z8 ?_ | refine z4 ?_ _)); exact BK230.out)) : gb230 ≠ gb241)); have n13_ := Aside0.mk ((by rw [hg]; exact Nat.ne_of_gt (zi (g := gb230) (o := .cells #[.int .i64 0, .int .i64 0, .int .i64 0] 34 (0, 0)) (by (with_reducible repeat (first | refine z5 ?_ _ | refine z8 ?_ | refine z4 ?_ _)); exact BK230.out)) : gb241 ≠ gb230)); have n14_ := Aside0.mk ((by rw [hg]; exact Nat.ne_of_lt (IsS73.lt (show IsS73 w _ g234 t238 t239 t240 from by repeat (first | (with_reducible first | exact HI234.out | apply IsS73.alloc | apply IsS73.drewN | apply IsS73.drew | apply IsS73.set_0 | apply IsS73.set_1 | apply IsS73.set_2 | refine IsS73.far ?_ NB234_228.out _ | refine IsS73.far ?_ NB234_229.out _ | refine IsS73.far ?_ NB234_230.out _) | exact HI234.out))) : g234 ≠ gb241)); have n15_ := Aside0.mk ((by rw [hg]; exact Nat.ne_of_gt (IsS73.lt (show IsS73 w _ g234 t238 t239 t240 from by repeat (first | (with_reducible first | exact HI234.out | apply IsS73.alloc | apply IsS73.drewN | apply IsS73.drew | apply IsS73.set_0 | apply IsS73.set_1 | apply IsS73.set_2 | refine IsS73.far ?_ NB234_228.out _ | refine IsS73.far ?_ NB234_229.out _ | refine IsS73.far ?_ NB234_230.out _) | exact HI234.out))) : gb241 ≠ g234)); clear BK228; clear BK229; clear BK230; clear HI234; clear HB; have BK228 := n0_; have BK229 := n1_; have BK230 := n2_; have HI234 := n3_; have HB := n4_; have BK241 := n5_; have GW241 := n6_; have GE241 := n7_; have NB228_241 := n8_; have NB241_228 := n9_; have NB229_241 := n10_; have NB241_229 := n11_; have NB230_241 := n12_; have NB241_230 := n13_; have NB234_241 := n14_; have NB241_234 := n15_; clear n0_ n1_ n2_ n3_ n4_ n5_ n6_ n7_ n8_ n9_ n10_ n11_ n12_ n13_ n14_ n15_; clear hb hbox hg; have hnb61 := NB241_228.out; have hnc61 := NB228_241.out; have hnb62 := NB241_229.out; have hnc62 := NB229_241.out; have hnb63 := NB241_230.out; have hnc63 := NB230_241.out; have hnb64 := NB241_234.out; have hnc64 := NB234_241.out; have hcz65_0 : w60.cell? ⟨gb241, 0, none⟩ = some (.int .i64 0) := (z3 BK241.out 0).trans rfl; have hcz65_1 : w60.cell? ⟨gb241, 1, none⟩ = some (.int .i64 0) := (z3 BK241.out 1).trans rfl; have hcz65_2 : w60.cell? ⟨gb241, 2, none⟩ = some (.int .i64 0) := (z3 BK241.out 2).trans rfl; have hfz65_0 := z9 BK241.out 0; have hfz65_1 := z9 BK241.out 1; have hfz65_2 := z9 BK241.out 2; have hnb66 := NB228_229.out; have hnc66 := NB229_228.out; have hnb67 := NB228_230.out; have hnc67 := NB230_228.out; have hnb68 := NB228_234.out; have hnc68 := NB234_228.out; have hcz69_0 : w60.cell? ⟨gb228, 0, none⟩ = some (.int .i64 a0_0) := (z3 BK228.out 0).trans rfl; have hcz69_1 : w60.cell? ⟨gb228, 1, none⟩ = some (.int .i64 a0_1) := (z3 BK228.out 1).trans rfl; have hcz69_2 : w60.cell? ⟨gb228, 2, none⟩ = some (.slice A0_2 l0_2.length c0_2) := (z3 BK228.out 2).trans rfl; have hcz69_3 : w60.cell? ⟨gb228, 3, none⟩ = some (.slice A0_3 l0_3.length c0_3) := (z3 BK228.out 3).trans rfl; have hfz69_0 := z9 BK228.out 0; have hfz69_1 := z9 BK228.out 1; have hfz69_2 := z9 BK228.out 2; have hfz69_3 := z9 BK228.out 3) | ((with_reducible refine zg (f := 64) rfl ?_); refine zr (some 28) rfl rfl Try.func64 (by kernel_rfl) rfl #[.pointer (some ⟨g234, 0, none⟩), .int .i64 a0_1] rfl (by (try simp only [List.map_toArray, List.map_cons, List.map_nil]); first | done | rfl | (simp only [List.length_drop, List.length_take]; rfl)) ?_; (with_reducible refine (impl_scan_fix.calls kj4 g234 t238 t239 t240 a0_1 t242 t243 t244 t245 w _ ?side1 ?side2 A33.out).mono ?_); (case side1 => repeat (first | (with_reducible first | exact HI234.out | apply IsS73.alloc | apply IsS73.drewN | apply IsS73.drew | apply IsS73.set_0 | apply IsS73.set_1 | apply IsS73.set_2 | refine IsS73.far ?_ NB234_228.out _ | refine IsS73.far ?_ NB234_229.out _ | refine IsS73.far ?_ NB234_230.out _ | refine IsS73.far ?_ NB234_241.out _) | exact HI234.out)); (case side2 => repeat (first | (with_reducible first | exact HB.out | apply z7 | apply z1 | apply z6 | refine z2 ?_ (IsS73.ge HI234.out) | refine z2 ?_ GE228.out | refine z2 ?_ GE229.out | refine z2 ?_ GE230.out | refine z2 ?_ GE241.out) | exact HB.out)); rintro e w70 ⟨rfl, hi, hb, hk⟩; refine ⟨_, rfl, ?_⟩; have n0_ := Aside0.mk (KeepBut.blk hk (g' := gb228) (o := .cells #[.int .i64 a0_0, .int .i64 a0_1, .slice A0_2 l0_2.length c0_2, .slice A0_3 l0_3.length c0_3] 37 (0, 0)) (by (with_reducible repeat (first | refine z5 ?_ _ | refine z8 ?_ | refine z4 ?_ _)); refine zk ?_ NB228_241.out _; (with_reducible repeat (first | refine z5 ?_ _ | refine z8 ?_ | refine z4 ?_ _)); refine zk ?_ NB228_241.out _; (with_reducible repeat (first | refine z5 ?_ _ | refine z8 ?_ | refine z4 ?_ _)); refine zk ?_ NB228_241.out _; (with_reducible repeat (first | refine z5 ?_ _ | refine z8 ?_ | refine z4 ?_ _)); exact BK228.out) NB228_234.out (by simp)); have n1_ := Aside0.mk (KeepBut.blk hk (g' := gb229) (o := .cells #[.int .i64 a1_0, .bool a1_1, .bool a1_2, .bool a1_3] 39 (0, 0)) (by (with_reducible repeat (first | refine z5 ?_ _ | refine z8 ?_ | refine z4 ?_ _)); refine zk ?_ NB229_241.out _; (with_reducible repeat (first | refine z5 ?_ _ | refine z8 ?_ | refine z4 ?_ _)); refine zk ?_ NB229_241.out _; (with_reducible repeat (first | refine z5 ?_ _ | refine z8 ?_ | refine z4 ?_ _)); refine zk ?_ NB229_241.out _; (with_reducible repeat (first | refine z5 ?_ _ | refine z8 ?_ | refine z4 ?_ _)); exact BK229.out) NB229_234.out (by simp)); have n2_ := Aside0.mk (KeepBut.blk hk (g' := gb230) (o := .cells #[.int .i64 0, .int .i64 0, .int .i64 0] 34 (0, 0)) (by (with_reducible repeat (first | refine z5 ?_ _ | refine z8 ?_ | refine z4 ?_ _)); refine zk ?_ NB230_241.out _; (with_reducible repeat (first | refine z5 ?_ _ | refine z8 ?_ | refine z4 ?_ _)); refine zk ?_ NB230_241.out _; (with_reducible repeat (first | refine z5 ?_ _ | refine z8 ?_ | refine z4 ?_ _)); refine zk ?_ NB230_241.out _; (with_reducible repeat (first | refine z5 ?_ _ | refine z8 ?_ | refine z4 ?_ _)); exact BK230.out) NB230_234.out (by simp)); have n3_ := Aside0.mk (KeepBut.blk hk (g' := gb241) (o := .cells #[.int .i64 t237, .int .i64 0, .int .i64 0] 34 (0, 0)) (by (with_reducible repeat (first | refine z5 ?_ _ | refine z8 ?_ | refine z4 ?_ _)); refine zo (cs := #[.int .i64 t237, .int .i64 0, .int .i64 0]) ?_ 2 _ rfl; (with_reducible repeat (first | refine z5 ?_ _ | refine z8 ?_ | refine z4 ?_ _)); refine zo (cs := #[.int .i64 t237, .int .i64 0, .int .i64 0]) ?_ 1 _ rfl; (with_reducible repeat (first | refine z5 ?_ _ | refine z8 ?_ | refine z4 ?_ _)); refine zo (cs := #[.int .i64 0, .int .i64 0, .int .i64 0]) ?_ 0 _ rfl; (with_reducible repeat (first | refine z5 ?_ _ | refine z8 ?_ | refine z4 ?_ _)); exact BK241.out) NB241_234.out (by simp)); have n4_ := Aside0.mk (hb); have n5_ := Aside0.mk (hi); clear BK228; clear BK229; clear BK230; clear BK241; clear HB; clear HI234; have BK228 := n0_; have BK229 := n1_; have BK230 := n2_; have BK241 := n3_; have HB := n4_; have HI234 := n5_; clear n0_ n1_ n2_ n3_ n4_ n5_; (try clear hb); (try clear hb2); (try clear hk); (try clear hi); have hcz71_0 : w70.cell? ⟨gb241, 0, none⟩ = some (.int .i64 t237) := (z3 BK241.out 0).trans rfl; have hcz71_1 : w70.cell? ⟨gb241, 1, none⟩ = some (.int .i64 0) := (z3 BK241.out 1).trans rfl; have hcz71_2 : w70.cell? ⟨gb241, 2, none⟩ = some (.int .i64 0) := (z3 BK241.out 2).trans rfl; have hfz71_0 := z9 BK241.out 0; have hfz71_1 := z9 BK241.out 1; have hfz71_2 := z9 BK241.out 2) | ((with_reducible refine zg (f := 65) rfl ?_); refine zr (some 31) rfl rfl Try.func65 (by kernel_rfl) rfl #[.pointer (some ⟨g234, 0, none⟩)] rfl (by (try simp only [List.map_toArray, List.map_cons, List.map_nil]); first | done | rfl | (simp only [List.length_drop, List.length_take]; rfl)) ?_; (with_reducible refine (impl_scan_se.calls kj4 g234 t243 t244 t245 t246 t247 t248 false w _ ?side1 ?side2 A34.out).mono ?_); (case side1 => repeat (first | (with_reducible first | exact HI234.out | apply IsS73.alloc | apply IsS73.drewN | apply IsS73.drew | apply IsS73.set_0 | apply IsS73.set_1 | apply IsS73.set_2 | refine IsS73.far ?_ NB234_228.out _ | refine IsS73.far ?_ NB234_229.out _ | refine IsS73.far ?_ NB234_230.out _ | refine IsS73.far ?_ NB234_241.out _) | exact HI234.out)); (case side2 => repeat (first | (with_reducible first | exact HB.out | apply z7 | apply z1 | apply z6 | refine z2 ?_ (IsS73.ge HI234.out) | refine z2 ?_ GE228.out | refine z2 ?_ GE229.out | refine z2 ?_ GE230.out | refine z2 ?_ GE241.out) | exact HB.out)); rintro e w72 ⟨rfl, hi, hb, hk⟩; refine ⟨_, rfl, ?_⟩; have n0_ := Aside0.mk (KeepBut.blk hk (g' := gb228) (o := .cells #[.int .i64 a0_0, .int .i64 a0_1, .slice A0_2 l0_2.length c0_2, .slice A0_3 l0_3.length c0_3] 37 (0, 0)) (by (with_reducible repeat (first | refine z5 ?_ _ | refine z8 ?_ | refine z4 ?_ _)); refine zk ?_ NB228_241.out _; (with_reducible repeat (first | refine z5 ?_ _ | refine z8 ?_ | refine z4 ?_ _)); exact BK228.out) NB228_234.out (by simp)); have n1_ := Aside0.mk (KeepBut.blk hk (g' := gb229) (o := .cells #[.int .i64 a1_0, .bool a1_1, .bool a1_2, .bool a1_3] 39 (0, 0)) (by (with_reducible repeat (first | refine z5 ?_ _ | refine z8 ?_ | refine z4 ?_ _)); refine zk ?_ NB229_241.out _; (with_reducible repeat (first | refine z5 ?_ _ | refine z8 ?_ | refine z4 ?_ _)); exact BK229.out) NB229_234.out (by simp)); have n2_ := Aside0.mk (KeepBut.blk hk (g' := gb230) (o := .cells #[.int .i64 0, .int .i64 0, .int .i64 0] 34 (0, 0)) (by (with_reducible repeat (first | refine z5 ?_ _ | refine z8 ?_ | refine z4 ?_ _)); refine zk ?_ NB230_241.out _; (with_reducible repeat (first | refine z5 ?_ _ | refine z8 ?_ | refine z4 ?_ _)); exact BK230.out) NB230_234.out (by simp)); have n3_ := Aside0.mk (KeepBut.blk hk (g' := gb241) (o := .cells #[.int .i64 t237, .int .i64 t242, .int .i64 0] 34 (0, 0)) (by (with_reducible repeat (first | refine z5 ?_ _ | refine z8 ?_ | refine z4 ?_ _)); refine zo (cs := #[.int .i64 t237, .int .i64 0, .int .i64 0]) ?_ 1 _ rfl; (with_reducible repeat (first | refine z5 ?_ _ | refine z8 ?_ | refine z4 ?_ _)); exact BK241.out) NB241_234.out (by simp)); have n4_ := Aside0.mk (hb); have n5_ := Aside0.mk (hi); clear BK228; clear BK229; clear BK230; clear BK241; clear HB; clear HI234; have BK228 := n0_; have BK229 := n1_; have BK230 := n2_; have BK241 := n3_; have HB := n4_; have HI234 := n5_; clear n0_ n1_ n2_ n3_ n4_ n5_; (try clear hb); (try clear hb2); (try clear hk); (try clear hi); have hcz73_0 : w72.cell? ⟨gb241, 0, none⟩ = some (.int .i64 t237) := (z3 BK241.out 0).trans rfl; have hcz73_1 : w72.cell? ⟨gb241, 1, none⟩ = some (.int .i64 t242) := (z3 BK241.out 1).trans rfl; have hcz73_2 : w72.cell? ⟨gb241, 2, none⟩ = some (.int .i64 0) := (z3 BK241.out 2).trans rfl; have hfz73_0 := z9 BK241.out 0; have hfz73_1 := z9 BK241.out 1; have hfz73_2 := z9 BK241.out 2; have hnb74 := NB229_230.out; have hnc74 := NB230_229.out; have hnb75 := NB229_234.out; have hnc75 := NB234_229.out; have hcz76_0 : w72.cell? ⟨gb229, 0, none⟩ = some (.int .i64 a1_0) := (z3 BK229.out 0).trans rfl; have hcz76_1 : w72.cell? ⟨gb229, 1, none⟩ = some (.bool a1_1) := (z3 BK229.out 1).trans rfl; have hcz76_2 : w72.cell? ⟨gb229, 2, none⟩ = some (.bool a1_2) := (z3 BK229.out 2).trans rfl; have hcz76_3 : w72.cell? ⟨gb229, 3, none⟩ = some (.bool a1_3) := (z3 BK229.out 3).trans rfl; have hfz76_0 := z9 BK229.out 0; have hfz76_1 := z9 BK229.out 1; have hfz76_2 := z9 BK229.out 2; have hfz76_3 := z9 BK229.out 3; obtain ⟨HGz77, hgz77⟩ := HI234.out; have hcz77_0 := cellS73_0 HGz77; have hcz77_1 := cellS73_1 HGz77; have hcz77_2 := cellS73_2 HGz77; have hfz77_0 := z9 HGz77 0; have hfz77_1 := z9 HGz77 1; have hfz77_2 := z9 HGz77 2; clear HGz77 hgz77; have hcz78_0 : w72.cell? ⟨gb228, 0, none⟩ = some (.int .i64 a0_0) := (z3 BK228.out 0).trans rfl; have hcz78_1 : w72.cell? ⟨gb228, 1, none⟩ = some (.int .i64 a0_1) := (z3 BK228.out 1).trans rfl; have hcz78_2 : w72.cell? ⟨gb228, 2, none⟩ = some (.slice A0_2 l0_2.length c0_2) := (z3 BK228.out 2).trans rfl; have hcz78_3 : w72.cell? ⟨gb228, 3, none⟩ = some (.slice A0_3 l0_3.length c0_3) := (z3 BK228.out 3).trans rfl; have hfz78_0 := z9 BK228.out 0; have hfz78_1 := z9 BK228.out 1; have hfz78_2 := z9 BK228.out 2; have hfz78_3 := z9 BK228.out 3) | (go_at_call 44; (with_reducible refine (impl_HeadOk.calls kj4 a0_0 a0_1 _ _ l0_2 _ _ l0_3 a1_0 a1_1 a1_2 a1_3 t237 t242 (wrap64 (t246 + a1_0)) true _ ?side1 ?side2 ?side3 ?side4 A57.out).mono ?_); (case side1 => exact Kd.C_below HR0_2.out (by repeat (first | (with_reducible first | exact HB.out | apply z7 | apply z1 | apply z6 | refine z2 ?_ (IsS73.ge HI234.out) | refine z2 ?_ GE228.out | refine z2 ?_ GE229.out | refine z2 ?_ GE230.out | refine z2 ?_ GE241.out) | exact HB.out))); (case side2 => exact HC0_2.out); (case side3 => exact Kd.C_below HR0_3.out (by repeat (first | (with_reducible first | exact HB.out | apply z7 | apply z1 | apply z6 | refine z2 ?_ (IsS73.ge HI234.out) | refine z2 ?_ GE228.out | refine z2 ?_ GE229.out | refine z2 ?_ GE230.out | refine z2 ?_ GE241.out) | exact HB.out))); (case side4 => exact HC0_3.out); rintro e w79 ⟨rfl, hb⟩; have n0_ := Aside0.mk (za (g := gb228) (o := .cells #[.int .i64 a0_0, .int .i64 a0_1, .slice A0_2 l0_2.length c0_2, .slice A0_3 l0_3.length c0_3] 37 (0, 0)) (by (with_reducible repeat (first | refine z5 ?_ _ | refine z8 ?_ | refine z4 ?_ _)); refine zk ?_ NB228_241.out _; (with_reducible repeat (first | refine z5 ?_ _ | refine z8 ?_ | refine z4 ?_ _)); refine zk ?_ NB228_241.out _; (with_reducible repeat (first | refine z5 ?_ _ | refine z8 ?_ | refine z4 ?_ _)); exact BK228.out) hb); have n1_ := Aside0.mk (za (g := gb229) (o := .cells #[.int .i64 a1_0, .bool a1_1, .bool a1_2, .bool a1_3] 39 (0, 0)) (by (with_reducible repeat (first | refine z5 ?_ _ | refine z8 ?_ | refine z4 ?_ _)); refine zk ?_ NB229_241.out _; (with_reducible repeat (first | refine z5 ?_ _ | refine z8 ?_ | refine z4 ?_ _)); refine zk ?_ NB229_241.out _; (with_reducible repeat (first | refine z5 ?_ _ | refine z8 ?_ | refine z4 ?_ _)); exact BK229.out) hb); have n2_ := Aside0.mk (za (g := gb230) (o := .cells #[.int .i64 0, .int .i64 0, .int .i64 0] 34 (0, 0)) (by (with_reducible repeat (first | refine z5 ?_ _ | refine z8 ?_ | refine z4 ?_ _)); refine zk ?_ NB230_241.out _; (with_reducible repeat (first | refine z5 ?_ _ | refine z8 ?_ | refine z4 ?_ _)); refine zk ?_ NB230_241.out _; (with_reducible repeat (first | refine z5 ?_ _ | refine z8 ?_ | refine z4 ?_ _)); exact BK230.out) hb); have n3_ := Aside0.mk (IsS73.below (show IsS73 w ((w72.setCell ⟨gb241, 2, none⟩ (.int .i64 t246)).setCell ⟨gb241, 2, none⟩ (.int .i64 (wrap64 (t246 + a1_0)))) g234 t247 t248 false from by repeat (first | (with_reducible first | exact HI234.out | apply IsS73.alloc | apply IsS73.drewN | apply IsS73.drew | apply IsS73.set_0 | apply IsS73.set_1 | apply IsS73.set_2 | refine IsS73.far ?_ NB234_228.out _ | refine IsS73.far ?_ NB234_229.out _ | refine IsS73.far ?_ NB234_230.out _ | refine IsS73.far ?_ NB234_241.out _) | exact HI234.out)) hb); have n4_ := Aside0.mk (za (g := gb241) (o := .cells #[.int .i64 t237, .int .i64 t242, .int .i64 (wrap64 (t246 + a1_0))] 34 (0, 0)) (by (with_reducible repeat (first | refine z5 ?_ _ | refine z8 ?_ | refine z4 ?_ _)); refine zo (cs := #[.int .i64 t237, .int .i64 t242, .int .i64 t246]) ?_ 2 _ rfl; (with_reducible repeat (first | refine z5 ?_ _ | refine z8 ?_ | refine z4 ?_ _)); refine zo (cs := #[.int .i64 t237, .int .i64 t242, .int .i64 0]) ?_ 2 _ rfl; (with_reducible repeat (first | refine z5 ?_ _ | refine z8 ?_ | refine z4 ?_ _)); exact BK241.out) hb); have n5_ := Aside0.mk (zc (by repeat (first | (with_reducible first | exact HB.out | apply z7 | apply z1 | apply z6 | refine z2 ?_ (IsS73.ge HI234.out) | refine z2 ?_ GE228.out | refine z2 ?_ GE229.out | refine z2 ?_ GE230.out | refine z2 ?_ GE241.out) | exact HB.out)) hb); clear BK228; clear BK229; clear BK230; clear HI234; clear BK241; clear HB; have BK228 := n0_; have BK229 := n1_; have BK230 := n2_; have HI234 := n3_; have BK241 := n4_; have HB := n5_; clear n0_ n1_ n2_ n3_ n4_ n5_; (try clear hb); (try clear hb2); (try clear hk); (try clear hi)))
      have n0_ := Aside0.mk (z8 BK228.out)
      have n1_ := Aside0.mk (z8 BK229.out)
      have n2_ := Aside0.mk (z8 BK230.out)
      have n3_ := Aside0.mk (z8 BK241.out)
      have n4_ := Aside0.mk (IsS73.drew HI234.out)
      have n5_ := Aside0.mk (z6 HB.out)
      clear BK228
      clear BK229
      clear BK230
      clear BK241
      clear HI234
      clear HB
      have BK228 := n0_
      have BK229 := n1_
      have BK230 := n2_
      have BK241 := n3_
      have HI234 := n4_
      have HB := n5_
      clear n0_ n1_ n2_ n3_ n4_ n5_
      refine z91 (n := 8) (S := fun w' => w'.cell? ⟨gb241, 0, none⟩ = some (.int .i64 t237) ∧ w'.cell? ⟨gb241, 1, none⟩ = some (.int .i64 t242) ∧ w'.cell? ⟨gb241, 2, none⟩ = some (.int .i64 (wrap64 (t246 + a1_0))) ∧ w'.cell? ⟨g234, 0, none⟩ = some (.string t247) ∧ w'.cell? ⟨g234, 1, none⟩ = some (.int .i64 t248) ∧ w'.cell? ⟨g234, 2, none⟩ = some (.bool false)) (ds := []) #[false, false, false, false, false, false, false, false] (by kernel_rfl) rfl rfl ⟨(z3 BK241.out 0).trans rfl, (z3 BK241.out 1).trans rfl, (z3 BK241.out 2).trans rfl, (z3 HI234.out.1 0).trans rfl, (z3 HI234.out.1 1).trans rfl, (z3 HI234.out.1 2).trans rfl⟩ (fun hHeld => ?_); refine zy impl_ReadHead.tab10 impl_ReadHead.bits10 (fun HT_ HW_ => ?_)
      generalize w79.drew = w80 at BK228 BK229 BK230 BK241 HI234 HB hHeld ⊢
      refine zh (i := 1) (N := some 52) (v := ?_) (a' := ?_) #[false, true, false, false, false, false, false, false] rfl rfl (zd HT_.out (by kernel_rfl)) (fun _ _ _ h => h) (Or.inl ⟨by rfl, ?_⟩) ?_ ?_
      rotate_left
      ·intro w'
       go_simp
       with_reducible rfl
      rotate_left
      ·simp only [Act.put, List.setIfInBounds_toArray, List.set_cons_zero, List.set_cons_succ, ze, zf]
       rfl
      refine zh (i := 2) (N := some 53) (v := ?_) (a' := ?_) #[false, true, true, false, false, false, false, false] rfl rfl (zd HT_.out (by kernel_rfl)) (fun _ _ _ h => h) (Or.inl ⟨by rfl, ?_⟩) ?_ ?_
      rotate_left
      ·intro w'
       go_simp
       with_reducible rfl
      rotate_left
      ·simp only [Act.put, List.setIfInBounds_toArray, List.set_cons_zero, List.set_cons_succ, ze, zf]
       rfl
      refine zh (i := 3) (N := some 54) (v := ?_) (a' := ?_) #[false, true, true, true, false, false, false, false] rfl rfl (zd HT_.out (by kernel_rfl)) (fun _ _ _ h => h) (Or.inl ⟨by rfl, ?_⟩) ?_ ?_
      rotate_left
      ·intro w'
       go_simp
       with_reducible rfl
      rotate_left
      ·simp only [Act.put, List.setIfInBounds_toArray, List.set_cons_zero, List.set_cons_succ, ze, zf]
       rfl
      refine take_ (i := 0) (N := some 51) (v := ?_) (a' := ?_) #[true, true, true, true, false, false, false, false] rfl rfl (zn HT_.out HW_.out (by kernel_rfl)) (fun _ _ _ h => h) (Or.inl ⟨by rfl, ?_⟩) hHeld ?_ ?_
      rotate_left
      ·rintro w' ⟨s0, s1, s2, s3, s4, s5⟩
       go_simp
       with_reducible rfl
      rotate_left
      ·simp only [Act.put, List.setIfInBounds_toArray, List.set_cons_zero, List.set_cons_succ, ze, zf]
       rfl
      refine take_ (i := 4) (N := some 55) (v := ?_) (a' := ?_) #[true, true, true, true, true, false, false, false] rfl rfl (zn HT_.out HW_.out (by kernel_rfl)) (fun _ _ _ h => h) (Or.inl ⟨by rfl, ?_⟩) hHeld ?_ ?_
      rotate_left
      ·rintro w' ⟨s0, s1, s2, s3, s4, s5⟩
       go_simp
       with_reducible rfl
      rotate_left
      ·simp only [Act.put, List.setIfInBounds_toArray, List.set_cons_zero, List.set_cons_succ, ze, zf]
       rfl
      refine one_ (i := 5) (N := none) #[true, true, true, true, true, true, false, false] rfl rfl (zv HT_.out (by kernel_rfl)) (by decide) (fun K hK => ?_)
      have hs81 : w80.cell? ⟨gb230, 0, none⟩ = some (.int .i64 0) := (z3 BK230.out 0).trans rfl
      have hfs81 := z9 BK230.out 0
      have hns81_0 := NB228_230.out
      have hns81_1 := NB229_230.out
      have hns81_3 := NB241_230.out
      have hms81_0 := NB230_228.out
      have hms81_1 := NB230_229.out
      have hms81_3 := NB230_241.out
      have hs82 : w80.cell? ⟨gb230, 1, none⟩ = some (.int .i64 0) := (z3 BK230.out 1).trans rfl
      have hfs82 := z9 BK230.out 1
      have hns82_0 := NB228_230.out
      have hns82_1 := NB229_230.out
      have hns82_3 := NB241_230.out
      have hms82_0 := NB230_228.out
      have hms82_1 := NB230_229.out
      have hms82_3 := NB230_241.out
      have hs83 : w80.cell? ⟨gb230, 2, none⟩ = some (.int .i64 0) := (z3 BK230.out 2).trans rfl
      have hfs83 := z9 BK230.out 2
      have hns83_0 := NB228_230.out
      have hns83_1 := NB229_230.out
      have hns83_3 := NB241_230.out
      have hms83_0 := NB230_228.out
      have hms83_1 := NB230_229.out
      have hms83_3 := NB230_241.out
      refine skip_ (w1 := ?_) (by rfl) rfl ?_ ?_
      rotate_left
      ·go_simp
       rfl
      refine hK.out _ _ ⟨((zm (p := ⟨gb230, _, none⟩) NB241_230.out _).trans (((zm (p := ⟨gb230, _, none⟩) NB241_230.out _).trans (((zm (p := ⟨gb230, _, none⟩) NB241_230.out _).trans (hHeld.1)))))), ((zm (p := ⟨gb230, _, none⟩) NB241_230.out _).trans (((zm (p := ⟨gb230, _, none⟩) NB241_230.out _).trans (((zm (p := ⟨gb230, _, none⟩) NB241_230.out _).trans (hHeld.2.1)))))), ((zm (p := ⟨gb230, _, none⟩) NB241_230.out _).trans (((zm (p := ⟨gb230, _, none⟩) NB241_230.out _).trans (((zm (p := ⟨gb230, _, none⟩) NB241_230.out _).trans (hHeld.2.2.1)))))), ((zm (p := ⟨gb230, _, none⟩) NB234_230.out _).trans (((zm (p := ⟨gb230, _, none⟩) NB234_230.out _).trans (((zm (p := ⟨gb230, _, none⟩) NB234_230.out _).trans (hHeld.2.2.2.1)))))), ((zm (p := ⟨gb230, _, none⟩) NB234_230.out _).trans (((zm (p := ⟨gb230, _, none⟩) NB234_230.out _).trans (((zm (p := ⟨gb230, _, none⟩) NB234_230.out _).trans (hHeld.2.2.2.2.1)))))), ((zm (p := ⟨gb230, _, none⟩) NB234_230.out _).trans (((zm (p := ⟨gb230, _, none⟩) NB234_230.out _).trans (((zm (p := ⟨gb230, _, none⟩) NB234_230.out _).trans (hHeld.2.2.2.2.2))))))⟩ (fun hHeld => ?_)
      clear hK K
      refine zh (i := 6) (N := some 7) (v := ?_) (a' := ?_) #[true, true, true, true, true, true, true, false] rfl rfl (zd HT_.out (by kernel_rfl)) (fun _ _ _ h => h) (Or.inl ⟨by rfl, ?_⟩) ?_ ?_
      rotate_left
      ·intro w'
       go_simp
       with_reducible rfl
      rotate_left
      ·simp only [Act.put, List.setIfInBounds_toArray, List.set_cons_zero, List.set_cons_succ, ze, zf]
       rfl
      refine zh (i := 7) (N := some 8) (v := ?_) (a' := ?_) #[true, true, true, true, true, true, true, true] rfl rfl (zd HT_.out (by kernel_rfl)) (fun _ _ _ h => h) (Or.inl ⟨by rfl, ?_⟩) ?_ ?_
      rotate_left
      ·intro w'
       go_simp
       with_reducible rfl
      rotate_left
      ·simp only [Act.put, List.setIfInBounds_toArray, List.set_cons_zero, List.set_cons_succ, ze, zf]
       rfl
      refine zg1 (z31 HT_.out (by kernel_rfl)) ?_
      try go_wp2
      refine bodyPost_ret (z01 rfl _ _ gb230 34 #[.int .i64 t237, .int .i64 t242, .int .i64 (wrap64 (t246 + a1_0))] (0, 0) _ rfl (by (with_reducible repeat (first | refine z5 ?_ _ | refine z8 ?_ | refine z4 ?_ _)); refine zo (cs := #[.int .i64 t237, .int .i64 t242, .int .i64 0]) ?_ 2 _ rfl; (with_reducible repeat (first | refine z5 ?_ _ | refine z8 ?_ | refine z4 ?_ _)); refine zo (cs := #[.int .i64 t237, .int .i64 0, .int .i64 0]) ?_ 1 _ rfl; (with_reducible repeat (first | refine z5 ?_ _ | refine z8 ?_ | refine z4 ?_ _)); refine zo (cs := #[.int .i64 0, .int .i64 0, .int .i64 0]) ?_ 0 _ rfl; (with_reducible repeat (first | refine z5 ?_ _ | refine z8 ?_ | refine z4 ?_ _)); exact BK230.out) Try.underlying34 rfl (by kernel_rfl)) rfl ?_
      exact ⟨by first | rfl | (simp [errW_none, errW_some] <;> rfl) | (simp [*, errW_none, errW_some] <;> rfl), by repeat (first | (with_reducible first | exact HB.out | apply z7 | apply z1 | apply z6 | refine z2 ?_ (IsS73.ge HI234.out) | refine z2 ?_ GE228.out | refine z2 ?_ GE229.out | refine z2 ?_ GE230.out | refine z2 ?_ GE241.out) | exact HB.out)⟩
     ·replace c58 := Bool.eq_false_iff.mpr c58
      subst c58
      have H1 : (some (0, 0, 0, 0, false)) = some (r1, r2, r3, r4, r5) := by rw [if_neg (show ¬ (false = true) by decide)] at H; exact H
      clear H
      have H := H1
      clear H1
      simp only [Option.some.injEq, Prod.mk.injEq] at H
      obtain ⟨rfl, rfl, rfl, rfl, rfl⟩ := H
      go_wp2_with (first | ((with_reducible refine zg (f := 63) rfl ?_); refine zr (some 23) rfl rfl Try.func63 (by kernel_rfl) rfl #[.pointer (some ⟨g234, 0, none⟩)] rfl (by (try simp only [List.map_toArray, List.map_cons, List.map_nil]); first | done | rfl | (simp only [List.length_drop, List.length_take]; rfl)) ?_; (with_reducible refine (impl_scan_ue.calls kj4 g234 t231 t232 t233 t237 t238 t239 t240 w _ ?side1 ?side2 A32.out).mono ?_); (case side1 => repeat (first | (with_reducible first | exact HI234.out | apply IsS73.alloc | apply IsS73.drewN | apply IsS73.drew | apply IsS73.set_0 | apply IsS73.set_1 | apply IsS73.set_2 | refine IsS73.far ?_ NB234_228.out _ | refine IsS73.far ?_ NB234_229.out _ | refine IsS73.far ?_ NB234_230.out _) | exact HI234.out)); (case side2 => repeat (first | (with_reducible first | exact HB.out | apply z7 | apply z1 | apply z6 | refine z2 ?_ (IsS73.ge HI234.out) | refine z2 ?_ GE228.out | refine z2 ?_ GE229.out | refine z2 ?_ GE230.out) | exact HB.out)); rintro e w84 ⟨rfl, hi, hb, hk⟩; refine ⟨_, rfl, ?_⟩; have n0_ := Aside0.mk (KeepBut.blk hk (g' := gb228) (o := .cells #[.int .i64 a0_0, .int .i64 a0_1, .slice A0_2 l0_2.length c0_2, .slice A0_3 l0_3.length c0_3] 37 (0, 0)) (by (with_reducible repeat (first | refine z5 ?_ _ | refine z8 ?_ | refine z4 ?_ _)); exact BK228.out) NB228_234.out (by simp)); have n1_ := Aside0.mk (KeepBut.blk hk (g' := gb229) (o := .cells #[.int .i64 a1_0, .bool a1_1, .bool a1_2, .bool a1_3] 39 (0, 0)) (by (with_reducible repeat (first | refine z5 ?_ _ | refine z8 ?_ | refine z4 ?_ _)); exact BK229.out) NB229_234.out (by simp)); have n2_ := Aside0.mk (KeepBut.blk hk (g' := gb230) (o := .cells #[.int .i64 0, .int .i64 0, .int .i64 0] 34 (0, 0)) (by (with_reducible repeat (first | refine z5 ?_ _ | refine z8 ?_ | refine z4 ?_ _)); exact BK230.out) NB230_234.out (by simp)); have n3_ := Aside0.mk (hb); have n4_ := Aside0.mk (hi); clear BK228; clear BK229; clear BK230; clear HB; clear HI234; have BK228 := n0_; have BK229 := n1_; have BK230 := n2_; have HB := n3_; have HI234 := n4_; clear n0_ n1_ n2_ n3_ n4_; (try clear hb); (try clear hb2); (try clear hk); (try clear hi)) | ((with_reducible refine zl (N := 10) rfl ?_); refine zj ?hg (N := 10) ?hd (cs := #[.int .i64 0, .int .i64 0, .int .i64 0]) (t := 34) ?hr ?_; (case hd => rfl); (case hg => rfl); (case hr => first | (go_simp; done) | (go_simp; rfl)); intro gb241 hg w85 hbox hb; have n0_ := Aside0.mk (za (g := gb228) (o := .cells #[.int .i64 a0_0, .int .i64 a0_1, .slice A0_2 l0_2.length c0_2, .slice A0_3 l0_3.length c0_3] 37 (0, 0)) (by (with_reducible repeat (first | refine z5 ?_ _ | refine z8 ?_ | refine z4 ?_ _)); exact BK228.out) hb); have n1_ := Aside0.mk (za (g := gb229) (o := .cells #[.int .i64 a1_0, .bool a1_1, .bool a1_2, .bool a1_3] 39 (0, 0)) (by (with_reducible repeat (first | refine z5 ?_ _ | refine z8 ?_ | refine z4 ?_ _)); exact BK229.out) hb); have n2_ := Aside0.mk (za (g := gb230) (o := .cells #[.int .i64 0, .int .i64 0, .int .i64 0] 34 (0, 0)) (by (with_reducible repeat (first | refine z5 ?_ _ | refine z8 ?_ | refine z4 ?_ _)); exact BK230.out) hb); have n3_ := Aside0.mk (IsS73.below (by repeat (first | (with_reducible first | exact HI234.out | apply IsS73.alloc | apply IsS73.drewN | apply IsS73.drew | apply IsS73.set_0 | apply IsS73.set_1 | apply IsS73.set_2 | refine IsS73.far ?_ NB234_228.out _ | refine IsS73.far ?_ NB234_229.out _ | refine IsS73.far ?_ NB234_230.out _) | exact HI234.out)) hb); have n4_ := Aside0.mk (zc (by repeat (first | (with_reducible first | exact HB.out | apply z7 | apply z1 | apply z6 | refine z2 ?_ (IsS73.ge HI234.out) | refine z2 ?_ GE228.out | refine z2 ?_ GE229.out | refine z2 ?_ GE230.out) | exact HB.out)) hb); have n5_ := Aside0.mk (hbox); have n6_ := Aside0.mk ((by rw [hg]; exact (zb (by repeat (first | (with_reducible first | exact HB.out | apply z7 | apply z1 | apply z6 | refine z2 ?_ (IsS73.ge HI234.out) | refine z2 ?_ GE228.out | refine z2 ?_ GE229.out | refine z2 ?_ GE230.out) | exact HB.out))) : w.heap.size ≤ gb241)); have n7_ := Aside0.mk ((by rw [hg]; exact (zb (by repeat (first | (with_reducible first | exact HB.out | apply z7 | apply z1 | apply z6 | refine z2 ?_ (IsS73.ge HI234.out) | refine z2 ?_ GE228.out | refine z2 ?_ GE229.out | refine z2 ?_ GE230.out) | exact HB.out))) : w.heap.size ≤ gb241)); have n8_ := Aside0.mk ((by rw [hg]; exact Nat.ne_of_lt (zi (g := gb228) (o := .cells #[.int .i64 a0_0, .int .i64 a0_1, .slice A0_2 l0_2.length c0_2, .slice A0_3 l0_3.length c0_3] 37 (0, 0)) (by (with_reducible repeat (first | refine z5 ?_ _ | refine z8 ?_ | refine z4 ?_ _)); exact BK228.out)) : gb228 ≠ gb241)); have n9_ := Aside0.mk ((by rw [hg]; exact Nat.ne_of_gt (zi (g := gb228) (o := .cells #[.int .i64 a0_0, .int .i64 a0_1, .slice A0_2 l0_2.length c0_2, .slice A0_3 l0_3.length c0_3] 37 (0, 0)) (by (with_reducible repeat (first | refine z5 ?_ _ | refine z8 ?_ | refine z4 ?_ _)); exact BK228.out)) : gb241 ≠ gb228)); have n10_ := Aside0.mk ((by rw [hg]; exact Nat.ne_of_lt (zi (g := gb229) (o := .cells #[.int .i64 a1_0, .bool a1_1, .bool a1_2, .bool a1_3] 39 (0, 0)) (by (with_reducible repeat (first | refine z5 ?_ _ | refine z8 ?_ | refine z4 ?_ _)); exact BK229.out)) : gb229 ≠ gb241)); have n11_ := Aside0.mk ((by rw [hg]; exact Nat.ne_of_gt (zi (g := gb229) (o := .cells #[.int .i64 a1_0, .bool a1_1, .bool a1_2, .bool a1_3] 39 (0, 0)) (by (with_reducible repeat (first | refine z5 ?_ _ | refine z8 ?_ | refine z4 ?_ _)); exact BK229.out)) : gb241 ≠ gb229)); have n12_ := Aside0.mk ((by rw [hg]; exact Nat.ne_of_lt (zi (g := gb230) (o := .cells #[.int .i64 0, .int .i64 0, .int .i64 0] 34 (0, 0)) (by (with_reducible repeat (first | refine z5 ?_ _ | refine z8 ?_ | refine z4 ?_ _)); exact BK230.out)) : gb230 ≠ gb241)); have n13_ := Aside0.mk ((by rw [hg]; exact Nat.ne_of_gt (zi (g := gb230) (o := .cells #[.int .i64 0, .int .i64 0, .int .i64 0] 34 (0, 0)) (by (with_reducible repeat (first | refine z5 ?_ _ | refine z8 ?_ | refine z4 ?_ _)); exact BK230.out)) : gb241 ≠ gb230)); have n14_ := Aside0.mk ((by rw [hg]; exact Nat.ne_of_lt (IsS73.lt (show IsS73 w _ g234 t238 t239 t240 from by repeat (first | (with_reducible first | exact HI234.out | apply IsS73.alloc | apply IsS73.drewN | apply IsS73.drew | apply IsS73.set_0 | apply IsS73.set_1 | apply IsS73.set_2 | refine IsS73.far ?_ NB234_228.out _ | refine IsS73.far ?_ NB234_229.out _ | refine IsS73.far ?_ NB234_230.out _) | exact HI234.out))) : g234 ≠ gb241)); have n15_ := Aside0.mk ((by rw [hg]; exact Nat.ne_of_gt (IsS73.lt (show IsS73 w _ g234 t238 t239 t240 from by repeat (first | (with_reducible first | exact HI234.out | apply IsS73.alloc | apply IsS73.drewN | apply IsS73.drew | apply IsS73.set_0 | apply IsS73.set_1 | apply IsS73.set_2 | refine IsS73.far ?_ NB234_228.out _ | refine IsS73.far ?_ NB234_229.out _ | refine IsS73.far ?_ NB234_230.out _) | exact HI234.out))) : gb241 ≠ g234)); clear BK228; clear BK229; clear BK230; clear HI234; clear HB; have BK228 := n0_; have BK229 := n1_; have BK230 := n2_; have HI234 := n3_; have HB := n4_; have BK241 := n5_; have GW241 := n6_; have GE241 := n7_; have NB228_241 := n8_; have NB241_228 := n9_; have NB229_241 := n10_; have NB241_229 := n11_; have NB230_241 := n12_; have NB241_230 := n13_; have NB234_241 := n14_; have NB241_234 := n15_; clear n0_ n1_ n2_ n3_ n4_ n5_ n6_ n7_ n8_ n9_ n10_ n11_ n12_ n13_ n14_ n15_; clear hb hbox hg; have hnb86 := NB241_228.out; have hnc86 := NB228_241.out; have hnb87 := NB241_229.out; have hnc87 := NB229_241.out; have hnb88 := NB241_230.out; have hnc88 := NB230_241.out; have hnb89 := NB241_234.out; have hnc89 := NB234_241.out; have hcz90_0 : w85.cell? ⟨gb241, 0, none⟩ = some (.int .i64 0) := (z3 BK241.out 0).trans rfl; have hcz90_1 : w85.cell? ⟨gb241, 1, none⟩ = some (.int .i64 0) := (z3 BK241.out 1).trans rfl; have hcz90_2 : w85.cell? ⟨gb241, 2, none⟩ = some (.int .i64 0) := (z3 BK241.out 2).trans rfl; have hfz90_0 := z9 BK241.out 0; have hfz90_1 := z9 BK241.out 1; have hfz90_2 := z9 BK241.out 2; have hnb91 := NB228_229.out; have hnc91 := NB229_228.out; have hnb92 := NB228_230.out; have hnc92 := NB230_228.out; have hnb93 := NB228_234.out; have hnc93 := NB234_228.out; have hcz94_0 : w85.cell? ⟨gb228, 0, none⟩ = some (.int .i64 a0_0) := (z3 BK228.out 0).trans rfl; have hcz94_1 : w85.cell? ⟨gb228, 1, none⟩ = some (.int .i64 a0_1) := (z3 BK228.out 1).trans rfl; have hcz94_2 : w85.cell? ⟨gb228, 2, none⟩ = some (.slice A0_2 l0_2.length c0_2) := (z3 BK228.out 2).trans rfl; have hcz94_3 : w85.cell? ⟨gb228, 3, none⟩ = some (.slice A0_3 l0_3.length c0_3) := (z3 BK228.out 3).trans rfl; have hfz94_0 := z9 BK228.out 0; have hfz94_1 := z9 BK228.out 1; have hfz94_2 := z9 BK228.out 2; have hfz94_3 := z9 BK228.out 3) | ((with_reducible refine zg (f := 64) rfl ?_); refine zr (some 28) rfl rfl Try.func64 (by kernel_rfl) rfl #[.pointer (some ⟨g234, 0, none⟩), .int .i64 a0_1] rfl (by (try simp only [List.map_toArray, List.map_cons, List.map_nil]); first | done | rfl | (simp only [List.length_drop, List.length_take]; rfl)) ?_; (with_reducible refine (impl_scan_fix.calls kj4 g234 t238 t239 t240 a0_1 t242 t243 t244 t245 w _ ?side1 ?side2 A33.out).mono ?_); (case side1 => repeat (first | (with_reducible first | exact HI234.out | apply IsS73.alloc | apply IsS73.drewN | apply IsS73.drew | apply IsS73.set_0 | apply IsS73.set_1 | apply IsS73.set_2 | refine IsS73.far ?_ NB234_228.out _ | refine IsS73.far ?_ NB234_229.out _ | refine IsS73.far ?_ NB234_230.out _ | refine IsS73.far ?_ NB234_241.out _) | exact HI234.out)); (case side2 => repeat (first | (with_reducible first | exact HB.out | apply z7 | apply z1 | apply z6 | refine z2 ?_ (IsS73.ge HI234.out) | refine z2 ?_ GE228.out | refine z2 ?_ GE229.out | refine z2 ?_ GE230.out | refine z2 ?_ GE241.out) | exact HB.out)); rintro e w95 ⟨rfl, hi, hb, hk⟩; refine ⟨_, rfl, ?_⟩; have n0_ := Aside0.mk (KeepBut.blk hk (g' := gb228) (o := .cells #[.int .i64 a0_0, .int .i64 a0_1, .slice A0_2 l0_2.length c0_2, .slice A0_3 l0_3.length c0_3] 37 (0, 0)) (by (with_reducible repeat (first | refine z5 ?_ _ | refine z8 ?_ | refine z4 ?_ _)); refine zk ?_ NB228_241.out _; (with_reducible repeat (first | refine z5 ?_ _ | refine z8 ?_ | refine z4 ?_ _)); refine zk ?_ NB228_241.out _; (with_reducible repeat (first | refine z5 ?_ _ | refine z8 ?_ | refine z4 ?_ _)); refine zk ?_ NB228_241.out _; (with_reducible repeat (first | refine z5 ?_ _ | refine z8 ?_ | refine z4 ?_ _)); exact BK228.out) NB228_234.out (by simp)); have n1_ := Aside0.mk (KeepBut.blk hk (g' := gb229) (o := .cells #[.int .i64 a1_0, .bool a1_1, .bool a1_2, .bool a1_3] 39 (0, 0)) (by (with_reducible repeat (first | refine z5 ?_ _ | refine z8 ?_ | refine z4 ?_ _)); refine zk ?_ NB229_241.out _; (with_reducible repeat (first | refine z5 ?_ _ | refine z8 ?_ | refine z4 ?_ _)); refine zk ?_ NB229_241.out _; (with_reducible repeat (first | refine z5 ?_ _ | refine z8 ?_ | refine z4 ?_ _)); refine zk ?_ NB229_241.out _; (with_reducible repeat (first | refine z5 ?_ _ | refine z8 ?_ | refine z4 ?_ _)); exact BK229.out) NB229_234.out (by simp)); have n2_ := Aside0.mk (KeepBut.blk hk (g' := gb230) (o := .cells #[.int .i64 0, .int .i64 0, .int .i64 0] 34 (0, 0)) (by (with_reducible repeat (first | refine z5 ?_ _ | refine z8 ?_ | refine z4 ?_ _)); refine zk ?_ NB230_241.out _; (with_reducible repeat (first | refine z5 ?_ _ | refine z8 ?_ | refine z4 ?_ _)); refine zk ?_ NB230_241.out _; (with_reducible repeat (first | refine z5 ?_ _ | refine z8 ?_ | refine z4 ?_ _)); refine zk ?_ NB230_241.out _; (with_reducible repeat (first | refine z5 ?_ _ | refine z8 ?_ | refine z4 ?_ _)); exact BK230.out) NB230_234.out (by simp)); have n3_ := Aside0.mk (KeepBut.blk hk (g' := gb241) (o := .cells #[.int .i64 t237, .int .i64 0, .int .i64 0] 34 (0, 0)) (by (with_reducible repeat (first | refine z5 ?_ _ | refine z8 ?_ | refine z4 ?_ _)); refine zo (cs := #[.int .i64 t237, .int .i64 0, .int .i64 0]) ?_ 2 _ rfl; (with_reducible repeat (first | refine z5 ?_ _ | refine z8 ?_ | refine z4 ?_ _)); refine zo (cs := #[.int .i64 t237, .int .i64 0, .int .i64 0]) ?_ 1 _ rfl; (with_reducible repeat (first | refine z5 ?_ _ | refine z8 ?_ | refine z4 ?_ _)); refine zo (cs := #[.int .i64 0, .int .i64 0, .int .i64 0]) ?_ 0 _ rfl; (with_reducible repeat (first | refine z5 ?_ _ | refine z8 ?_ | refine z4 ?_ _)); exact BK241.out) NB241_234.out (by simp)); have n4_ := Aside0.mk (hb); have n5_ := Aside0.mk (hi); clear BK228; clear BK229; clear BK230; clear BK241; clear HB; clear HI234; have BK228 := n0_; have BK229 := n1_; have BK230 := n2_; have BK241 := n3_; have HB := n4_; have HI234 := n5_; clear n0_ n1_ n2_ n3_ n4_ n5_; (try clear hb); (try clear hb2); (try clear hk); (try clear hi); have hcz96_0 : w95.cell? ⟨gb241, 0, none⟩ = some (.int .i64 t237) := (z3 BK241.out 0).trans rfl; have hcz96_1 : w95.cell? ⟨gb241, 1, none⟩ = some (.int .i64 0) := (z3 BK241.out 1).trans rfl; have hcz96_2 : w95.cell? ⟨gb241, 2, none⟩ = some (.int .i64 0) := (z3 BK241.out 2).trans rfl; have hfz96_0 := z9 BK241.out 0; have hfz96_1 := z9 BK241.out 1; have hfz96_2 := z9 BK241.out 2) | ((with_reducible refine zg (f := 65) rfl ?_); refine zr (some 31) rfl rfl Try.func65 (by kernel_rfl) rfl #[.pointer (some ⟨g234, 0, none⟩)] rfl (by (try simp only [List.map_toArray, List.map_cons, List.map_nil]); first | done | rfl | (simp only [List.length_drop, List.length_take]; rfl)) ?_; (with_reducible refine (impl_scan_se.calls kj4 g234 t243 t244 t245 t246 t247 t248 false w _ ?side1 ?side2 A34.out).mono ?_); (case side1 => repeat (first | (with_reducible first | exact HI234.out | apply IsS73.alloc | apply IsS73.drewN | apply IsS73.drew | apply IsS73.set_0 | apply IsS73.set_1 | apply IsS73.set_2 | refine IsS73.far ?_ NB234_228.out _ | refine IsS73.far ?_ NB234_229.out _ | refine IsS73.far ?_ NB234_230.out _ | refine IsS73.far ?_ NB234_241.out _) | exact HI234.out)); (case side2 => repeat (first | (with_reducible first | exact HB.out | apply z7 | apply z1 | apply z6 | refine z2 ?_ (IsS73.ge HI234.out) | refine z2 ?_ GE228.out | refine z2 ?_ GE229.out | refine z2 ?_ GE230.out | refine z2 ?_ GE241.out) | exact HB.out)); rintro e w97 ⟨rfl, hi, hb, hk⟩; refine ⟨_, rfl, ?_⟩; have n0_ := Aside0.mk (KeepBut.blk hk (g' := gb228) (o := .cells #[.int .i64 a0_0, .int .i64 a0_1, .slice A0_2 l0_2.length c0_2, .slice A0_3 l0_3.length c0_3] 37 (0, 0)) (by (with_reducible repeat (first | refine z5 ?_ _ | refine z8 ?_ | refine z4 ?_ _)); refine zk ?_ NB228_241.out _; (with_reducible repeat (first | refine z5 ?_ _ | refine z8 ?_ | refine z4 ?_ _)); exact BK228.out) NB228_234.out (by simp)); have n1_ := Aside0.mk (KeepBut.blk hk (g' := gb229) (o := .cells #[.int .i64 a1_0, .bool a1_1, .bool a1_2, .bool a1_3] 39 (0, 0)) (by (with_reducible repeat (first | refine z5 ?_ _ | refine z8 ?_ | refine z4 ?_ _)); refine zk ?_ NB229_241.out _; (with_reducible repeat (first | refine z5 ?_ _ | refine z8 ?_ | refine z4 ?_ _)); exact BK229.out) NB229_234.out (by simp)); have n2_ := Aside0.mk (KeepBut.blk hk (g' := gb230) (o := .cells #[.int .i64 0, .int .i64 0, .int .i64 0] 34 (0, 0)) (by (with_reducible repeat (first | refine z5 ?_ _ | refine z8 ?_ | refine z4 ?_ _)); refine zk ?_ NB230_241.out _; (with_reducible repeat (first | refine z5 ?_ _ | refine z8 ?_ | refine z4 ?_ _)); exact BK230.out) NB230_234.out (by simp)); have n3_ := Aside0.mk (KeepBut.blk hk (g' := gb241) (o := .cells #[.int .i64 t237, .int .i64 t242, .int .i64 0] 34 (0, 0)) (by (with_reducible repeat (first | refine z5 ?_ _ | refine z8 ?_ | refine z4 ?_ _)); refine zo (cs := #[.int .i64 t237, .int .i64 0, .int .i64 0]) ?_ 1 _ rfl; (with_reducible repeat (first | refine z5 ?_ _ | refine z8 ?_ | refine z4 ?_ _)); exact BK241.out) NB241_234.out (by simp)); have n4_ := Aside0.mk (hb); have n5_ := Aside0.mk (hi); clear BK228; clear BK229; clear BK230; clear BK241; clear HB; clear HI234; have BK228 := n0_; have BK229 := n1_; have BK230 := n2_; have BK241 := n3_; have HB := n4_; have HI234 := n5_; clear n0_ n1_ n2_ n3_ n4_ n5_; (try clear hb); (try clear hb2); (try clear hk); (try clear hi); have hcz98_0 : w97.cell? ⟨gb241, 0, none⟩ = some (.int .i64 t237) := (z3 BK241.out 0).trans rfl; have hcz98_1 : w97.cell? ⟨gb241, 1, none⟩ = some (.int .i64 t242) := (z3 BK241.out 1).trans rfl; have hcz98_2 : w97.cell? ⟨gb241, 2, none⟩ = some (.int .i64 0) := (z3 BK241.out 2).trans rfl; have hfz98_0 := z9 BK241.out 0; have hfz98_1 := z9 BK241.out 1; have hfz98_2 := z9 BK241.out 2; have hnb99 := NB229_230.out; have hnc99 := NB230_229.out; have hnb100 := NB229_234.out; have hnc100 := NB234_229.out; have hcz101_0 : w97.cell? ⟨gb229, 0, none⟩ = some (.int .i64 a1_0) := (z3 BK229.out 0).trans rfl; have hcz101_1 : w97.cell? ⟨gb229, 1, none⟩ = some (.bool a1_1) := (z3 BK229.out 1).trans rfl; have hcz101_2 : w97.cell? ⟨gb229, 2, none⟩ = some (.bool a1_2) := (z3 BK229.out 2).trans rfl; have hcz101_3 : w97.cell? ⟨gb229, 3, none⟩ = some (.bool a1_3) := (z3 BK229.out 3).trans rfl; have hfz101_0 := z9 BK229.out 0; have hfz101_1 := z9 BK229.out 1; have hfz101_2 := z9 BK229.out 2; have hfz101_3 := z9 BK229.out 3; obtain ⟨HGz102, hgz102⟩ := HI234.out; have hcz102_0 := cellS73_0 HGz102; have hcz102_1 := cellS73_1 HGz102; have hcz102_2 := cellS73_2 HGz102; have hfz102_0 := z9 HGz102 0; have hfz102_1 := z9 HGz102 1; have hfz102_2 := z9 HGz102 2; clear HGz102 hgz102; have hcz103_0 : w97.cell? ⟨gb228, 0, none⟩ = some (.int .i64 a0_0) := (z3 BK228.out 0).trans rfl; have hcz103_1 : w97.cell? ⟨gb228, 1, none⟩ = some (.int .i64 a0_1) := (z3 BK228.out 1).trans rfl; have hcz103_2 : w97.cell? ⟨gb228, 2, none⟩ = some (.slice A0_2 l0_2.length c0_2) := (z3 BK228.out 2).trans rfl; have hcz103_3 : w97.cell? ⟨gb228, 3, none⟩ = some (.slice A0_3 l0_3.length c0_3) := (z3 BK228.out 3).trans rfl; have hfz103_0 := z9 BK228.out 0; have hfz103_1 := z9 BK228.out 1; have hfz103_2 := z9 BK228.out 2; have hfz103_3 := z9 BK228.out 3) | (go_at_call 44; (with_reducible refine (impl_HeadOk.calls kj4 a0_0 a0_1 _ _ l0_2 _ _ l0_3 a1_0 a1_1 a1_2 a1_3 t237 t242 (wrap64 (t246 + a1_0)) false _ ?side1 ?side2 ?side3 ?side4 A57.out).mono ?_); (case side1 => exact Kd.C_below HR0_2.out (by repeat (first | (with_reducible first | exact HB.out | apply z7 | apply z1 | apply z6 | refine z2 ?_ (IsS73.ge HI234.out) | refine z2 ?_ GE228.out | refine z2 ?_ GE229.out | refine z2 ?_ GE230.out | refine z2 ?_ GE241.out) | exact HB.out))); (case side2 => exact HC0_2.out); (case side3 => exact Kd.C_below HR0_3.out (by repeat (first | (with_reducible first | exact HB.out | apply z7 | apply z1 | apply z6 | refine z2 ?_ (IsS73.ge HI234.out) | refine z2 ?_ GE228.out | refine z2 ?_ GE229.out | refine z2 ?_ GE230.out | refine z2 ?_ GE241.out) | exact HB.out))); (case side4 => exact HC0_3.out); rintro e w104 ⟨rfl, hb⟩; have n0_ := Aside0.mk (za (g := gb228) (o := .cells #[.int .i64 a0_0, .int .i64 a0_1, .slice A0_2 l0_2.length c0_2, .slice A0_3 l0_3.length c0_3] 37 (0, 0)) (by (with_reducible repeat (first | refine z5 ?_ _ | refine z8 ?_ | refine z4 ?_ _)); refine zk ?_ NB228_241.out _; (with_reducible repeat (first | refine z5 ?_ _ | refine z8 ?_ | refine z4 ?_ _)); refine zk ?_ NB228_241.out _; (with_reducible repeat (first | refine z5 ?_ _ | refine z8 ?_ | refine z4 ?_ _)); exact BK228.out) hb); have n1_ := Aside0.mk (za (g := gb229) (o := .cells #[.int .i64 a1_0, .bool a1_1, .bool a1_2, .bool a1_3] 39 (0, 0)) (by (with_reducible repeat (first | refine z5 ?_ _ | refine z8 ?_ | refine z4 ?_ _)); refine zk ?_ NB229_241.out _; (with_reducible repeat (first | refine z5 ?_ _ | refine z8 ?_ | refine z4 ?_ _)); refine zk ?_ NB229_241.out _; (with_reducible repeat (first | refine z5 ?_ _ | refine z8 ?_ | refine z4 ?_ _)); exact BK229.out) hb); have n2_ := Aside0.mk (za (g := gb230) (o := .cells #[.int .i64 0, .int .i64 0, .int .i64 0] 34 (0, 0)) (by (with_reducible repeat (first | refine z5 ?_ _ | refine z8 ?_ | refine z4 ?_ _)); refine zk ?_ NB230_241.out _; (with_reducible repeat (first | refine z5 ?_ _ | refine z8 ?_ | refine z4 ?_ _)); refine zk ?_ NB230_241.out _; (with_reducible repeat (first | refine z5 ?_ _ | refine z8 ?_ | refine z4 ?_ _)); exact BK230.out) hb); have n3_ := Aside0.mk (IsS73.below (show IsS73 w ((w97.setCell ⟨gb241, 2, none⟩ (.int .i64 t246)).setCell ⟨gb241, 2, none⟩ (.int .i64 (wrap64 (t246 + a1_0)))) g234 t247 t248 false from by repeat (first | (with_reducible first | exact HI234.out | apply IsS73.alloc | apply IsS73.drewN | apply IsS73.drew | apply IsS73.set_0 | apply IsS73.set_1 | apply IsS73.set_2 | refine IsS73.far ?_ NB234_228.out _ | refine IsS73.far ?_ NB234_229.out _ | refine IsS73.far ?_ NB234_230.out _ | refine IsS73.far ?_ NB234_241.out _) | exact HI234.out)) hb); have n4_ := Aside0.mk (za (g := gb241) (o := .cells #[.int .i64 t237, .int .i64 t242, .int .i64 (wrap64 (t246 + a1_0))] 34 (0, 0)) (by (with_reducible repeat (first | refine z5 ?_ _ | refine z8 ?_ | refine z4 ?_ _)); refine zo (cs := #[.int .i64 t237, .int .i64 t242, .int .i64 t246]) ?_ 2 _ rfl; (with_reducible repeat (first | refine z5 ?_ _ | refine z8 ?_ | refine z4 ?_ _)); refine zo (cs := #[.int .i64 t237, .int .i64 t242, .int .i64 0]) ?_ 2 _ rfl; (with_reducible repeat (first | refine z5 ?_ _ | refine z8 ?_ | refine z4 ?_ _)); exact BK241.out) hb); have n5_ := Aside0.mk (zc (by repeat (first | (with_reducible first | exact HB.out | apply z7 | apply z1 | apply z6 | refine z2 ?_ (IsS73.ge HI234.out) | refine z2 ?_ GE228.out | refine z2 ?_ GE229.out | refine z2 ?_ GE230.out | refine z2 ?_ GE241.out) | exact HB.out)) hb); clear BK228; clear BK229; clear BK230; clear HI234; clear BK241; clear HB; have BK228 := n0_; have BK229 := n1_; have BK230 := n2_; have HI234 := n3_; have BK241 := n4_; have HB := n5_; clear n0_ n1_ n2_ n3_ n4_ n5_; (try clear hb); (try clear hb2); (try clear hk); (try clear hi); have hnb105 := NB230_234.out; have hnc105 := NB234_230.out; have hcz106_0 : w104.cell? ⟨gb230, 0, none⟩ = some (.int .i64 0) := (z3 BK230.out 0).trans rfl; have hcz106_1 : w104.cell? ⟨gb230, 1, none⟩ = some (.int .i64 0) := (z3 BK230.out 1).trans rfl; have hcz106_2 : w104.cell? ⟨gb230, 2, none⟩ = some (.int .i64 0) := (z3 BK230.out 2).trans rfl; have hfz106_0 := z9 BK230.out 0; have hfz106_1 := z9 BK230.out 1; have hfz106_2 := z9 BK230.out 2))
      refine bodyPost_ret (z01 rfl _ _ gb230 34 #[.int .i64 0, .int .i64 0, .int .i64 0] (0, 0) _ rfl (by (with_reducible repeat (first | refine z5 ?_ _ | refine z8 ?_ | refine z4 ?_ _)); refine zo (cs := #[.int .i64 0, .int .i64 0, .int .i64 0]) ?_ 2 _ rfl; (with_reducible repeat (first | refine z5 ?_ _ | refine z8 ?_ | refine z4 ?_ _)); refine zo (cs := #[.int .i64 0, .int .i64 0, .int .i64 0]) ?_ 1 _ rfl; (with_reducible repeat (first | refine z5 ?_ _ | refine z8 ?_ | refine z4 ?_ _)); refine zo (cs := #[.int .i64 0, .int .i64 0, .int .i64 0]) ?_ 0 _ rfl; (with_reducible repeat (first | refine z5 ?_ _ | refine z8 ?_ | refine z4 ?_ _)); exact BK230.out) Try.underlying34 rfl (by kernel_rfl)) rfl ?_
      exact ⟨by first | rfl | (simp [errW_none, errW_some] <;> rfl) | (simp [*, errW_none, errW_some] <;> rfl), by repeat (first | (with_reducible first | exact HB.out | apply z7 | apply z1 | apply z6 | refine z2 ?_ (IsS73.ge HI234.out) | refine z2 ?_ GE228.out | refine z2 ?_ GE229.out | refine z2 ?_ GE230.out | refine z2 ?_ GE241.out) | exact HB.out)⟩
end Go.Proofs.Ytibnnodjockcbaa.QFnExactReadHead
