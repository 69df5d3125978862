/- The machine side of a law's functions, written by this session's own program (a variant of the print) and shortened by it; Lean checks it. -/
import Derived.Test.YtibnnodjockcbaaQFnExactReadHeadx0
import Derived.Test.YtibnnodjockcbaaQFnExactReadHeadx1
import Derived.Test.YtibnnodjockcbaaQFnExactReadHeadx5
import Derived.Test.YtibnnodjockcbaaQFnExactReadHeadx9
import Derived.Test.YtibnnodjockcbaaQFnExactReadHeadx10
namespace Go.Proofs.Ytibnnodjockcbaa.QFnExactReadHead
open Go.RowKit Go.Proofs.YtibnnodjockcbaaW.PrintWords Go.Proofs.YtibnnodjockcbaaW.PrintLast Go.Proofs.YtibnnodjockcbaaW.PrintMore
attribute [local go_sem] z41 z81 zc1 zb1 z21 z11 z61 z51
set_option linter.unusedVariables false
set_option linter.unusedSimpArgs false
def laws_FnExactReadHead.j0 : Nat → Bool → Int → Int → List Int → List Int → Int → Int → List Int → List Int → Option (Bool)
 | 0, _, _, _, _, _, _, _, _, _ => none
 | k + 1, x57, x260000, x260001, x260002, x260003, x289000, x289001, x289002, x289003 => if x57 = true then (some false) else ((laws_toSeq.f k x260000 x260001 x260002 x260003).bind fun bt300 => ((laws_eqSeq.f k x289000 x289001 x289002 x289003 bt300.1 bt300.2.1 bt300.2.2.1 bt300.2.2.2).bind fun t308 => (if t308 = true then (some true) else (some false))))
def laws_FnExactReadHead.f (k : Nat) (a0_0 : Int) (a0_1 : Int) (l0_2 : List Int) (l0_3 : List Int) (a1_0 : Int) (a1_1 : Bool) (a1_2 : Bool) (a1_3 : Bool) (a2 : ByteArray) : Option (Bool) := if (a2.size : Int) > 1048576 then (some true) else ((laws_szSeq.f a0_0 a0_1 l0_2 l0_3 1048576).bind fun t261 => (if t261 < 0 then (some true) else ((laws_toSeq.f k a0_0 a0_1 l0_2 l0_3).bind fun bt262 => ((laws_toPar.f a1_0 a1_1 a1_2 a1_3).bind fun bt270 => ((spec_ReadHead.f k bt262.1 bt262.2.1 bt262.2.2.1 bt262.2.2.2 bt270.1 bt270.2.1 bt270.2.2.1 bt270.2.2.2 a2).bind fun bt274 => ((laws_toSeq.f k a0_0 a0_1 l0_2 l0_3).bind fun bt280 => ((laws_toPar.f a1_0 a1_1 a1_2 a1_3).bind fun bt289 => ((impl_ReadHead.f k bt280.1 bt280.2.1 bt280.2.2.1 bt280.2.2.2 bt289.1 bt289.2.1 bt289.2.2.1 bt289.2.2.2 a2).bind fun bt293 => ((laws_eqHead.f bt293.1 bt293.2.1 bt293.2.2.1 bt274.1 bt274.2.1 bt274.2.2.1).bind fun t299 => (if t299 = true then (if bt293.2.2.2.1 = bt274.2.2.2.1 then (laws_FnExactReadHead.j0 k (bt293.2.2.2.2 != bt274.2.2.2.2) a0_0 a0_1 l0_2 l0_3 bt280.1 bt280.2.1 bt280.2.2.1 bt280.2.2.2) else (laws_FnExactReadHead.j0 k true a0_0 a0_1 l0_2 l0_3 bt280.1 bt280.2.1 bt280.2.2.1 bt280.2.2.2)) else (laws_FnExactReadHead.j0 k true a0_0 a0_1 l0_2 l0_3 bt280.1 bt280.2.1 bt280.2.2.1 bt280.2.2.2)))))))))))
theorem laws_FnExactReadHead.mono_l : ∀ k, (∀ y0 y1 y2 y3 y4 y5 y6 y7 y8, LeO (laws_FnExactReadHead.j0 k y0 y1 y2 y3 y4 y5 y6 y7 y8) (laws_FnExactReadHead.j0 (k + 1) y0 y1 y2 y3 y4 y5 y6 y7 y8))
 | 0 => fun _ _ _ _ _ _ _ _ _ r h => by simp [laws_FnExactReadHead.j0] at h
 | k + 1 => by
  have ih0 := laws_FnExactReadHead.mono_l k
  ·intro y0 y1 y2 y3 y4 y5 y6 y7 y8
   unfold laws_FnExactReadHead.j0
   repeat' first
   | (with_reducible exact ih0 _ _ _ _ _ _ _ _ _)
   | (with_reducible exact impl_ReadHead.mono _ _ _ _ _ _ _ _ _ _)
   | (with_reducible exact laws_eqSeq.mono _ _ _ _ _ _ _ _ _)
   | (with_reducible exact laws_toSeq.mono _ _ _ _ _)
   | (with_reducible exact spec_ReadHead.mono _ _ _ _ _ _ _ _ _ _)
   | (with_reducible exact LeO.refl _)
   | (with_reducible exact LeO.none _)
   | (with_reducible refine LeO.ite ?_ ?_)
   | (with_reducible refine LeO.bind ?_ (fun _ => ?_))
   | exact ih0 _ _ _ _ _ _ _ _ _
   | exact impl_ReadHead.mono _ _ _ _ _ _ _ _ _ _
   | exact laws_eqSeq.mono _ _ _ _ _ _ _ _ _
   | exact laws_toSeq.mono _ _ _ _ _
   | exact spec_ReadHead.mono _ _ _ _ _ _ _ _ _ _
   | exact LeO.none _
   | refine LeO.ite ?_ ?_
   | refine LeO.bind ?_ (fun _ => ?_)
theorem laws_FnExactReadHead.mono : ∀ a0 a1 a2 a3 a4 a5 a6 a7 a8 k, LeO (laws_FnExactReadHead.f k a0 a1 a2 a3 a4 a5 a6 a7 a8) (laws_FnExactReadHead.f (k + 1) a0 a1 a2 a3 a4 a5 a6 a7 a8) := by
 intro a0 a1 a2 a3 a4 a5 a6 a7 a8 k
 have ih0 := laws_FnExactReadHead.mono_l k
 unfold laws_FnExactReadHead.f
 repeat' first
   | (with_reducible exact ih0 _ _ _ _ _ _ _ _ _)
   | (with_reducible exact impl_ReadHead.mono _ _ _ _ _ _ _ _ _ _)
   | (with_reducible exact laws_eqSeq.mono _ _ _ _ _ _ _ _ _)
   | (with_reducible exact laws_toSeq.mono _ _ _ _ _)
   | (with_reducible exact spec_ReadHead.mono _ _ _ _ _ _ _ _ _ _)
   | (with_reducible exact LeO.refl _)
   | (with_reducible exact LeO.none _)
   | (with_reducible refine LeO.ite ?_ ?_)
   | (with_reducible refine LeO.bind ?_ (fun _ => ?_))
   | exact ih0 _ _ _ _ _ _ _ _ _
   | exact impl_ReadHead.mono _ _ _ _ _ _ _ _ _ _
   | exact laws_eqSeq.mono _ _ _ _ _ _ _ _ _
   | exact laws_toSeq.mono _ _ _ _ _
   | exact spec_ReadHead.mono _ _ _ _ _ _ _ _ _ _
   | exact LeO.none _
   | refine LeO.ite ?_ ?_
   | refine LeO.bind ?_ (fun _ => ?_)
def laws_FnExactReadHead.T7 : Bool × List (List Nat × List Nat) := (true, [([], []), ([0], [0]), ([], []), ([2, 1], [2]), ([], []), ([1, 3, 4, 3], [1, 3, 4]), ([5], [5]), ([6], [6]), ([6], [6]), ([6], [6]), ([], []), ([10, 7, 5, 0, 1, 2, 3, 4, 5, 6, 7, 10], [7, 10]), ([8, 11, 0, 1, 2, 3, 4, 5, 6, 7, 8, 10, 11], [8]), ([9, 12, 0, 1, 2, 3, 4, 5, 6, 7, 8, 9, 10, 11, 12], [9])])
def laws_FnExactReadHead.B7 : List Nat := [0, 1, 0, 7, 0, 31, 63, 127, 127, 127, 0, 1279, 3583, 8191]
theorem laws_FnExactReadHead.tab7 : rtab .any (opsOf Try.f5 7) = laws_FnExactReadHead.T7 := by kernel_rfl
theorem laws_FnExactReadHead.bits7 : zd1 laws_FnExactReadHead.T7.2 laws_FnExactReadHead.B7 = true := by kernel_rfl
def laws_FnExactReadHead.T9 : Bool × List (List Nat × List Nat) := (true, [([], []), ([], []), ([1], [1]), ([], []), ([0, 2, 3, 2], [0, 2, 3]), ([4], [4]), ([5], [5]), ([5], [5]), ([5], [5]), ([], []), ([9, 6, 4, 0, 1, 2, 3, 4, 5, 6, 9], [6, 9]), ([7, 10, 0, 1, 2, 3, 4, 5, 6, 7, 9, 10], [7]), ([8, 11, 0, 1, 2, 3, 4, 5, 6, 7, 8, 9, 10, 11], [8])])
def laws_FnExactReadHead.B9 : List Nat := [0, 0, 2, 0, 15, 31, 63, 63, 63, 0, 639, 1791, 4095]
theorem laws_FnExactReadHead.tab9 : rtab .any (opsOf Try.f5 9) = laws_FnExactReadHead.T9 := by kernel_rfl
theorem laws_FnExactReadHead.bits9 : zd1 laws_FnExactReadHead.T9.2 laws_FnExactReadHead.B9 = true := by kernel_rfl
set_option maxHeartbeats 8000000 in
set_option maxRecDepth 100000 in
theorem laws_FnExactReadHead.calls (k : Nat) (a0_0 : Int) (a0_1 : Int) (A0_2 : Option Addr) (c0_2 : Nat) (l0_2 : List Int) (A0_3 : Option Addr) (c0_3 : Nat) (l0_3 : List Int) (a1_0 : Int) (a1_1 : Bool) (a1_2 : Bool) (a1_3 : Bool) (a2 : ByteArray) (r : Bool) (w : World) (hr0_2 : Kd.C (Kd.int .i64) w A0_2 l0_2.length l0_2) (hc0_2 : l0_2.length ≤ c0_2) (hr0_3 : Kd.C (Kd.int .i64) w A0_3 l0_3.length l0_3) (hc0_3 : l0_3.length ≤ c0_3) (h : laws_FnExactReadHead.f k a0_0 a0_1 l0_2 l0_3 a1_0 a1_1 a1_2 a1_3 a2 = some r) (hr_ : Aside0 (r = true)) :
  Calls Try.prog 5 #[.agg #[.int .i64 a0_0, .int .i64 a0_1, .slice A0_2 l0_2.length c0_2, .slice A0_3 l0_3.length c0_3], .agg #[.int .i64 a1_0, .bool a1_1, .bool a1_2, .bool a1_3], .string a2] w fun e w' => e = .returned (.bool r) ∧ Below w.heap.size w w' := by
 have hu29 := Try.underlying29
 have hu31 := Try.underlying31
 have hu34 := Try.underlying34
 have hu37 := Try.underlying37
 have HR0_2 := Aside0.mk hr0_2
 have HC0_2 := Aside0.mk hc0_2
 clear hr0_2 hc0_2
 have HR0_3 := Aside0.mk hr0_3
 have HC0_3 := Aside0.mk hc0_3
 clear hr0_3 hc0_3
 have HB := Aside0.mk (Below.refl w.heap.size w)
 have H : (if (a2.size : Int) > 1048576 then (some true) else ((laws_szSeq.f a0_0 a0_1 l0_2 l0_3 1048576).bind fun t261 => (if t261 < 0 then (some true) else ((laws_toSeq.f k a0_0 a0_1 l0_2 l0_3).bind fun bt262 => ((laws_toPar.f a1_0 a1_1 a1_2 a1_3).bind fun bt270 => ((spec_ReadHead.f k bt262.1 bt262.2.1 bt262.2.2.1 bt262.2.2.2 bt270.1 bt270.2.1 bt270.2.2.1 bt270.2.2.2 a2).bind fun bt274 => ((laws_toSeq.f k a0_0 a0_1 l0_2 l0_3).bind fun bt280 => ((laws_toPar.f a1_0 a1_1 a1_2 a1_3).bind fun bt289 => ((impl_ReadHead.f k bt280.1 bt280.2.1 bt280.2.2.1 bt280.2.2.2 bt289.1 bt289.2.1 bt289.2.2.1 bt289.2.2.2 a2).bind fun bt293 => ((laws_eqHead.f bt293.1 bt293.2.1 bt293.2.2.1 bt274.1 bt274.2.1 bt274.2.2.1).bind fun t299 => (if t299 = true then (if bt293.2.2.2.1 = bt274.2.2.2.1 then (laws_FnExactReadHead.j0 k (bt293.2.2.2.2 != bt274.2.2.2.2) a0_0 a0_1 l0_2 l0_3 bt280.1 bt280.2.1 bt280.2.2.1 bt280.2.2.2) else (laws_FnExactReadHead.j0 k true a0_0 a0_1 l0_2 l0_3 bt280.1 bt280.2.1 bt280.2.2.1 bt280.2.2.2)) else (laws_FnExactReadHead.j0 k true a0_0 a0_1 l0_2 l0_3 bt280.1 bt280.2.1 bt280.2.2.1 bt280.2.2.2)))))))))))) = some r := h
 clear h
 by_cases c4 : (a2.size : Int) > 1048576
 ·rw [if_pos c4] at H
  have c4b0 : decide (1048576 < (a2.size : Int)) = true := decide_eq_true c4
  have c4b1 : decide (1048576 < a2.size) = true := decide_eq_true (by omega)
  clear c4
  obtain rfl := Option.some.inj H
  go_enter Try.func5, Try.ntmps5
  go_wp2_with (first | ((with_reducible refine zl (N := 3) rfl ?_); refine zj ?hg (N := 3) ?hd (cs := #[.int .i64 a0_0, .int .i64 a0_1, .slice A0_2 l0_2.length c0_2, .slice A0_3 l0_3.length c0_3]) (t := 29) ?hr ?_; (case hd => rfl); (case hg => rfl); (case hr => first | (go_simp; done) | (go_simp; rfl)); intro gb259 hg w5 hbox hb; have n0_ := Aside0.mk (zc (by repeat (first | (with_reducible first | exact HB.out | apply z7 | apply z1 | apply z6) | exact HB.out)) hb); have n1_ := Aside0.mk (hbox); have n2_ := Aside0.mk ((by rw [hg]; exact (zb (by repeat (first | (with_reducible first | exact HB.out | apply z7 | apply z1 | apply z6) | exact HB.out))) : w.heap.size ≤ gb259)); have n3_ := Aside0.mk ((by rw [hg]; exact (zb (by repeat (first | (with_reducible first | exact HB.out | apply z7 | apply z1 | apply z6) | exact HB.out))) : w.heap.size ≤ gb259)); clear HB; have HB := n0_; have BK259 := n1_; have GW259 := n2_; have GE259 := n3_; clear n0_ n1_ n2_ n3_; clear hb hbox hg) | ((with_reducible refine zl (N := 4) rfl ?_); refine zj ?hg (N := 4) ?hd (cs := #[.int .i64 a1_0, .bool a1_1, .bool a1_2, .bool a1_3]) (t := 31) ?hr ?_; (case hd => rfl); (case hg => rfl); (case hr => first | (go_simp; done) | (go_simp; rfl)); intro gb260 hg w6 hbox hb; have n0_ := Aside0.mk (za (g := gb259) (o := .cells #[.int .i64 a0_0, .int .i64 a0_1, .slice A0_2 l0_2.length c0_2, .slice A0_3 l0_3.length c0_3] 29 (0, 0)) (by (with_reducible repeat (first | refine z5 ?_ _ | refine z8 ?_ | refine z4 ?_ _)); exact BK259.out) hb); have n1_ := Aside0.mk (zc (by repeat (first | (with_reducible first | exact HB.out | apply z7 | apply z1 | apply z6 | refine z2 ?_ GE259.out) | exact HB.out)) hb); have n2_ := Aside0.mk (hbox); have n3_ := Aside0.mk ((by rw [hg]; exact (zb (by repeat (first | (with_reducible first | exact HB.out | apply z7 | apply z1 | apply z6 | refine z2 ?_ GE259.out) | exact HB.out))) : w.heap.size ≤ gb260)); have n4_ := Aside0.mk ((by rw [hg]; exact (zb (by repeat (first | (with_reducible first | exact HB.out | apply z7 | apply z1 | apply z6 | refine z2 ?_ GE259.out) | exact HB.out))) : w.heap.size ≤ gb260)); have n5_ := Aside0.mk ((by rw [hg]; exact Nat.ne_of_lt (zi (g := gb259) (o := .cells #[.int .i64 a0_0, .int .i64 a0_1, .slice A0_2 l0_2.length c0_2, .slice A0_3 l0_3.length c0_3] 29 (0, 0)) (by (with_reducible repeat (first | refine z5 ?_ _ | refine z8 ?_ | refine z4 ?_ _)); exact BK259.out)) : gb259 ≠ gb260)); have n6_ := Aside0.mk ((by rw [hg]; exact Nat.ne_of_gt (zi (g := gb259) (o := .cells #[.int .i64 a0_0, .int .i64 a0_1, .slice A0_2 l0_2.length c0_2, .slice A0_3 l0_3.length c0_3] 29 (0, 0)) (by (with_reducible repeat (first | refine z5 ?_ _ | refine z8 ?_ | refine z4 ?_ _)); exact BK259.out)) : gb260 ≠ gb259)); clear BK259; clear HB; have BK259 := n0_; have HB := n1_; have BK260 := n2_; have GW260 := n3_; have GE260 := n4_; have NB259_260 := n5_; have NB260_259 := n6_; clear n0_ n1_ n2_ n3_ n4_ n5_ n6_; clear hb hbox hg))
  go_ret
  exact ⟨by first | rfl | (simp [errW_none, errW_some] <;> rfl) | (simp [*, errW_none, errW_some] <;> rfl), by repeat (first | (with_reducible first | exact HB.out | apply z7 | apply z1 | apply z6 | refine z2 ?_ GE259.out | refine z2 ?_ GE260.out) | exact HB.out)⟩
 ·rw [if_neg c4] at H
  have c4b0 : decide (1048576 < (a2.size : Int)) = false := decide_eq_false c4
  have c4b1 : decide (1048576 < a2.size) = false := decide_eq_false (by omega)
  clear c4
  replace H := Option.bind_eq_some_iff.mp H
  obtain ⟨t261, A70, H⟩ := H
  replace H : (if t261 < 0 then (some true) else ((laws_toSeq.f k a0_0 a0_1 l0_2 l0_3).bind fun bt262 => ((laws_toPar.f a1_0 a1_1 a1_2 a1_3).bind fun bt270 => ((spec_ReadHead.f k bt262.1 bt262.2.1 bt262.2.2.1 bt262.2.2.2 bt270.1 bt270.2.1 bt270.2.2.1 bt270.2.2.2 a2).bind fun bt274 => ((laws_toSeq.f k a0_0 a0_1 l0_2 l0_3).bind fun bt280 => ((laws_toPar.f a1_0 a1_1 a1_2 a1_3).bind fun bt289 => ((impl_ReadHead.f k bt280.1 bt280.2.1 bt280.2.2.1 bt280.2.2.2 bt289.1 bt289.2.1 bt289.2.2.1 bt289.2.2.2 a2).bind fun bt293 => ((laws_eqHead.f bt293.1 bt293.2.1 bt293.2.2.1 bt274.1 bt274.2.1 bt274.2.2.1).bind fun t299 => (if t299 = true then (if bt293.2.2.2.1 = bt274.2.2.2.1 then (laws_FnExactReadHead.j0 k (bt293.2.2.2.2 != bt274.2.2.2.2) a0_0 a0_1 l0_2 l0_3 bt280.1 bt280.2.1 bt280.2.2.1 bt280.2.2.2) else (laws_FnExactReadHead.j0 k true a0_0 a0_1 l0_2 l0_3 bt280.1 bt280.2.1 bt280.2.2.1 bt280.2.2.2)) else (laws_FnExactReadHead.j0 k true a0_0 a0_1 l0_2 l0_3 bt280.1 bt280.2.1 bt280.2.2.1 bt280.2.2.2)))))))))) = some r := H
  have A7 := Aside0.mk A70
  clear A70
  by_cases c8 : t261 < 0
  ·rw [if_pos c8] at H
   have c8b0 : decide (t261 < 0) = true := decide_eq_true c8
   clear c8
   obtain rfl := Option.some.inj H
   go_enter Try.func5, Try.ntmps5
   go_wp2_with (first | ((with_reducible refine zl (N := 3) rfl ?_); refine zj ?hg (N := 3) ?hd (cs := #[.int .i64 a0_0, .int .i64 a0_1, .slice A0_2 l0_2.length c0_2, .slice A0_3 l0_3.length c0_3]) (t := 29) ?hr ?_; (case hd => rfl); (case hg => rfl); (case hr => first | (go_simp; done) | (go_simp; rfl)); intro gb259 hg w9 hbox hb; have n0_ := Aside0.mk (zc (by repeat (first | (with_reducible first | exact HB.out | apply z7 | apply z1 | apply z6) | exact HB.out)) hb); have n1_ := Aside0.mk (hbox); have n2_ := Aside0.mk ((by rw [hg]; exact (zb (by repeat (first | (with_reducible first | exact HB.out | apply z7 | apply z1 | apply z6) | exact HB.out))) : w.heap.size ≤ gb259)); have n3_ := Aside0.mk ((by rw [hg]; exact (zb (by repeat (first | (with_reducible first | exact HB.out | apply z7 | apply z1 | apply z6) | exact HB.out))) : w.heap.size ≤ gb259)); clear HB; have HB := n0_; have BK259 := n1_; have GW259 := n2_; have GE259 := n3_; clear n0_ n1_ n2_ n3_; clear hb hbox hg) | ((with_reducible refine zl (N := 4) rfl ?_); refine zj ?hg (N := 4) ?hd (cs := #[.int .i64 a1_0, .bool a1_1, .bool a1_2, .bool a1_3]) (t := 31) ?hr ?_; (case hd => rfl); (case hg => rfl); (case hr => first | (go_simp; done) | (go_simp; rfl)); intro gb260 hg w10 hbox hb; have n0_ := Aside0.mk (za (g := gb259) (o := .cells #[.int .i64 a0_0, .int .i64 a0_1, .slice A0_2 l0_2.length c0_2, .slice A0_3 l0_3.length c0_3] 29 (0, 0)) (by (with_reducible repeat (first | refine z5 ?_ _ | refine z8 ?_ | refine z4 ?_ _)); exact BK259.out) hb); have n1_ := Aside0.mk (zc (by repeat (first | (with_reducible first | exact HB.out | apply z7 | apply z1 | apply z6 | refine z2 ?_ GE259.out) | exact HB.out)) hb); have n2_ := Aside0.mk (hbox); have n3_ := Aside0.mk ((by rw [hg]; exact (zb (by repeat (first | (with_reducible first | exact HB.out | apply z7 | apply z1 | apply z6 | refine z2 ?_ GE259.out) | exact HB.out))) : w.heap.size ≤ gb260)); have n4_ := Aside0.mk ((by rw [hg]; exact (zb (by repeat (first | (with_reducible first | exact HB.out | apply z7 | apply z1 | apply z6 | refine z2 ?_ GE259.out) | exact HB.out))) : w.heap.size ≤ gb260)); have n5_ := Aside0.mk ((by rw [hg]; exact Nat.ne_of_lt (zi (g := gb259) (o := .cells #[.int .i64 a0_0, .int .i64 a0_1, .slice A0_2 l0_2.length c0_2, .slice A0_3 l0_3.length c0_3] 29 (0, 0)) (by (with_reducible repeat (first | refine z5 ?_ _ | refine z8 ?_ | refine z4 ?_ _)); exact BK259.out)) : gb259 ≠ gb260)); have n6_ := Aside0.mk ((by rw [hg]; exact Nat.ne_of_gt (zi (g := gb259) (o := .cells #[.int .i64 a0_0, .int .i64 a0_1, .slice A0_2 l0_2.length c0_2, .slice A0_3 l0_3.length c0_3] 29 (0, 0)) (by (with_reducible repeat (first | refine z5 ?_ _ | refine z8 ?_ | refine z4 ?_ _)); exact BK259.out)) : gb260 ≠ gb259)); clear BK259; clear HB; have BK259 := n0_; have HB := n1_; have BK260 := n2_; have GW260 := n3_; have GE260 := n4_; have NB259_260 := n5_; have NB260_259 := n6_; clear n0_ n1_ n2_ n3_ n4_ n5_ n6_; clear hb hbox hg; have hnb11 := NB259_260.out; have hnc11 := NB260_259.out; have hcz12_0 : w10.cell? ⟨gb259, 0, none⟩ = some (.int .i64 a0_0) := (z3 BK259.out 0).trans rfl; have hcz12_1 : w10.cell? ⟨gb259, 1, none⟩ = some (.int .i64 a0_1) := (z3 BK259.out 1).trans rfl; have hcz12_2 : w10.cell? ⟨gb259, 2, none⟩ = some (.slice A0_2 l0_2.length c0_2) := (z3 BK259.out 2).trans rfl; have hcz12_3 : w10.cell? ⟨gb259, 3, none⟩ = some (.slice A0_3 l0_3.length c0_3) := (z3 BK259.out 3).trans rfl; have hfz12_0 := z9 BK259.out 0; have hfz12_1 := z9 BK259.out 1; have hfz12_2 := z9 BK259.out 2; have hfz12_3 := z9 BK259.out 3) | ((with_reducible refine zg (f := 19) rfl ?_); refine zr (some 20) rfl rfl Try.func19 (by kernel_rfl) rfl #[.agg #[.int .i64 a0_0, .int .i64 a0_1, .slice A0_2 l0_2.length c0_2, .slice A0_3 l0_3.length c0_3], .int .i64 1048576] rfl (by (try simp only [List.map_toArray, List.map_cons, List.map_nil]); first | done | rfl | (simp only [List.length_drop, List.length_take]; rfl)) ?_; (with_reducible refine (laws_szSeq.calls a0_0 a0_1 _ _ l0_2 _ _ l0_3 1048576 t261 _ ?side1 ?side2 ?side3 ?side4 A7.out).mono ?_); (case side1 => repeat (first | exact (Kd.C_below HR0_2.out HB.out) | (with_reducible refine Kd.C_alloc ?_ _) | (with_reducible refine Kd.C_drewN ?_ _) | (with_reducible refine Kd.C_drew ?_))); (case side2 => exact HC0_2.out); (case side3 => repeat (first | exact (Kd.C_below HR0_3.out HB.out) | (with_reducible refine Kd.C_alloc ?_ _) | (with_reducible refine Kd.C_drewN ?_ _) | (with_reducible refine Kd.C_drew ?_))); (case side4 => exact HC0_3.out); rintro e w13 ⟨rfl, hb⟩; refine ⟨_, rfl, ?_⟩; have n0_ := Aside0.mk (za (g := gb259) (o := .cells #[.int .i64 a0_0, .int .i64 a0_1, .slice A0_2 l0_2.length c0_2, .slice A0_3 l0_3.length c0_3] 29 (0, 0)) (by (with_reducible repeat (first | refine z5 ?_ _ | refine z8 ?_ | refine z4 ?_ _)); exact BK259.out) hb); have n1_ := Aside0.mk (za (g := gb260) (o := .cells #[.int .i64 a1_0, .bool a1_1, .bool a1_2, .bool a1_3] 31 (0, 0)) (by (with_reducible repeat (first | refine z5 ?_ _ | refine z8 ?_ | refine z4 ?_ _)); exact BK260.out) hb); have n2_ := Aside0.mk (zc (by repeat (first | (with_reducible first | exact HB.out | apply z7 | apply z1 | apply z6 | refine z2 ?_ GE259.out | refine z2 ?_ GE260.out) | exact HB.out)) hb); clear BK259; clear BK260; clear HB; have BK259 := n0_; have BK260 := n1_; have HB := n2_; clear n0_ n1_ n2_; (try clear hb); (try clear hb2); (try clear hk); (try clear hi)))
   go_ret
   exact ⟨by first | rfl | (simp [errW_none, errW_some] <;> rfl) | (simp [*, errW_none, errW_some] <;> rfl), by repeat (first | (with_reducible first | exact HB.out | apply z7 | apply z1 | apply z6 | refine z2 ?_ GE259.out | refine z2 ?_ GE260.out) | exact HB.out)⟩
  ·rw [if_neg c8] at H
   have c8b0 : decide (t261 < 0) = false := decide_eq_false c8
   clear c8
   replace H := Option.bind_eq_some_iff.mp H
   obtain ⟨⟨t262, t263, t264, t267⟩, A140, H⟩ := H
   replace H : ((laws_toPar.f a1_0 a1_1 a1_2 a1_3).bind fun bt270 => ((spec_ReadHead.f k t262 t263 t264 t267 bt270.1 bt270.2.1 bt270.2.2.1 bt270.2.2.2 a2).bind fun bt274 => ((laws_toSeq.f k a0_0 a0_1 l0_2 l0_3).bind fun bt280 => ((laws_toPar.f a1_0 a1_1 a1_2 a1_3).bind fun bt289 => ((impl_ReadHead.f k bt280.1 bt280.2.1 bt280.2.2.1 bt280.2.2.2 bt289.1 bt289.2.1 bt289.2.2.1 bt289.2.2.2 a2).bind fun bt293 => ((laws_eqHead.f bt293.1 bt293.2.1 bt293.2.2.1 bt274.1 bt274.2.1 bt274.2.2.1).bind fun t299 => (if t299 = true then (if bt293.2.2.2.1 = bt274.2.2.2.1 then (laws_FnExactReadHead.j0 k (bt293.2.2.2.2 != bt274.2.2.2.2) a0_0 a0_1 l0_2 l0_3 bt280.1 bt280.2.1 bt280.2.2.1 bt280.2.2.2) else (laws_FnExactReadHead.j0 k true a0_0 a0_1 l0_2 l0_3 bt280.1 bt280.2.1 bt280.2.2.1 bt280.2.2.2)) else (laws_FnExactReadHead.j0 k true a0_0 a0_1 l0_2 l0_3 bt280.1 bt280.2.1 bt280.2.2.1 bt280.2.2.2)))))))) = some r := H
   have A14 := Aside0.mk A140
   clear A140
   replace H := Option.bind_eq_some_iff.mp H
   obtain ⟨⟨t270, t271, t272, t273⟩, A150, H⟩ := H
   replace H : ((spec_ReadHead.f k t262 t263 t264 t267 t270 t271 t272 t273 a2).bind fun bt274 => ((laws_toSeq.f k a0_0 a0_1 l0_2 l0_3).bind fun bt280 => ((laws_toPar.f a1_0 a1_1 a1_2 a1_3).bind fun bt289 => ((impl_ReadHead.f k bt280.1 bt280.2.1 bt280.2.2.1 bt280.2.2.2 bt289.1 bt289.2.1 bt289.2.2.1 bt289.2.2.2 a2).bind fun bt293 => ((laws_eqHead.f bt293.1 bt293.2.1 bt293.2.2.1 bt274.1 bt274.2.1 bt274.2.2.1).bind fun t299 => (if t299 = true then (if bt293.2.2.2.1 = bt274.2.2.2.1 then (laws_FnExactReadHead.j0 k (bt293.2.2.2.2 != bt274.2.2.2.2) a0_0 a0_1 l0_2 l0_3 bt280.1 bt280.2.1 bt280.2.2.1 bt280.2.2.2) else (laws_FnExactReadHead.j0 k true a0_0 a0_1 l0_2 l0_3 bt280.1 bt280.2.1 bt280.2.2.1 bt280.2.2.2)) else (laws_FnExactReadHead.j0 k true a0_0 a0_1 l0_2 l0_3 bt280.1 bt280.2.1 bt280.2.2.1 bt280.2.2.2))))))) = some r := H
   have A15 := Aside0.mk A150
   clear A150
   replace H := Option.bind_eq_some_iff.mp H
   obtain ⟨⟨t274, t275, t276, t277, t278⟩, A160, H⟩ := H
   replace H : ((laws_toSeq.f k a0_0 a0_1 l0_2 l0_3).bind fun bt280 => ((laws_toPar.f a1_0 a1_1 a1_2 a1_3).bind fun bt289 => ((impl_ReadHead.f k bt280.1 bt280.2.1 bt280.2.2.1 bt280.2.2.2 bt289.1 bt289.2.1 bt289.2.2.1 bt289.2.2.2 a2).bind fun bt293 => ((laws_eqHead.f bt293.1 bt293.2.1 bt293.2.2.1 t274 t275 t276).bind fun t299 => (if t299 = true then (if bt293.2.2.2.1 = t277 then (laws_FnExactReadHead.j0 k (bt293.2.2.2.2 != t278) a0_0 a0_1 l0_2 l0_3 bt280.1 bt280.2.1 bt280.2.2.1 bt280.2.2.2) else (laws_FnExactReadHead.j0 k true a0_0 a0_1 l0_2 l0_3 bt280.1 bt280.2.1 bt280.2.2.1 bt280.2.2.2)) else (laws_FnExactReadHead.j0 k true a0_0 a0_1 l0_2 l0_3 bt280.1 bt280.2.1 bt280.2.2.1 bt280.2.2.2)))))) = some r := H
   have A16 := Aside0.mk A160
   clear A160
   replace H := Option.bind_eq_some_iff.mp H
   obtain ⟨⟨t280, t281, t282, t285⟩, A170, H⟩ := H
   replace H : ((laws_toPar.f a1_0 a1_1 a1_2 a1_3).bind fun bt289 => ((impl_ReadHead.f k t280 t281 t282 t285 bt289.1 bt289.2.1 bt289.2.2.1 bt289.2.2.2 a2).bind fun bt293 => ((laws_eqHead.f bt293.1 bt293.2.1 bt293.2.2.1 t274 t275 t276).bind fun t299 => (if t299 = true then (if bt293.2.2.2.1 = t277 then (laws_FnExactReadHead.j0 k (bt293.2.2.2.2 != t278) a0_0 a0_1 l0_2 l0_3 t280 t281 t282 t285) else (laws_FnExactReadHead.j0 k true a0_0 a0_1 l0_2 l0_3 t280 t281 t282 t285)) else (laws_FnExactReadHead.j0 k true a0_0 a0_1 l0_2 l0_3 t280 t281 t282 t285))))) = some r := H
   have A17 := Aside0.mk A170
   clear A170
   replace H := Option.bind_eq_some_iff.mp H
   obtain ⟨⟨t289, t290, t291, t292⟩, A180, H⟩ := H
   replace H : ((impl_ReadHead.f k t280 t281 t282 t285 t289 t290 t291 t292 a2).bind fun bt293 => ((laws_eqHead.f bt293.1 bt293.2.1 bt293.2.2.1 t274 t275 t276).bind fun t299 => (if t299 = true then (if bt293.2.2.2.1 = t277 then (laws_FnExactReadHead.j0 k (bt293.2.2.2.2 != t278) a0_0 a0_1 l0_2 l0_3 t280 t281 t282 t285) else (laws_FnExactReadHead.j0 k true a0_0 a0_1 l0_2 l0_3 t280 t281 t282 t285)) else (laws_FnExactReadHead.j0 k true a0_0 a0_1 l0_2 l0_3 t280 t281 t282 t285)))) = some r := H
   have A18 := Aside0.mk A180
   clear A180
   replace H := Option.bind_eq_some_iff.mp H
   obtain ⟨⟨t293, t294, t295, t296, t297⟩, A190, H⟩ := H
   replace H : ((laws_eqHead.f t293 t294 t295 t274 t275 t276).bind fun t299 => (if t299 = true then (if t296 = t277 then (laws_FnExactReadHead.j0 k (t297 != t278) a0_0 a0_1 l0_2 l0_3 t280 t281 t282 t285) else (laws_FnExactReadHead.j0 k true a0_0 a0_1 l0_2 l0_3 t280 t281 t282 t285)) else (laws_FnExactReadHead.j0 k true a0_0 a0_1 l0_2 l0_3 t280 t281 t282 t285))) = some r := H
   have A19 := Aside0.mk A190
   clear A190
   have HC20 := Aside0.mk H
   clear H
   go_enter Try.func5, Try.ntmps5
   try go_wp2_with (first | ((with_reducible refine zl (N := 3) rfl ?_); refine zj ?hg (N := 3) ?hd (cs := #[.int .i64 a0_0, .int .i64 a0_1, .slice A0_2 l0_2.length c0_2, .slice A0_3 l0_3.length c0_3]) (t := 29) ?hr ?_; (case hd => rfl); (case hg => rfl); (case hr => first | (go_simp; done) | (go_simp; rfl)); intro gb259 hg w21 hbox hb; have n0_ := Aside0.mk (zc (by repeat (first | (with_reducible first | exact HB.out | apply z7 | apply z1 | apply z6) | exact HB.out)) hb); have n1_ := Aside0.mk (hbox); have n2_ := Aside0.mk ((by rw [hg]; exact (zb (by repeat (first | (with_reducible first | exact HB.out | apply z7 | apply z1 | apply z6) | exact HB.out))) : w.heap.size ≤ gb259)); have n3_ := Aside0.mk ((by rw [hg]; exact (zb (by repeat (first | (with_reducible first | exact HB.out | apply z7 | apply z1 | apply z6) | exact HB.out))) : w.heap.size ≤ gb259)); clear HB; have HB := n0_; have BK259 := n1_; have GW259 := n2_; have GE259 := n3_; clear n0_ n1_ n2_ n3_; clear hb hbox hg) | ((with_reducible refine zl (N := 4) rfl ?_); refine zj ?hg (N := 4) ?hd (cs := #[.int .i64 a1_0, .bool a1_1, .bool a1_2, .bool a1_3]) (t := 31) ?hr ?_; (case hd => rfl); (case hg => rfl); (case hr => first | (go_simp; done) | (go_simp; rfl)); intro gb260 hg w22 hbox hb; have n0_ := Aside0.mk (za (g := gb259) (o := .cells #[.int .i64 a0_0, .int .i64 a0_1, .slice A0_2 l0_2.length c0_2, .slice A0_3 l0_3.length c0_3] 29 (0, 0)) (by (with_reducible repeat (first | refine z5 ?_ _ | refine z8 ?_ | refine z4 ?_ _)); exact BK259.out) hb); have n1_ := Aside0.mk (zc (by repeat (first | (with_reducible first | exact HB.out | apply z7 | apply z1 | apply z6 | refine z2 ?_ GE259.out) | exact HB.out)) hb); have n2_ := Aside0.mk (hbox); have n3_ := Aside0.mk ((by rw [hg]; exact (zb (by repeat (first | (with_reducible first | exact HB.out | apply z7 | apply z1 | apply z6 | refine z2 ?_ GE259.out) | exact HB.out))) : w.heap.size ≤ gb260)); have n4_ := Aside0.mk ((by rw [hg]; exact (zb (by repeat (first | (with_reducible first | exact HB.out | apply z7 | apply z1 | apply z6 | refine z2 ?_ GE259.out) | exact HB.out))) : w.heap.size ≤ gb260)); have n5_ := Aside0.mk ((by rw [hg]; exact Nat.ne_of_lt (zi (g := gb259) (o := .cells #[.int .i64 a0_0, .int .i64 a0_1, .slice A0_2 l0_2.length c0_2, .slice A0_3 l0_3.length c0_3] 29 (0, 0)) (by (with_reducible repeat (first | refine z5 ?_ _ | refine z8 ?_ | refine z4 ?_ _)); exact BK259.out)) : gb259 ≠ gb260)); have n6_ := Aside0.mk ((by rw [hg]; exact Nat.ne_of_gt (zi (g := gb259) (o := .cells #[.int .i64 a0_0, .int .i64 a0_1, .slice A0_2 l0_2.length c0_2, .slice A0_3 l0_3.length c0_3] 29 (0, 0)) (by (with_reducible repeat (first | refine z5 ?_ _ | refine z8 ?_ | refine z4 ?_ _)); exact BK259.out)) : gb260 ≠ gb259)); clear BK259; clear HB; have BK259 := n0_; have HB := n1_; have BK260 := n2_; have GW260 := n3_; have GE260 := n4_; have NB259_260 := n5_; have NB260_259 := n6_; clear n0_ n1_ n2_ n3_ n4_ n5_ n6_; clear hb hbox hg; have hnb23 := NB259_260.out; have hnc23 := NB260_259.out; have hcz24_0 : w22.cell? ⟨gb259, 0, none⟩ = some (.int .i64 a0_0) := (z3 BK259.out 0).trans rfl; have hcz24_1 : w22.cell? ⟨gb259, 1, none⟩ = some (.int .i64 a0_1) := (z3 BK259.out 1).trans rfl; have hcz24_2 : w22.cell? ⟨gb259, 2, none⟩ = some (.slice A0_2 l0_2.length c0_2) := (z3 BK259.out 2).trans rfl; have hcz24_3 : w22.cell? ⟨gb259, 3, none⟩ = some (.slice A0_3 l0_3.length c0_3) := (z3 BK259.out 3).trans rfl; have hfz24_0 := z9 BK259.out 0; have hfz24_1 := z9 BK259.out 1; have hfz24_2 := z9 BK259.out 2; have hfz24_3 := z9 BK259.out 3) | ((with_reducible refine zg (f := 19) rfl ?_); refine zr (some 20) rfl rfl Try.func19 (by kernel_rfl) rfl #[.agg #[.int .i64 a0_0, .int .i64 a0_1, .slice A0_2 l0_2.length c0_2, .slice A0_3 l0_3.length c0_3], .int .i64 1048576] rfl (by (try simp only [List.map_toArray, List.map_cons, List.map_nil]); first | done | rfl | (simp only [List.length_drop, List.length_take]; rfl)) ?_; (with_reducible refine (laws_szSeq.calls a0_0 a0_1 _ _ l0_2 _ _ l0_3 1048576 t261 _ ?side1 ?side2 ?side3 ?side4 A7.out).mono ?_); (case side1 => repeat (first | exact (Kd.C_below HR0_2.out HB.out) | (with_reducible refine Kd.C_alloc ?_ _) | (with_reducible refine Kd.C_drewN ?_ _) | (with_reducible refine Kd.C_drew ?_))); (case side2 => exact HC0_2.out); (case side3 => repeat (first | exact (Kd.C_below HR0_3.out HB.out) | (with_reducible refine Kd.C_alloc ?_ _) | (with_reducible refine Kd.C_drewN ?_ _) | (with_reducible refine Kd.C_drew ?_))); (case side4 => exact HC0_3.out); rintro e w25 ⟨rfl, hb⟩; refine ⟨_, rfl, ?_⟩; have n0_ := Aside0.mk (za (g := gb259) (o := .cells #[.int .i64 a0_0, .int .i64 a0_1, .slice A0_2 l0_2.length c0_2, .slice A0_3 l0_3.length c0_3] 29 (0, 0)) (by (with_reducible repeat (first | refine z5 ?_ _ | refine z8 ?_ | refine z4 ?_ _)); exact BK259.out) hb); have n1_ := Aside0.mk (za (g := gb260) (o := .cells #[.int .i64 a1_0, .bool a1_1, .bool a1_2, .bool a1_3] 31 (0, 0)) (by (with_reducible repeat (first | refine z5 ?_ _ | refine z8 ?_ | refine z4 ?_ _)); exact BK260.out) hb); have n2_ := Aside0.mk (zc (by repeat (first | (with_reducible first | exact HB.out | apply z7 | apply z1 | apply z6 | refine z2 ?_ GE259.out | refine z2 ?_ GE260.out) | exact HB.out)) hb); clear BK259; clear BK260; clear HB; have BK259 := n0_; have BK260 := n1_; have HB := n2_; clear n0_ n1_ n2_; (try clear hb); (try clear hb2); (try clear hk); (try clear hi)))
   have n0_ := Aside0.mk (z8 BK259.out)
   have n1_ := Aside0.mk (z8 BK260.out)
   have n2_ := Aside0.mk (z6 HB.out)
   clear BK259
   clear BK260
   clear HB
   have BK259 := n0_
   have BK260 := n1_
   have HB := n2_
   clear n0_ n1_ n2_
   refine z91 (n := 14) (S := fun w' => w'.cell? ⟨gb259, 0, none⟩ = some (.int .i64 a0_0) ∧ w'.cell? ⟨gb259, 1, none⟩ = some (.int .i64 a0_1) ∧ w'.cell? ⟨gb259, 2, none⟩ = some (.slice A0_2 l0_2.length c0_2) ∧ w'.cell? ⟨gb259, 3, none⟩ = some (.slice A0_3 l0_3.length c0_3) ∧ w'.cell? ⟨gb260, 0, none⟩ = some (.int .i64 a1_0) ∧ w'.cell? ⟨gb260, 1, none⟩ = some (.bool a1_1) ∧ w'.cell? ⟨gb260, 2, none⟩ = some (.bool a1_2) ∧ w'.cell? ⟨gb260, 3, none⟩ = some (.bool a1_3)) (ds := []) #[false, false, false, false, false, false, false, false, false, false, false, false, false, false] (by kernel_rfl) rfl rfl ⟨(z3 BK259.out 0).trans rfl, (z3 BK259.out 1).trans rfl, (z3 BK259.out 2).trans rfl, (z3 BK259.out 3).trans rfl, (z3 BK260.out 0).trans rfl, (z3 BK260.out 1).trans rfl, (z3 BK260.out 2).trans rfl, (z3 BK260.out 3).trans rfl⟩ (fun hHeld => ?_); refine zy laws_FnExactReadHead.tab7 laws_FnExactReadHead.bits7 (fun HT_ HW_ => ?_)
   generalize w25.drew = w26 at BK259 BK260 HB hHeld ⊢
   refine zh (i := 4) (N := some 28) (v := ?_) (a' := ?_) #[false, false, false, false, true, false, false, false, false, false, false, false, false, false] rfl rfl (zd HT_.out (by kernel_rfl)) (fun _ _ _ h => h) (Or.inl ⟨by rfl, ?_⟩) ?_ ?_
   rotate_left
   ·intro w'
    go_simp
    with_reducible rfl
   rotate_left
   ·simp only [Act.put, List.setIfInBounds_toArray, List.set_cons_zero, List.set_cons_succ, ze, zf]
    rfl
   refine take_ (i := 0) (N := some 24) (v := ?_) (a' := ?_) #[true, false, false, false, true, false, false, false, false, false, false, false, false, false] rfl rfl (zn HT_.out HW_.out (by kernel_rfl)) (fun _ _ _ h => h) (Or.inl ⟨by rfl, ?_⟩) hHeld ?_ ?_
   rotate_left
   ·rintro w' ⟨s0, s1, s2, s3, s4, s5, s6, s7⟩
    go_simp
    with_reducible rfl
   rotate_left
   ·simp only [Act.put, List.setIfInBounds_toArray, List.set_cons_zero, List.set_cons_succ, ze, zf]
    rfl
   refine take_ (i := 2) (N := some 26) (v := ?_) (a' := ?_) #[true, false, true, false, true, false, false, false, false, false, false, false, false, false] rfl rfl (zn HT_.out HW_.out (by kernel_rfl)) (fun _ _ _ h => h) (Or.inl ⟨by rfl, ?_⟩) hHeld ?_ ?_
   rotate_left
   ·rintro w' ⟨s0, s1, s2, s3, s4, s5, s6, s7⟩
    go_simp
    with_reducible rfl
   rotate_left
   ·simp only [Act.put, List.setIfInBounds_toArray, List.set_cons_zero, List.set_cons_succ, ze, zf]
    rfl
   refine join_ (σ := Value × Value × Nat) 3 #[true, true, true, true, true, true, true, true, true, true, true, false, false, false] (fun s_ => [(25, .agg #[.int .i64 t262, .int .i64 t263, s_.1, s_.2.1]), (27, .agg #[.int .i64 t270, .bool t271, .bool t272, .bool t273]), (29, .tuple #[.agg #[.int .i64 t274, .int .i64 t275, .int .i64 t276], .int .i64 t277, .bool t278]), (8, .pointer (some ⟨s_.2.2, 0, none⟩)), (23, .tuple #[.agg #[.int .i64 t274, .int .i64 t275, .int .i64 t276], .int .i64 t277, .bool t278]), (30, .agg #[.int .i64 t274, .int .i64 t275, .int .i64 t276]), (31, .int .i64 t277), (32, .bool t278)]) (fun s_ w' => (w'.cell? ⟨gb259, 0, none⟩ = some (.int .i64 a0_0) ∧ w'.cell? ⟨gb259, 1, none⟩ = some (.int .i64 a0_1) ∧ w'.cell? ⟨gb259, 2, none⟩ = some (.slice A0_2 l0_2.length c0_2) ∧ w'.cell? ⟨gb259, 3, none⟩ = some (.slice A0_3 l0_3.length c0_3) ∧ w'.cell? ⟨gb260, 0, none⟩ = some (.int .i64 a1_0) ∧ w'.cell? ⟨gb260, 1, none⟩ = some (.bool a1_1) ∧ w'.cell? ⟨gb260, 2, none⟩ = some (.bool a1_2) ∧ w'.cell? ⟨gb260, 3, none⟩ = some (.bool a1_3)) ∧ (Kd.R (Kd.int .i64) 3 w' w.heap.size (fun k_ => some k_ ≠ (s_.2.1 : Value).ownBlock) s_.1 t264) ∧ (Kd.R (Kd.int .i64) 3 w' w.heap.size (fun k_ => some k_ ≠ (s_.1 : Value).ownBlock) s_.2.1 t267) ∧ (w'.heap[gb259]? = some (.cells #[.int .i64 a0_0, .int .i64 a0_1, .slice A0_2 l0_2.length c0_2, .slice A0_3 l0_3.length c0_3] 29 (0, 0))) ∧ (w'.heap[gb260]? = some (.cells #[.int .i64 a1_0, .bool a1_1, .bool a1_2, .bool a1_3] 31 (0, 0))) ∧ (w'.heap[s_.2.2]? = some (.cells #[.int .i64 0, .int .i64 0, .int .i64 0] 34 (0, 0))) ∧ (w.heap.size ≤ s_.2.2) ∧ (w.heap.size ≤ s_.2.2) ∧ (gb259 ≠ s_.2.2) ∧ (s_.2.2 ≠ gb259) ∧ (gb260 ≠ s_.2.2) ∧ (s_.2.2 ≠ gb260) ∧ (Below w.heap.size w w')) ?_ ?_
   rotate_left
   ·intro hCont
    refine two_ (i := 1) (j := 10) (Ni := some 25) (Nj := some 8) #[true, true, true, false, true, false, false, false, false, false, false, false, false, false] #[true, false, true, false, true, false, false, false, false, false, true, false, false, false] rfl rfl rfl rfl (two_of HT_.out (by kernel_rfl)) (by decide) (by decide) (fun K hK => ?_) (fun K hK => ?_)
    ·skip
     refine zx Try.func21 (by kernel_rfl) rfl #[.agg #[.int .i64 a0_0, .int .i64 a0_1, .slice A0_2 l0_2.length c0_2, .slice A0_3 l0_3.length c0_3]] (by rfl) rfl rfl (by (try simp only [List.map_toArray, List.map_cons, List.map_nil]); first | done | rfl | (simp only [List.length_drop, List.length_take]; rfl)) ?_
     with_reducible refine (laws_toSeq.calls k a0_0 a0_1 _ _ l0_2 _ _ l0_3 t262 t263 t264 t267 _ ?side1 ?side2 ?side3 ?side4 A14.out).mono ?_
     (case side1 => repeat (first | exact (Kd.C_below HR0_2.out HB.out) | (with_reducible refine Kd.C_alloc ?_ _) | (with_reducible refine Kd.C_drewN ?_ _) | (with_reducible refine Kd.C_drew ?_)))
     (case side2 => exact HC0_2.out)
     (case side3 => repeat (first | exact (Kd.C_below HR0_3.out HB.out) | (with_reducible refine Kd.C_alloc ?_ _) | (with_reducible refine Kd.C_drewN ?_ _) | (with_reducible refine Kd.C_drew ?_)))
     (case side4 => exact HC0_3.out)
     rintro e w27 ⟨v265, v268, rfl, ho0, ho1, hb⟩
     refine ⟨_, rfl, ?_⟩
     have n0_ := Aside0.mk (Kd.R_lower ho0 (zb (by repeat (first | (with_reducible first | exact HB.out | apply z7 | apply z1 | apply z6 | refine z2 ?_ GE259.out | refine z2 ?_ GE260.out) | exact HB.out))))
     have n1_ := Aside0.mk (Kd.R_lower ho1 (zb (by repeat (first | (with_reducible first | exact HB.out | apply z7 | apply z1 | apply z6 | refine z2 ?_ GE259.out | refine z2 ?_ GE260.out) | exact HB.out))))
     have n2_ := Aside0.mk (za (g := gb259) (o := .cells #[.int .i64 a0_0, .int .i64 a0_1, .slice A0_2 l0_2.length c0_2, .slice A0_3 l0_3.length c0_3] 29 (0, 0)) (by (with_reducible repeat (first | refine z5 ?_ _ | refine z8 ?_ | refine z4 ?_ _)); exact BK259.out) hb)
     have n3_ := Aside0.mk (za (g := gb260) (o := .cells #[.int .i64 a1_0, .bool a1_1, .bool a1_2, .bool a1_3] 31 (0, 0)) (by (with_reducible repeat (first | refine z5 ?_ _ | refine z8 ?_ | refine z4 ?_ _)); exact BK260.out) hb)
     have n4_ := Aside0.mk (zc (by repeat (first | (with_reducible first | exact HB.out | apply z7 | apply z1 | apply z6 | refine z2 ?_ GE259.out | refine z2 ?_ GE260.out) | exact HB.out)) hb)
     clear BK259
     clear BK260
     clear HB
     have HO266 := n0_
     have HO269 := n1_
     have BK259 := n2_
     have BK260 := n3_
     have HB := n4_
     clear n0_ n1_ n2_ n3_ n4_
     (try clear hb)
     (try clear hb2)
     (try clear hk)
     (try clear hi)
     (try clear ho0)
     (try clear ho1)
     refine hK.out _ _ ⟨(z3 BK259.out 0).trans rfl, (z3 BK259.out 1).trans rfl, (z3 BK259.out 2).trans rfl, (z3 BK259.out 3).trans rfl, (z3 BK260.out 0).trans rfl, (z3 BK260.out 1).trans rfl, (z3 BK260.out 2).trans rfl, (z3 BK260.out 3).trans rfl⟩ (fun hHeld => ?_)
     clear hK K
     refine zw (a' := ?_) ?_ ?_
     rotate_left
     ·show Act.put _ (some 25) _ = _
      simp only [Act.put, List.setIfInBounds_toArray, List.set_cons_zero, List.set_cons_succ, ze, zf]
      rfl
     refine two_ (i := 3) (j := 10) (Ni := some 27) (Nj := some 8) #[true, true, true, true, true, false, false, false, false, false, false, false, false, false] #[true, true, true, false, true, false, false, false, false, false, true, false, false, false] rfl rfl rfl rfl (two_of HT_.out (by kernel_rfl)) (by decide) (by decide) (fun K hK => ?_) (fun K hK => ?_)
     ·skip
      refine zx Try.func22 (by kernel_rfl) rfl #[.agg #[.int .i64 a1_0, .bool a1_1, .bool a1_2, .bool a1_3]] (by rfl) rfl rfl (by (try simp only [List.map_toArray, List.map_cons, List.map_nil]); first | done | rfl | (simp only [List.length_drop, List.length_take]; rfl)) ?_
      with_reducible refine (laws_toPar.calls a1_0 a1_1 a1_2 a1_3 t270 t271 t272 t273 _ A15.out).mono ?_
      rintro e w28 ⟨rfl, hb⟩
      refine ⟨_, rfl, ?_⟩
      have n0_ := Aside0.mk (Kd.R_below (by (with_reducible repeat (first | apply Kd.R_alloc | apply Kd.R_drewN | apply Kd.R_drew)); exact HO266.out) hb)
      have n1_ := Aside0.mk (Kd.R_below (by (with_reducible repeat (first | apply Kd.R_alloc | apply Kd.R_drewN | apply Kd.R_drew)); exact HO269.out) hb)
      have n2_ := Aside0.mk (za (g := gb259) (o := .cells #[.int .i64 a0_0, .int .i64 a0_1, .slice A0_2 l0_2.length c0_2, .slice A0_3 l0_3.length c0_3] 29 (0, 0)) (by (with_reducible repeat (first | refine z5 ?_ _ | refine z8 ?_ | refine z4 ?_ _)); exact BK259.out) hb)
      have n3_ := Aside0.mk (za (g := gb260) (o := .cells #[.int .i64 a1_0, .bool a1_1, .bool a1_2, .bool a1_3] 31 (0, 0)) (by (with_reducible repeat (first | refine z5 ?_ _ | refine z8 ?_ | refine z4 ?_ _)); exact BK260.out) hb)
      have n4_ := Aside0.mk (zc (by repeat (first | (with_reducible first | exact HB.out | apply z7 | apply z1 | apply z6 | refine z2 ?_ GE259.out | refine z2 ?_ GE260.out) | exact HB.out)) hb)
      clear HO266
      clear HO269
      clear BK259
      clear BK260
      clear HB
      have HO266 := n0_
      have HO269 := n1_
      have BK259 := n2_
      have BK260 := n3_
      have HB := n4_
      clear n0_ n1_ n2_ n3_ n4_
      (try clear hb)
      (try clear hb2)
      (try clear hk)
      (try clear hi)
      obtain ⟨Ao29, co29, eo29⟩ := Kd.R_slice HO266.out
      (first | subst eo29 | (injection eo29 with f1_ f2_ f3_; have f4_ := f1_.symm; have f5_ := f3_.symm; clear f1_ f2_ f3_; subst f4_; subst f5_))
      obtain ⟨Ao30, co30, eo30⟩ := Kd.R_slice HO269.out
      (first | subst eo30 | (injection eo30 with f1_ f2_ f3_; have f4_ := f1_.symm; have f5_ := f3_.symm; clear f1_ f2_ f3_; subst f4_; subst f5_))
      refine hK.out _ _ ⟨(z3 BK259.out 0).trans rfl, (z3 BK259.out 1).trans rfl, (z3 BK259.out 2).trans rfl, (z3 BK259.out 3).trans rfl, (z3 BK260.out 0).trans rfl, (z3 BK260.out 1).trans rfl, (z3 BK260.out 2).trans rfl, (z3 BK260.out 3).trans rfl⟩ (fun hHeld => ?_)
      clear hK K
      refine zw (a' := ?_) ?_ ?_
      rotate_left
      ·show Act.put _ (some 27) _ = _
       simp only [Act.put, List.setIfInBounds_toArray, List.set_cons_zero, List.set_cons_succ, ze, zf]
       rfl
      refine two_ (i := 5) (j := 10) (Ni := some 29) (Nj := some 8) #[true, true, true, true, true, true, false, false, false, false, false, false, false, false] #[true, true, true, true, true, false, false, false, false, false, true, false, false, false] rfl rfl rfl rfl (two_of HT_.out (by kernel_rfl)) (by decide) (by decide) (fun K hK => ?_) (fun K hK => ?_)
      ·skip
       refine zx Try.func20 (by kernel_rfl) rfl #[.agg #[.int .i64 t262, .int .i64 t263, .slice Ao29 t264.length co29, .slice Ao30 t267.length co30], .agg #[.int .i64 t270, .bool t271, .bool t272, .bool t273], .string a2] (by rfl) rfl rfl (by (try simp only [List.map_toArray, List.map_cons, List.map_nil]); first | done | rfl | (simp only [List.length_drop, List.length_take]; rfl)) ?_
       with_reducible refine (spec_ReadHead.calls k t262 t263 _ _ t264 _ _ t267 t270 t271 t272 t273 a2 t274 t275 t276 t277 t278 _ ?side1 ?side2 ?side3 ?side4 A16.out).mono ?_
       (case side1 => repeat (first | exact (Kd.R_reads' HO266.out).2.2 | (with_reducible refine Kd.C_alloc ?_ _) | (with_reducible refine Kd.C_drewN ?_ _) | (with_reducible refine Kd.C_drew ?_)))
       (case side2 => exact (Kd.R_reads' HO266.out).2.1)
       (case side3 => repeat (first | exact (Kd.R_reads' HO269.out).2.2 | (with_reducible refine Kd.C_alloc ?_ _) | (with_reducible refine Kd.C_drewN ?_ _) | (with_reducible refine Kd.C_drew ?_)))
       (case side4 => exact (Kd.R_reads' HO269.out).2.1)
       rintro e w31 ⟨rfl, hb⟩
       refine ⟨_, rfl, ?_⟩
       have n0_ := Aside0.mk (Kd.R_below (by (with_reducible repeat (first | apply Kd.R_alloc | apply Kd.R_drewN | apply Kd.R_drew)); exact HO266.out) hb)
       have n1_ := Aside0.mk (Kd.R_below (by (with_reducible repeat (first | apply Kd.R_alloc | apply Kd.R_drewN | apply Kd.R_drew)); exact HO269.out) hb)
       have n2_ := Aside0.mk (za (g := gb259) (o := .cells #[.int .i64 a0_0, .int .i64 a0_1, .slice A0_2 l0_2.length c0_2, .slice A0_3 l0_3.length c0_3] 29 (0, 0)) (by (with_reducible repeat (first | refine z5 ?_ _ | refine z8 ?_ | refine z4 ?_ _)); exact BK259.out) hb)
       have n3_ := Aside0.mk (za (g := gb260) (o := .cells #[.int .i64 a1_0, .bool a1_1, .bool a1_2, .bool a1_3] 31 (0, 0)) (by (with_reducible repeat (first | refine z5 ?_ _ | refine z8 ?_ | refine z4 ?_ _)); exact BK260.out) hb)
       have n4_ := Aside0.mk (zc (by repeat (first | (with_reducible first | exact HB.out | apply z7 | apply z1 | apply z6 | refine z2 ?_ GE259.out | refine z2 ?_ GE260.out) | exact HB.out)) hb)
       clear HO266
       clear HO269
       clear BK259
       clear BK260
       clear HB
       have HO266 := n0_
       have HO269 := n1_
       have BK259 := n2_
       have BK260 := n3_
       have HB := n4_
       clear n0_ n1_ n2_ n3_ n4_
       (try clear hb)
       (try clear hb2)
       (try clear hk)
       (try clear hi)
       refine hK.out _ _ ⟨(z3 BK259.out 0).trans rfl, (z3 BK259.out 1).trans rfl, (z3 BK259.out 2).trans rfl, (z3 BK259.out 3).trans rfl, (z3 BK260.out 0).trans rfl, (z3 BK260.out 1).trans rfl, (z3 BK260.out 2).trans rfl, (z3 BK260.out 3).trans rfl⟩ (fun hHeld => ?_)
       clear hK K
       refine zw (a' := ?_) ?_ ?_
       rotate_left
       ·show Act.put _ (some 29) _ = _
        simp only [Act.put, List.setIfInBounds_toArray, List.set_cons_zero, List.set_cons_succ, ze, zf]
        rfl
       refine zh (i := 6) (N := some 23) (v := ?_) (a' := ?_) #[true, true, true, true, true, true, true, false, false, false, false, false, false, false] rfl rfl (zd HT_.out (by kernel_rfl)) (fun _ _ _ h => h) (Or.inl ⟨by rfl, ?_⟩) ?_ ?_
       rotate_left
       ·intro w'
        go_simp
        with_reducible rfl
       rotate_left
       ·simp only [Act.put, List.setIfInBounds_toArray, List.set_cons_zero, List.set_cons_succ, ze, zf]
        rfl
       refine zh (i := 7) (N := some 30) (v := ?_) (a' := ?_) #[true, true, true, true, true, true, true, true, false, false, false, false, false, false] rfl rfl (zd HT_.out (by kernel_rfl)) (fun _ _ _ h => h) (Or.inl ⟨by rfl, ?_⟩) ?_ ?_
       rotate_left
       ·intro w'
        go_simp
        with_reducible rfl
       rotate_left
       ·simp only [Act.put, List.setIfInBounds_toArray, List.set_cons_zero, List.set_cons_succ, ze, zf]
        rfl
       refine zh (i := 8) (N := some 31) (v := ?_) (a' := ?_) #[true, true, true, true, true, true, true, true, true, false, false, false, false, false] rfl rfl (zd HT_.out (by kernel_rfl)) (fun _ _ _ h => h) (Or.inl ⟨by rfl, ?_⟩) ?_ ?_
       rotate_left
       ·intro w'
        go_simp
        with_reducible rfl
       rotate_left
       ·simp only [Act.put, List.setIfInBounds_toArray, List.set_cons_zero, List.set_cons_succ, ze, zf]
        rfl
       refine zh (i := 9) (N := some 32) (v := ?_) (a' := ?_) #[true, true, true, true, true, true, true, true, true, true, false, false, false, false] rfl rfl (zd HT_.out (by kernel_rfl)) (fun _ _ _ h => h) (Or.inl ⟨by rfl, ?_⟩) ?_ ?_
       rotate_left
       ·intro w'
        go_simp
        with_reducible rfl
       rotate_left
       ·simp only [Act.put, List.setIfInBounds_toArray, List.set_cons_zero, List.set_cons_succ, ze, zf]
        rfl
       refine one_ (i := 10) (N := some 8) #[true, true, true, true, true, true, true, true, true, true, true, false, false, false] rfl rfl (zv HT_.out (by kernel_rfl)) (by decide) (fun K hK => ?_)
       refine zh1 ?hg (N := 8) ?hd (cs := #[.int .i64 0, .int .i64 0, .int .i64 0]) (t := 34) ?hr ?_; (case hd => rfl); (case hg => rfl); (case hr => first | (go_simp; done) | (go_simp; rfl))
       intro gb279 hg w32 hbox hb
       have n0_ := Aside0.mk (Kd.R_below (by (with_reducible repeat (first | apply Kd.R_alloc | apply Kd.R_drewN | apply Kd.R_drew)); exact HO266.out) hb)
       have n1_ := Aside0.mk (Kd.R_below (by (with_reducible repeat (first | apply Kd.R_alloc | apply Kd.R_drewN | apply Kd.R_drew)); exact HO269.out) hb)
       have n2_ := Aside0.mk (za (g := gb259) (o := .cells #[.int .i64 a0_0, .int .i64 a0_1, .slice A0_2 l0_2.length c0_2, .slice A0_3 l0_3.length c0_3] 29 (0, 0)) (by (with_reducible repeat (first | refine z5 ?_ _ | refine z8 ?_ | refine z4 ?_ _)); exact BK259.out) hb)
       have n3_ := Aside0.mk (za (g := gb260) (o := .cells #[.int .i64 a1_0, .bool a1_1, .bool a1_2, .bool a1_3] 31 (0, 0)) (by (with_reducible repeat (first | refine z5 ?_ _ | refine z8 ?_ | refine z4 ?_ _)); exact BK260.out) hb)
       have n4_ := Aside0.mk (zc (by repeat (first | (with_reducible first | exact HB.out | apply z7 | apply z1 | apply z6 | refine z2 ?_ GE259.out | refine z2 ?_ GE260.out) | exact HB.out)) hb)
       have n5_ := Aside0.mk (hbox)
       have n6_ := Aside0.mk ((by rw [hg]; exact (zb (by repeat (first | (with_reducible first | exact HB.out | apply z7 | apply z1 | apply z6 | refine z2 ?_ GE259.out | refine z2 ?_ GE260.out) | exact HB.out))) : w.heap.size ≤ gb279))
       have n7_ := Aside0.mk ((by rw [hg]; exact (zb (by repeat (first | (with_reducible first | exact HB.out | apply z7 | apply z1 | apply z6 | refine z2 ?_ GE259.out | refine z2 ?_ GE260.out) | exact HB.out))) : w.heap.size ≤ gb279))
       have n8_ := Aside0.mk ((by rw [hg]; exact Nat.ne_of_lt (zi (g := gb259) (o := .cells #[.int .i64 a0_0, .int .i64 a0_1, .slice A0_2 l0_2.length c0_2, .slice A0_3 l0_3.length c0_3] 29 (0, 0)) (by (with_reducible repeat (first | refine z5 ?_ _ | refine z8 ?_ | refine z4 ?_ _)); exact BK259.out)) : gb259 ≠ gb279))
       have n9_ := Aside0.mk ((by rw [hg]; exact Nat.ne_of_gt (zi (g := gb259) (o := .cells #[.int .i64 a0_0, .int .i64 a0_1, .slice A0_2 l0_2.length c0_2, .slice A0_3 l0_3.length c0_3] 29 (0, 0)) (by (with_reducible repeat (first | refine z5 ?_ _ | refine z8 ?_ | refine z4 ?_ _)); exact BK259.out)) : gb279 ≠ gb259))
       have n10_ := Aside0.mk ((by rw [hg]; exact Nat.ne_of_lt (zi (g := gb260) (o := .cells #[.int .i64 a1_0, .bool a1_1, .bool a1_2, .bool a1_3] 31 (0, 0)) (by (with_reducible repeat (first | refine z5 ?_ _ | refine z8 ?_ | refine z4 ?_ _)); exact BK260.out)) : gb260 ≠ gb279))
       have n11_ := Aside0.mk ((by rw [hg]; exact Nat.ne_of_gt (zi (g := gb260) (o := .cells #[.int .i64 a1_0, .bool a1_1, .bool a1_2, .bool a1_3] 31 (0, 0)) (by (with_reducible repeat (first | refine z5 ?_ _ | refine z8 ?_ | refine z4 ?_ _)); exact BK260.out)) : gb279 ≠ gb260))
       clear HO266
       clear HO269
       clear BK259
       clear BK260
       clear HB
       have HO266 := n0_
       have HO269 := n1_
       have BK259 := n2_
       have BK260 := n3_
       have HB := n4_
       have BK279 := n5_
       have GW279 := n6_
       have GE279 := n7_
       have NB259_279 := n8_
       have NB279_259 := n9_
       have NB260_279 := n10_
       have NB279_260 := n11_
       clear n0_ n1_ n2_ n3_ n4_ n5_ n6_ n7_ n8_ n9_ n10_ n11_
       clear hb hbox hg
       refine hK.out _ _ ⟨(z3 BK259.out 0).trans rfl, (z3 BK259.out 1).trans rfl, (z3 BK259.out 2).trans rfl, (z3 BK259.out 3).trans rfl, (z3 BK260.out 0).trans rfl, (z3 BK260.out 1).trans rfl, (z3 BK260.out 2).trans rfl, (z3 BK260.out 3).trans rfl⟩ (fun hHeld => ?_)
       clear hK K
       refine zw (a' := ?_) ?_ ?_
       rotate_left
       ·show Act.put _ (some 8) _ = _
        simp only [Act.put, List.setIfInBounds_toArray, List.set_cons_zero, List.set_cons_succ, ze, zf]
        rfl
       exact zw (by simp only [zj1, Act.put, List.setIfInBounds_toArray, List.set_cons_zero, List.set_cons_succ]) (hCont (.slice Ao29 t264.length co29, .slice Ao30 t267.length co30, gb279) _ ⟨hHeld, (by (with_reducible repeat (first | apply Kd.R_alloc | apply Kd.R_drewN | apply Kd.R_drew)); exact HO266.out), (by (with_reducible repeat (first | apply Kd.R_alloc | apply Kd.R_drewN | apply Kd.R_drew)); exact HO269.out), (by (with_reducible repeat (first | refine z5 ?_ _ | refine z8 ?_ | refine z4 ?_ _)); exact BK259.out), (by (with_reducible repeat (first | refine z5 ?_ _ | refine z8 ?_ | refine z4 ?_ _)); exact BK260.out), (by (with_reducible repeat (first | refine z5 ?_ _ | refine z8 ?_ | refine z4 ?_ _)); exact BK279.out), GW279.out, GE279.out, NB259_279.out, NB279_259.out, NB260_279.out, NB279_260.out, (by repeat (first | (with_reducible first | exact HB.out | apply z7 | apply z1 | apply z6 | refine z2 ?_ GE259.out | refine z2 ?_ GE260.out | refine z2 ?_ GE279.out) | exact HB.out))⟩)
      ·skip
       refine zh1 ?hg (N := 8) ?hd (cs := #[.int .i64 0, .int .i64 0, .int .i64 0]) (t := 34) ?hr ?_; (case hd => rfl); (case hg => rfl); (case hr => first | (go_simp; done) | (go_simp; rfl))
       intro gb279 hg w29 hbox hb
       have n0_ := Aside0.mk (Kd.R_below (by (with_reducible repeat (first | apply Kd.R_alloc | apply Kd.R_drewN | apply Kd.R_drew)); exact HO266.out) hb)
       have n1_ := Aside0.mk (Kd.R_below (by (with_reducible repeat (first | apply Kd.R_alloc | apply Kd.R_drewN | apply Kd.R_drew)); exact HO269.out) hb)
       have n2_ := Aside0.mk (za (g := gb259) (o := .cells #[.int .i64 a0_0, .int .i64 a0_1, .slice A0_2 l0_2.length c0_2, .slice A0_3 l0_3.length c0_3] 29 (0, 0)) (by (with_reducible repeat (first | refine z5 ?_ _ | refine z8 ?_ | refine z4 ?_ _)); exact BK259.out) hb)
       have n3_ := Aside0.mk (za (g := gb260) (o := .cells #[.int .i64 a1_0, .bool a1_1, .bool a1_2, .bool a1_3] 31 (0, 0)) (by (with_reducible repeat (first | refine z5 ?_ _ | refine z8 ?_ | refine z4 ?_ _)); exact BK260.out) hb)
       have n4_ := Aside0.mk (zc (by repeat (first | (with_reducible first | exact HB.out | apply z7 | apply z1 | apply z6 | refine z2 ?_ GE259.out | refine z2 ?_ GE260.out) | exact HB.out)) hb)
       have n5_ := Aside0.mk (hbox)
       have n6_ := Aside0.mk ((by rw [hg]; exact (zb (by repeat (first | (with_reducible first | exact HB.out | apply z7 | apply z1 | apply z6 | refine z2 ?_ GE259.out | refine z2 ?_ GE260.out) | exact HB.out))) : w.heap.size ≤ gb279))
       have n7_ := Aside0.mk ((by rw [hg]; exact (zb (by repeat (first | (with_reducible first | exact HB.out | apply z7 | apply z1 | apply z6 | refine z2 ?_ GE259.out | refine z2 ?_ GE260.out) | exact HB.out))) : w.heap.size ≤ gb279))
       have n8_ := Aside0.mk ((by rw [hg]; exact Nat.ne_of_lt (zi (g := gb259) (o := .cells #[.int .i64 a0_0, .int .i64 a0_1, .slice A0_2 l0_2.length c0_2, .slice A0_3 l0_3.length c0_3] 29 (0, 0)) (by (with_reducible repeat (first | refine z5 ?_ _ | refine z8 ?_ | refine z4 ?_ _)); exact BK259.out)) : gb259 ≠ gb279))
       have n9_ := Aside0.mk ((by rw [hg]; exact Nat.ne_of_gt (zi (g := gb259) (o := .cells #[.int .i64 a0_0, .int .i64 a0_1, .slice A0_2 l0_2.length c0_2, .slice A0_3 l0_3.length c0_3] 29 (0, 0)) (by (with_reducible repeat (first | refine z5 ?_ _ | refine z8 ?_ | refine z4 ?_ _)); exact BK259.out)) : gb279 ≠ gb259))
       have n10_ := Aside0.mk ((by rw [hg]; exact Nat.ne_of_lt (zi (g := gb260) (o := .cells #[.int .i64 a1_0, .bool a1_1, .bool a1_2, .bool a1_3] 31 (0, 0)) (by (with_reducible repeat (first | refine z5 ?_ _ | refine z8 ?_ | refine z4 ?_ _)); exact BK260.out)) : gb260 ≠ gb279))
       have n11_ := Aside0.mk ((by rw [hg]; exact Nat.ne_of_gt (zi (g := gb260) (o := .cells #[.int .i64 a1_0, .bool a1_1, .bool a1_2, .bool a1_3] 31 (0, 0)) (by (with_reducible repeat (first | refine z5 ?_ _ | refine z8 ?_ | refine z4 ?_ _)); exact BK260.out)) : gb279 ≠ gb260))
       clear HO266
       clear HO269
       clear BK259
       clear BK260
       clear HB
       have HO266 := n0_
       have HO269 := n1_
       have BK259 := n2_
       have BK260 := n3_
       have HB := n4_
       have BK279 := n5_
       have GW279 := n6_
       have GE279 := n7_
       have NB259_279 := n8_
       have NB279_259 := n9_
       have NB260_279 := n10_
       have NB279_260 := n11_
       clear n0_ n1_ n2_ n3_ n4_ n5_ n6_ n7_ n8_ n9_ n10_ n11_
       clear hb hbox hg
       obtain ⟨Ao30, co30, eo30⟩ := Kd.R_slice HO266.out
       (first | subst eo30 | (injection eo30 with f1_ f2_ f3_; have f4_ := f1_.symm; have f5_ := f3_.symm; clear f1_ f2_ f3_; subst f4_; subst f5_))
       obtain ⟨Ao31, co31, eo31⟩ := Kd.R_slice HO269.out
       (first | subst eo31 | (injection eo31 with f1_ f2_ f3_; have f4_ := f1_.symm; have f5_ := f3_.symm; clear f1_ f2_ f3_; subst f4_; subst f5_))
       refine hK.out _ _ ⟨(z3 BK259.out 0).trans rfl, (z3 BK259.out 1).trans rfl, (z3 BK259.out 2).trans rfl, (z3 BK259.out 3).trans rfl, (z3 BK260.out 0).trans rfl, (z3 BK260.out 1).trans rfl, (z3 BK260.out 2).trans rfl, (z3 BK260.out 3).trans rfl⟩ (fun hHeld => ?_)
       clear hK K
       refine zw (a' := ?_) ?_ ?_
       rotate_left
       ·show Act.put _ (some 8) _ = _
        simp only [Act.put, List.setIfInBounds_toArray, List.set_cons_zero, List.set_cons_succ, ze, zf]
        rfl
       refine one_ (i := 5) (N := some 29) #[true, true, true, true, true, true, false, false, false, false, true, false, false, false] rfl rfl (zv HT_.out (by kernel_rfl)) (by decide) (fun K hK => ?_)
       refine zx Try.func20 (by kernel_rfl) rfl #[.agg #[.int .i64 t262, .int .i64 t263, .slice Ao30 t264.length co30, .slice Ao31 t267.length co31], .agg #[.int .i64 t270, .bool t271, .bool t272, .bool t273], .string a2] (by rfl) rfl rfl (by (try simp only [List.map_toArray, List.map_cons, List.map_nil]); first | done | rfl | (simp only [List.length_drop, List.length_take]; rfl)) ?_
       with_reducible refine (spec_ReadHead.calls k t262 t263 _ _ t264 _ _ t267 t270 t271 t272 t273 a2 t274 t275 t276 t277 t278 _ ?side1 ?side2 ?side3 ?side4 A16.out).mono ?_
       (case side1 => repeat (first | exact (Kd.R_reads' HO266.out).2.2 | (with_reducible refine Kd.C_alloc ?_ _) | (with_reducible refine Kd.C_drewN ?_ _) | (with_reducible refine Kd.C_drew ?_)))
       (case side2 => exact (Kd.R_reads' HO266.out).2.1)
       (case side3 => repeat (first | exact (Kd.R_reads' HO269.out).2.2 | (with_reducible refine Kd.C_alloc ?_ _) | (with_reducible refine Kd.C_drewN ?_ _) | (with_reducible refine Kd.C_drew ?_)))
       (case side4 => exact (Kd.R_reads' HO269.out).2.1)
       rintro e w32 ⟨rfl, hb⟩
       refine ⟨_, rfl, ?_⟩
       have n0_ := Aside0.mk (Kd.R_below (by (with_reducible repeat (first | apply Kd.R_alloc | apply Kd.R_drewN | apply Kd.R_drew)); exact HO266.out) hb)
       have n1_ := Aside0.mk (Kd.R_below (by (with_reducible repeat (first | apply Kd.R_alloc | apply Kd.R_drewN | apply Kd.R_drew)); exact HO269.out) hb)
       have n2_ := Aside0.mk (za (g := gb259) (o := .cells #[.int .i64 a0_0, .int .i64 a0_1, .slice A0_2 l0_2.length c0_2, .slice A0_3 l0_3.length c0_3] 29 (0, 0)) (by (with_reducible repeat (first | refine z5 ?_ _ | refine z8 ?_ | refine z4 ?_ _)); exact BK259.out) hb)
       have n3_ := Aside0.mk (za (g := gb260) (o := .cells #[.int .i64 a1_0, .bool a1_1, .bool a1_2, .bool a1_3] 31 (0, 0)) (by (with_reducible repeat (first | refine z5 ?_ _ | refine z8 ?_ | refine z4 ?_ _)); exact BK260.out) hb)
       have n4_ := Aside0.mk (za (g := gb279) (o := .cells #[.int .i64 0, .int .i64 0, .int .i64 0] 34 (0, 0)) (by (with_reducible repeat (first | refine z5 ?_ _ | refine z8 ?_ | refine z4 ?_ _)); exact BK279.out) hb)
       have n5_ := Aside0.mk (zc (by repeat (first | (with_reducible first | exact HB.out | apply z7 | apply z1 | apply z6 | refine z2 ?_ GE259.out | refine z2 ?_ GE260.out | refine z2 ?_ GE279.out) | exact HB.out)) hb)
       clear HO266
       clear HO269
       clear BK259
       clear BK260
       clear BK279
       clear HB
       have HO266 := n0_
       have HO269 := n1_
       have BK259 := n2_
       have BK260 := n3_
       have BK279 := n4_
       have HB := n5_
       clear n0_ n1_ n2_ n3_ n4_ n5_
       (try clear hb)
       (try clear hb2)
       (try clear hk)
       (try clear hi)
       refine hK.out _ _ ⟨(z3 BK259.out 0).trans rfl, (z3 BK259.out 1).trans rfl, (z3 BK259.out 2).trans rfl, (z3 BK259.out 3).trans rfl, (z3 BK260.out 0).trans rfl, (z3 BK260.out 1).trans rfl, (z3 BK260.out 2).trans rfl, (z3 BK260.out 3).trans rfl⟩ (fun hHeld => ?_)
       clear hK K
       refine zw (a' := ?_) ?_ ?_
       rotate_left
       ·show Act.put _ (some 29) _ = _
        simp only [Act.put, List.setIfInBounds_toArray, List.set_cons_zero, List.set_cons_succ, ze, zf]
        rfl
       refine zh (i := 6) (N := some 23) (v := ?_) (a' := ?_) #[true, true, true, true, true, true, true, false, false, false, true, false, false, false] rfl rfl (zd HT_.out (by kernel_rfl)) (fun _ _ _ h => h) (Or.inl ⟨by rfl, ?_⟩) ?_ ?_
       rotate_left
       ·intro w'
        go_simp
        with_reducible rfl
       rotate_left
       ·simp only [Act.put, List.setIfInBounds_toArray, List.set_cons_zero, List.set_cons_succ, ze, zf]
        rfl
       refine zh (i := 7) (N := some 30) (v := ?_) (a' := ?_) #[true, true, true, true, true, true, true, true, false, false, true, false, false, false] rfl rfl (zd HT_.out (by kernel_rfl)) (fun _ _ _ h => h) (Or.inl ⟨by rfl, ?_⟩) ?_ ?_
       rotate_left
       ·intro w'
        go_simp
        with_reducible rfl
       rotate_left
       ·simp only [Act.put, List.setIfInBounds_toArray, List.set_cons_zero, List.set_cons_succ, ze, zf]
        rfl
       refine zh (i := 8) (N := some 31) (v := ?_) (a' := ?_) #[true, true, true, true, true, true, true, true, true, false, true, false, false, false] rfl rfl (zd HT_.out (by kernel_rfl)) (fun _ _ _ h => h) (Or.inl ⟨by rfl, ?_⟩) ?_ ?_
       rotate_left
       ·intro w'
        go_simp
        with_reducible rfl
       rotate_left
       ·simp only [Act.put, List.setIfInBounds_toArray, List.set_cons_zero, List.set_cons_succ, ze, zf]
        rfl
       refine zh (i := 9) (N := some 32) (v := ?_) (a' := ?_) #[true, true, true, true, true, true, true, true, true, true, true, false, false, false] rfl rfl (zd HT_.out (by kernel_rfl)) (fun _ _ _ h => h) (Or.inl ⟨by rfl, ?_⟩) ?_ ?_
       rotate_left
       ·intro w'
        go_simp
        with_reducible rfl
       rotate_left
       ·simp only [Act.put, List.setIfInBounds_toArray, List.set_cons_zero, List.set_cons_succ, ze, zf]
        rfl
       exact zw (by simp only [zj1, Act.put, List.setIfInBounds_toArray, List.set_cons_zero, List.set_cons_succ]) (hCont (.slice Ao30 t264.length co30, .slice Ao31 t267.length co31, gb279) _ ⟨hHeld, (by (with_reducible repeat (first | apply Kd.R_alloc | apply Kd.R_drewN | apply Kd.R_drew)); exact HO266.out), (by (with_reducible repeat (first | apply Kd.R_alloc | apply Kd.R_drewN | apply Kd.R_drew)); exact HO269.out), (by (with_reducible repeat (first | refine z5 ?_ _ | refine z8 ?_ | refine z4 ?_ _)); exact BK259.out), (by (with_reducible repeat (first | refine z5 ?_ _ | refine z8 ?_ | refine z4 ?_ _)); exact BK260.out), (by (with_reducible repeat (first | refine z5 ?_ _ | refine z8 ?_ | refine z4 ?_ _)); exact BK279.out), GW279.out, GE279.out, NB259_279.out, NB279_259.out, NB260_279.out, NB279_260.out, (by repeat (first | (with_reducible first | exact HB.out | apply z7 | apply z1 | apply z6 | refine z2 ?_ GE259.out | refine z2 ?_ GE260.out | refine z2 ?_ GE279.out) | exact HB.out))⟩)
     ·skip
      refine zh1 ?hg (N := 8) ?hd (cs := #[.int .i64 0, .int .i64 0, .int .i64 0]) (t := 34) ?hr ?_; (case hd => rfl); (case hg => rfl); (case hr => first | (go_simp; done) | (go_simp; rfl))
      intro gb279 hg w28 hbox hb
      have n0_ := Aside0.mk (Kd.R_below (by (with_reducible repeat (first | apply Kd.R_alloc | apply Kd.R_drewN | apply Kd.R_drew)); exact HO266.out) hb)
      have n1_ := Aside0.mk (Kd.R_below (by (with_reducible repeat (first | apply Kd.R_alloc | apply Kd.R_drewN | apply Kd.R_drew)); exact HO269.out) hb)
      have n2_ := Aside0.mk (za (g := gb259) (o := .cells #[.int .i64 a0_0, .int .i64 a0_1, .slice A0_2 l0_2.length c0_2, .slice A0_3 l0_3.length c0_3] 29 (0, 0)) (by (with_reducible repeat (first | refine z5 ?_ _ | refine z8 ?_ | refine z4 ?_ _)); exact BK259.out) hb)
      have n3_ := Aside0.mk (za (g := gb260) (o := .cells #[.int .i64 a1_0, .bool a1_1, .bool a1_2, .bool a1_3] 31 (0, 0)) (by (with_reducible repeat (first | refine z5 ?_ _ | refine z8 ?_ | refine z4 ?_ _)); exact BK260.out) hb)
      have n4_ := Aside0.mk (zc (by repeat (first | (with_reducible first | exact HB.out | apply z7 | apply z1 | apply z6 | refine z2 ?_ GE259.out | refine z2 ?_ GE260.out) | exact HB.out)) hb)
      have n5_ := Aside0.mk (hbox)
      have n6_ := Aside0.mk ((by rw [hg]; exact (zb (by repeat (first | (with_reducible first | exact HB.out | apply z7 | apply z1 | apply z6 | refine z2 ?_ GE259.out | refine z2 ?_ GE260.out) | exact HB.out))) : w.heap.size ≤ gb279))
      have n7_ := Aside0.mk ((by rw [hg]; exact (zb (by repeat (first | (with_reducible first | exact HB.out | apply z7 | apply z1 | apply z6 | refine z2 ?_ GE259.out | refine z2 ?_ GE260.out) | exact HB.out))) : w.heap.size ≤ gb279))
      have n8_ := Aside0.mk ((by rw [hg]; exact Nat.ne_of_lt (zi (g := gb259) (o := .cells #[.int .i64 a0_0, .int .i64 a0_1, .slice A0_2 l0_2.length c0_2, .slice A0_3 l0_3.length c0_3] 29 (0, 0)) (by (with_reducible repeat (first | refine z5 ?_ _ | refine z8 ?_ | refine z4 ?_ _)); exact BK259.out)) : gb259 ≠ gb279))
      have n9_ := Aside0.mk ((by rw [hg]; exact Nat.ne_of_gt (zi (g := gb259) (o := .cells #[.int .i64 a0_0, .int .i64 a0_1, .slice A0_2 l0_2.length c0_2, .slice A0_3 l0_3.length c0_3] 29 (0, 0)) (by (with_reducible repeat (first | refine z5 ?_ _ | refine z8 ?_ | refine z4 ?_ _)); exact BK259.out)) : gb279 ≠ gb259))
      have n10_ := Aside0.mk ((by rw [hg]; exact Nat.ne_of_lt (zi (g := gb260) (o := .cells #[.int .i64 a1_0, .bool a1_1, .bool a1_2, .bool a1_3] 31 (0, 0)) (by (with_reducible repeat (first | refine z5 ?_ _ | refine z8 ?_ | refine z4 ?_ _)); exact BK260.out)) : gb260 ≠ gb279))
      have n11_ := Aside0.mk ((by rw [hg]; exact Nat.ne_of_gt (zi (g := gb260) (o := .cells #[.int .i64 a1_0, .bool a1_1, .bool a1_2, .bool a1_3] 31 (0, 0)) (by (with_reducible repeat (first | refine z5 ?_ _ | refine z8 ?_ | refine z4 ?_ _)); exact BK260.out)) : gb279 ≠ gb260))
      clear HO266
      clear HO269
      clear BK259
      clear BK260
      clear HB
      have HO266 := n0_
      have HO269 := n1_
      have BK259 := n2_
      have BK260 := n3_
      have HB := n4_
      have BK279 := n5_
      have GW279 := n6_
      have GE279 := n7_
      have NB259_279 := n8_
      have NB279_259 := n9_
      have NB260_279 := n10_
      have NB279_260 := n11_
      clear n0_ n1_ n2_ n3_ n4_ n5_ n6_ n7_ n8_ n9_ n10_ n11_
      clear hb hbox hg
      refine hK.out _ _ ⟨(z3 BK259.out 0).trans rfl, (z3 BK259.out 1).trans rfl, (z3 BK259.out 2).trans rfl, (z3 BK259.out 3).trans rfl, (z3 BK260.out 0).trans rfl, (z3 BK260.out 1).trans rfl, (z3 BK260.out 2).trans rfl, (z3 BK260.out 3).trans rfl⟩ (fun hHeld => ?_)
      clear hK K
      refine zw (a' := ?_) ?_ ?_
      rotate_left
      ·show Act.put _ (some 8) _ = _
       simp only [Act.put, List.setIfInBounds_toArray, List.set_cons_zero, List.set_cons_succ, ze, zf]
       rfl
      refine one_ (i := 3) (N := some 27) #[true, true, true, true, true, false, false, false, false, false, true, false, false, false] rfl rfl (zv HT_.out (by kernel_rfl)) (by decide) (fun K hK => ?_)
      refine zx Try.func22 (by kernel_rfl) rfl #[.agg #[.int .i64 a1_0, .bool a1_1, .bool a1_2, .bool a1_3]] (by rfl) rfl rfl (by (try simp only [List.map_toArray, List.map_cons, List.map_nil]); first | done | rfl | (simp only [List.length_drop, List.length_take]; rfl)) ?_
      with_reducible refine (laws_toPar.calls a1_0 a1_1 a1_2 a1_3 t270 t271 t272 t273 _ A15.out).mono ?_
      rintro e w29 ⟨rfl, hb⟩
      refine ⟨_, rfl, ?_⟩
      have n0_ := Aside0.mk (Kd.R_below (by (with_reducible repeat (first | apply Kd.R_alloc | apply Kd.R_drewN | apply Kd.R_drew)); exact HO266.out) hb)
      have n1_ := Aside0.mk (Kd.R_below (by (with_reducible repeat (first | apply Kd.R_alloc | apply Kd.R_drewN | apply Kd.R_drew)); exact HO269.out) hb)
      have n2_ := Aside0.mk (za (g := gb259) (o := .cells #[.int .i64 a0_0, .int .i64 a0_1, .slice A0_2 l0_2.length c0_2, .slice A0_3 l0_3.length c0_3] 29 (0, 0)) (by (with_reducible repeat (first | refine z5 ?_ _ | refine z8 ?_ | refine z4 ?_ _)); exact BK259.out) hb)
      have n3_ := Aside0.mk (za (g := gb260) (o := .cells #[.int .i64 a1_0, .bool a1_1, .bool a1_2, .bool a1_3] 31 (0, 0)) (by (with_reducible repeat (first | refine z5 ?_ _ | refine z8 ?_ | refine z4 ?_ _)); exact BK260.out) hb)
      have n4_ := Aside0.mk (za (g := gb279) (o := .cells #[.int .i64 0, .int .i64 0, .int .i64 0] 34 (0, 0)) (by (with_reducible repeat (first | refine z5 ?_ _ | refine z8 ?_ | refine z4 ?_ _)); exact BK279.out) hb)
      have n5_ := Aside0.mk (zc (by repeat (first | (with_reducible first | exact HB.out | apply z7 | apply z1 | apply z6 | refine z2 ?_ GE259.out | refine z2 ?_ GE260.out | refine z2 ?_ GE279.out) | exact HB.out)) hb)
      clear HO266
      clear HO269
      clear BK259
      clear BK260
      clear BK279
      clear HB
      have HO266 := n0_
      have HO269 := n1_
      have BK259 := n2_
      have BK260 := n3_
      have BK279 := n4_
      have HB := n5_
      clear n0_ n1_ n2_ n3_ n4_ n5_
      (try clear hb)
      (try clear hb2)
      (try clear hk)
      (try clear hi)
      obtain ⟨Ao30, co30, eo30⟩ := Kd.R_slice HO266.out
      (first | subst eo30 | (injection eo30 with f1_ f2_ f3_; have f4_ := f1_.symm; have f5_ := f3_.symm; clear f1_ f2_ f3_; subst f4_; subst f5_))
      obtain ⟨Ao31, co31, eo31⟩ := Kd.R_slice HO269.out
      (first | subst eo31 | (injection eo31 with f1_ f2_ f3_; have f4_ := f1_.symm; have f5_ := f3_.symm; clear f1_ f2_ f3_; subst f4_; subst f5_))
      refine hK.out _ _ ⟨(z3 BK259.out 0).trans rfl, (z3 BK259.out 1).trans rfl, (z3 BK259.out 2).trans rfl, (z3 BK259.out 3).trans rfl, (z3 BK260.out 0).trans rfl, (z3 BK260.out 1).trans rfl, (z3 BK260.out 2).trans rfl, (z3 BK260.out 3).trans rfl⟩ (fun hHeld => ?_)
      clear hK K
      refine zw (a' := ?_) ?_ ?_
      rotate_left
      ·show Act.put _ (some 27) _ = _
       simp only [Act.put, List.setIfInBounds_toArray, List.set_cons_zero, List.set_cons_succ, ze, zf]
       rfl
      refine one_ (i := 5) (N := some 29) #[true, true, true, true, true, true, false, false, false, false, true, false, false, false] rfl rfl (zv HT_.out (by kernel_rfl)) (by decide) (fun K hK => ?_)
      refine zx Try.func20 (by kernel_rfl) rfl #[.agg #[.int .i64 t262, .int .i64 t263, .slice Ao30 t264.length co30, .slice Ao31 t267.length co31], .agg #[.int .i64 t270, .bool t271, .bool t272, .bool t273], .string a2] (by rfl) rfl rfl (by (try simp only [List.map_toArray, List.map_cons, List.map_nil]); first | done | rfl | (simp only [List.length_drop, List.length_take]; rfl)) ?_
      with_reducible refine (spec_ReadHead.calls k t262 t263 _ _ t264 _ _ t267 t270 t271 t272 t273 a2 t274 t275 t276 t277 t278 _ ?side1 ?side2 ?side3 ?side4 A16.out).mono ?_
      (case side1 => repeat (first | exact (Kd.R_reads' HO266.out).2.2 | (with_reducible refine Kd.C_alloc ?_ _) | (with_reducible refine Kd.C_drewN ?_ _) | (with_reducible refine Kd.C_drew ?_)))
      (case side2 => exact (Kd.R_reads' HO266.out).2.1)
      (case side3 => repeat (first | exact (Kd.R_reads' HO269.out).2.2 | (with_reducible refine Kd.C_alloc ?_ _) | (with_reducible refine Kd.C_drewN ?_ _) | (with_reducible refine Kd.C_drew ?_)))
      (case side4 => exact (Kd.R_reads' HO269.out).2.1)
      rintro e w32 ⟨rfl, hb⟩
      refine ⟨_, rfl, ?_⟩
      have n0_ := Aside0.mk (Kd.R_below (by (with_reducible repeat (first | apply Kd.R_alloc | apply Kd.R_drewN | apply Kd.R_drew)); exact HO266.out) hb)
      have n1_ := Aside0.mk (Kd.R_below (by (with_reducible repeat (first | apply Kd.R_alloc | apply Kd.R_drewN | apply Kd.R_drew)); exact HO269.out) hb)
      have n2_ := Aside0.mk (za (g := gb259) (o := .cells #[.int .i64 a0_0, .int .i64 a0_1, .slice A0_2 l0_2.length c0_2, .slice A0_3 l0_3.length c0_3] 29 (0, 0)) (by (with_reducible repeat (first | refine z5 ?_ _ | refine z8 ?_ | refine z4 ?_ _)); exact BK259.out) hb)
      have n3_ := Aside0.mk (za (g := gb260) (o := .cells #[.int .i64 a1_0, .bool a1_1, .bool a1_2, .bool a1_3] 31 (0, 0)) (by (with_reducible repeat (first | refine z5 ?_ _ | refine z8 ?_ | refine z4 ?_ _)); exact BK260.out) hb)
      have n4_ := Aside0.mk (za (g := gb279) (o := .cells #[.int .i64 0, .int .i64 0, .int .i64 0] 34 (0, 0)) (by (with_reducible repeat (first | refine z5 ?_ _ | refine z8 ?_ | refine z4 ?_ _)); exact BK279.out) hb)
      have n5_ := Aside0.mk (zc (by repeat (first | (with_reducible first | exact HB.out | apply z7 | apply z1 | apply z6 | refine z2 ?_ GE259.out | refine z2 ?_ GE260.out | refine z2 ?_ GE279.out) | exact HB.out)) hb)
      clear HO266
      clear HO269
      clear BK259
      clear BK260
      clear BK279
      clear HB
      have HO266 := n0_
      have HO269 := n1_
      have BK259 := n2_
      have BK260 := n3_
      have BK279 := n4_
      have HB := n5_
      clear n0_ n1_ n2_ n3_ n4_ n5_
      (try clear hb)
      (try clear hb2)
      (try clear hk)
      (try clear hi)
      refine hK.out _ _ ⟨(z3 BK259.out 0).trans rfl, (z3 BK259.out 1).trans rfl, (z3 BK259.out 2).trans rfl, (z3 BK259.out 3).trans rfl, (z3 BK260.out 0).trans rfl, (z3 BK260.out 1).trans rfl, (z3 BK260.out 2).trans rfl, (z3 BK260.out 3).trans rfl⟩ (fun hHeld => ?_)
      clear hK K
      refine zw (a' := ?_) ?_ ?_
      rotate_left
      ·show Act.put _ (some 29) _ = _
       simp only [Act.put, List.setIfInBounds_toArray, List.set_cons_zero, List.set_cons_succ, ze, zf]
       rfl
      refine zh (i := 6) (N := some 23) (v := ?_) (a' := ?_) #[true, true, true, true, true, true, true, false, false, false, true, false, false, false] rfl rfl (zd HT_.out (by kernel_rfl)) (fun _ _ _ h => h) (Or.inl ⟨by rfl, ?_⟩) ?_ ?_
      rotate_left
      ·intro w'
       go_simp
       with_reducible rfl
      rotate_left
      ·simp only [Act.put, List.setIfInBounds_toArray, List.set_cons_zero, List.set_cons_succ, ze, zf]
       rfl
      refine zh (i := 7) (N := some 30) (v := ?_) (a' := ?_) #[true, true, true, true, true, true, true, true, false, false, true, false, false, false] rfl rfl (zd HT_.out (by kernel_rfl)) (fun _ _ _ h => h) (Or.inl ⟨by rfl, ?_⟩) ?_ ?_
      rotate_left
      ·intro w'
       go_simp
       with_reducible rfl
      rotate_left
      ·simp only [Act.put, List.setIfInBounds_toArray, List.set_cons_zero, List.set_cons_succ, ze, zf]
       rfl
      refine zh (i := 8) (N := some 31) (v := ?_) (a' := ?_) #[true, true, true, true, true, true, true, true, true, false, true, false, false, false] rfl rfl (zd HT_.out (by kernel_rfl)) (fun _ _ _ h => h) (Or.inl ⟨by rfl, ?_⟩) ?_ ?_
      rotate_left
      ·intro w'
       go_simp
       with_reducible rfl
      rotate_left
      ·simp only [Act.put, List.setIfInBounds_toArray, List.set_cons_zero, List.set_cons_succ, ze, zf]
       rfl
      refine zh (i := 9) (N := some 32) (v := ?_) (a' := ?_) #[true, true, true, true, true, true, true, true, true, true, true, false, false, false] rfl rfl (zd HT_.out (by kernel_rfl)) (fun _ _ _ h => h) (Or.inl ⟨by rfl, ?_⟩) ?_ ?_
      rotate_left
      ·intro w'
       go_simp
       with_reducible rfl
      rotate_left
      ·simp only [Act.put, List.setIfInBounds_toArray, List.set_cons_zero, List.set_cons_succ, ze, zf]
       rfl
      exact zw (by simp only [zj1, Act.put, List.setIfInBounds_toArray, List.set_cons_zero, List.set_cons_succ]) (hCont (.slice Ao30 t264.length co30, .slice Ao31 t267.length co31, gb279) _ ⟨hHeld, (by (with_reducible repeat (first | apply Kd.R_alloc | apply Kd.R_drewN | apply Kd.R_drew)); exact HO266.out), (by (with_reducible repeat (first | apply Kd.R_alloc | apply Kd.R_drewN | apply Kd.R_drew)); exact HO269.out), (by (with_reducible repeat (first | refine z5 ?_ _ | refine z8 ?_ | refine z4 ?_ _)); exact BK259.out), (by (with_reducible repeat (first | refine z5 ?_ _ | refine z8 ?_ | refine z4 ?_ _)); exact BK260.out), (by (with_reducible repeat (first | refine z5 ?_ _ | refine z8 ?_ | refine z4 ?_ _)); exact BK279.out), GW279.out, GE279.out, NB259_279.out, NB279_259.out, NB260_279.out, NB279_260.out, (by repeat (first | (with_reducible first | exact HB.out | apply z7 | apply z1 | apply z6 | refine z2 ?_ GE259.out | refine z2 ?_ GE260.out | refine z2 ?_ GE279.out) | exact HB.out))⟩)
    ·skip
     refine zh1 ?hg (N := 8) ?hd (cs := #[.int .i64 0, .int .i64 0, .int .i64 0]) (t := 34) ?hr ?_; (case hd => rfl); (case hg => rfl); (case hr => first | (go_simp; done) | (go_simp; rfl))
     intro gb279 hg w27 hbox hb
     have n0_ := Aside0.mk (za (g := gb259) (o := .cells #[.int .i64 a0_0, .int .i64 a0_1, .slice A0_2 l0_2.length c0_2, .slice A0_3 l0_3.length c0_3] 29 (0, 0)) (by (with_reducible repeat (first | refine z5 ?_ _ | refine z8 ?_ | refine z4 ?_ _)); exact BK259.out) hb)
     have n1_ := Aside0.mk (za (g := gb260) (o := .cells #[.int .i64 a1_0, .bool a1_1, .bool a1_2, .bool a1_3] 31 (0, 0)) (by (with_reducible repeat (first | refine z5 ?_ _ | refine z8 ?_ | refine z4 ?_ _)); exact BK260.out) hb)
     have n2_ := Aside0.mk (zc (by repeat (first | (with_reducible first | exact HB.out | apply z7 | apply z1 | apply z6 | refine z2 ?_ GE259.out | refine z2 ?_ GE260.out) | exact HB.out)) hb)
     have n3_ := Aside0.mk (hbox)
     have n4_ := Aside0.mk ((by rw [hg]; exact (zb (by repeat (first | (with_reducible first | exact HB.out | apply z7 | apply z1 | apply z6 | refine z2 ?_ GE259.out | refine z2 ?_ GE260.out) | exact HB.out))) : w.heap.size ≤ gb279))
     have n5_ := Aside0.mk ((by rw [hg]; exact (zb (by repeat (first | (with_reducible first | exact HB.out | apply z7 | apply z1 | apply z6 | refine z2 ?_ GE259.out | refine z2 ?_ GE260.out) | exact HB.out))) : w.heap.size ≤ gb279))
     have n6_ := Aside0.mk ((by rw [hg]; exact Nat.ne_of_lt (zi (g := gb259) (o := .cells #[.int .i64 a0_0, .int .i64 a0_1, .slice A0_2 l0_2.length c0_2, .slice A0_3 l0_3.length c0_3] 29 (0, 0)) (by (with_reducible repeat (first | refine z5 ?_ _ | refine z8 ?_ | refine z4 ?_ _)); exact BK259.out)) : gb259 ≠ gb279))
     have n7_ := Aside0.mk ((by rw [hg]; exact Nat.ne_of_gt (zi (g := gb259) (o := .cells #[.int .i64 a0_0, .int .i64 a0_1, .slice A0_2 l0_2.length c0_2, .slice A0_3 l0_3.length c0_3] 29 (0, 0)) (by (with_reducible repeat (first | refine z5 ?_ _ | refine z8 ?_ | refine z4 ?_ _)); exact BK259.out)) : gb279 ≠ gb259))
     have n8_ := Aside0.mk ((by rw [hg]; exact Nat.ne_of_lt (zi (g := gb260) (o := .cells #[.int .i64 a1_0, .bool a1_1, .bool a1_2, .bool a1_3] 31 (0, 0)) (by (with_reducible repeat (first | refine z5 ?_ _ | refine z8 ?_ | refine z4 ?_ _)); exact BK260.out)) : gb260 ≠ gb279))
     have n9_ := Aside0.mk ((by rw [hg]; exact Nat.ne_of_gt (zi (g := gb260) (o := .cells #[.int .i64 a1_0, .bool a1_1, .bool a1_2, .bool a1_3] 31 (0, 0)) (by (with_reducible repeat (first | refine z5 ?_ _ | refine z8 ?_ | refine z4 ?_ _)); exact BK260.out)) : gb279 ≠ gb260))
     clear BK259
     clear BK260
     clear HB
     have BK259 := n0_
     have BK260 := n1_
     have HB := n2_
     have BK279 := n3_
     have GW279 := n4_
     have GE279 := n5_
     have NB259_279 := n6_
     have NB279_259 := n7_
     have NB260_279 := n8_
     have NB279_260 := n9_
     clear n0_ n1_ n2_ n3_ n4_ n5_ n6_ n7_ n8_ n9_
     clear hb hbox hg
     refine hK.out _ _ ⟨(z3 BK259.out 0).trans rfl, (z3 BK259.out 1).trans rfl, (z3 BK259.out 2).trans rfl, (z3 BK259.out 3).trans rfl, (z3 BK260.out 0).trans rfl, (z3 BK260.out 1).trans rfl, (z3 BK260.out 2).trans rfl, (z3 BK260.out 3).trans rfl⟩ (fun hHeld => ?_)
     clear hK K
     refine zw (a' := ?_) ?_ ?_
     rotate_left
     ·show Act.put _ (some 8) _ = _
      simp only [Act.put, List.setIfInBounds_toArray, List.set_cons_zero, List.set_cons_succ, ze, zf]
      rfl
     refine one_ (i := 1) (N := some 25) #[true, true, true, false, true, false, false, false, false, false, true, false, false, false] rfl rfl (zv HT_.out (by kernel_rfl)) (by decide) (fun K hK => ?_)
     refine zx Try.func21 (by kernel_rfl) rfl #[.agg #[.int .i64 a0_0, .int .i64 a0_1, .slice A0_2 l0_2.length c0_2, .slice A0_3 l0_3.length c0_3]] (by rfl) rfl rfl (by (try simp only [List.map_toArray, List.map_cons, List.map_nil]); first | done | rfl | (simp only [List.length_drop, List.length_take]; rfl)) ?_
     with_reducible refine (laws_toSeq.calls k a0_0 a0_1 _ _ l0_2 _ _ l0_3 t262 t263 t264 t267 _ ?side1 ?side2 ?side3 ?side4 A14.out).mono ?_
     (case side1 => repeat (first | exact (Kd.C_below HR0_2.out HB.out) | (with_reducible refine Kd.C_alloc ?_ _) | (with_reducible refine Kd.C_drewN ?_ _) | (with_reducible refine Kd.C_drew ?_)))
     (case side2 => exact HC0_2.out)
     (case side3 => repeat (first | exact (Kd.C_below HR0_3.out HB.out) | (with_reducible refine Kd.C_alloc ?_ _) | (with_reducible refine Kd.C_drewN ?_ _) | (with_reducible refine Kd.C_drew ?_)))
     (case side4 => exact HC0_3.out)
     rintro e w28 ⟨v265, v268, rfl, ho0, ho1, hb⟩
     refine ⟨_, rfl, ?_⟩
     have n0_ := Aside0.mk (Kd.R_lower ho0 (zb (by repeat (first | (with_reducible first | exact HB.out | apply z7 | apply z1 | apply z6 | refine z2 ?_ GE259.out | refine z2 ?_ GE260.out | refine z2 ?_ GE279.out) | exact HB.out))))
     have n1_ := Aside0.mk (Kd.R_lower ho1 (zb (by repeat (first | (with_reducible first | exact HB.out | apply z7 | apply z1 | apply z6 | refine z2 ?_ GE259.out | refine z2 ?_ GE260.out | refine z2 ?_ GE279.out) | exact HB.out))))
     have n2_ := Aside0.mk (za (g := gb259) (o := .cells #[.int .i64 a0_0, .int .i64 a0_1, .slice A0_2 l0_2.length c0_2, .slice A0_3 l0_3.length c0_3] 29 (0, 0)) (by (with_reducible repeat (first | refine z5 ?_ _ | refine z8 ?_ | refine z4 ?_ _)); exact BK259.out) hb)
     have n3_ := Aside0.mk (za (g := gb260) (o := .cells #[.int .i64 a1_0, .bool a1_1, .bool a1_2, .bool a1_3] 31 (0, 0)) (by (with_reducible repeat (first | refine z5 ?_ _ | refine z8 ?_ | refine z4 ?_ _)); exact BK260.out) hb)
     have n4_ := Aside0.mk (za (g := gb279) (o := .cells #[.int .i64 0, .int .i64 0, .int .i64 0] 34 (0, 0)) (by (with_reducible repeat (first | refine z5 ?_ _ | refine z8 ?_ | refine z4 ?_ _)); exact BK279.out) hb)
     have n5_ := Aside0.mk (zc (by repeat (first | (with_reducible first | exact HB.out | apply z7 | apply z1 | apply z6 | refine z2 ?_ GE259.out | refine z2 ?_ GE260.out | refine z2 ?_ GE279.out) | exact HB.out)) hb)
     clear BK259
     clear BK260
     clear BK279
     clear HB
     have HO266 := n0_
     have HO269 := n1_
     have BK259 := n2_
     have BK260 := n3_
     have BK279 := n4_
     have HB := n5_
     clear n0_ n1_ n2_ n3_ n4_ n5_
     (try clear hb)
     (try clear hb2)
     (try clear hk)
     (try clear hi)
     (try clear ho0)
     (try clear ho1)
     refine hK.out _ _ ⟨(z3 BK259.out 0).trans rfl, (z3 BK259.out 1).trans rfl, (z3 BK259.out 2).trans rfl, (z3 BK259.out 3).trans rfl, (z3 BK260.out 0).trans rfl, (z3 BK260.out 1).trans rfl, (z3 BK260.out 2).trans rfl, (z3 BK260.out 3).trans rfl⟩ (fun hHeld => ?_)
     clear hK K
     refine zw (a' := ?_) ?_ ?_
     rotate_left
     ·show Act.put _ (some 25) _ = _
      simp only [Act.put, List.setIfInBounds_toArray, List.set_cons_zero, List.set_cons_succ, ze, zf]
      rfl
     refine one_ (i := 3) (N := some 27) #[true, true, true, true, true, false, false, false, false, false, true, false, false, false] rfl rfl (zv HT_.out (by kernel_rfl)) (by decide) (fun K hK => ?_)
     refine zx Try.func22 (by kernel_rfl) rfl #[.agg #[.int .i64 a1_0, .bool a1_1, .bool a1_2, .bool a1_3]] (by rfl) rfl rfl (by (try simp only [List.map_toArray, List.map_cons, List.map_nil]); first | done | rfl | (simp only [List.length_drop, List.length_take]; rfl)) ?_
     with_reducible refine (laws_toPar.calls a1_0 a1_1 a1_2 a1_3 t270 t271 t272 t273 _ A15.out).mono ?_
     rintro e w29 ⟨rfl, hb⟩
     refine ⟨_, rfl, ?_⟩
     have n0_ := Aside0.mk (Kd.R_below (by (with_reducible repeat (first | apply Kd.R_alloc | apply Kd.R_drewN | apply Kd.R_drew)); exact HO266.out) hb)
     have n1_ := Aside0.mk (Kd.R_below (by (with_reducible repeat (first | apply Kd.R_alloc | apply Kd.R_drewN | apply Kd.R_drew)); exact HO269.out) hb)
     have n2_ := Aside0.mk (za (g := gb259) (o := .cells #[.int .i64 a0_0, .int .i64 a0_1, .slice A0_2 l0_2.length c0_2, .slice A0_3 l0_3.length c0_3] 29 (0, 0)) (by (with_reducible repeat (first | refine z5 ?_ _ | refine z8 ?_ | refine z4 ?_ _)); exact BK259.out) hb)
     have n3_ := Aside0.mk (za (g := gb260) (o := .cells #[.int .i64 a1_0, .bool a1_1, .bool a1_2, .bool a1_3] 31 (0, 0)) (by (with_reducible repeat (first | refine z5 ?_ _ | refine z8 ?_ | refine z4 ?_ _)); exact BK260.out) hb)
     have n4_ := Aside0.mk (za (g := gb279) (o := .cells #[.int .i64 0, .int .i64 0, .int .i64 0] 34 (0, 0)) (by (with_reducible repeat (first | refine z5 ?_ _ | refine z8 ?_ | refine z4 ?_ _)); exact BK279.out) hb)
     have n5_ := Aside0.mk (zc (by repeat (first | (with_reducible first | exact HB.out | apply z7 | apply z1 | apply z6 | refine z2 ?_ GE259.out | refine z2 ?_ GE260.out | refine z2 ?_ GE279.out) | exact HB.out)) hb)
     clear HO266
     clear HO269
     clear BK259
     clear BK260
     clear BK279
     clear HB
     have HO266 := n0_
     have HO269 := n1_
     have BK259 := n2_
     have BK260 := n3_
     have BK279 := n4_
     have HB := n5_
     clear n0_ n1_ n2_ n3_ n4_ n5_
     (try clear hb)
     (try clear hb2)
     (try clear hk)
     (try clear hi)
     obtain ⟨Ao30, co30, eo30⟩ := Kd.R_slice HO266.out
     (first | subst eo30 | (injection eo30 with f1_ f2_ f3_; have f4_ := f1_.symm; have f5_ := f3_.symm; clear f1_ f2_ f3_; subst f4_; subst f5_))
     obtain ⟨Ao31, co31, eo31⟩ := Kd.R_slice HO269.out
     (first | subst eo31 | (injection eo31 with f1_ f2_ f3_; have f4_ := f1_.symm; have f5_ := f3_.symm; clear f1_ f2_ f3_; subst f4_; subst f5_))
     refine hK.out _ _ ⟨(z3 BK259.out 0).trans rfl, (z3 BK259.out 1).trans rfl, (z3 BK259.out 2).trans rfl, (z3 BK259.out 3).trans rfl, (z3 BK260.out 0).trans rfl, (z3 BK260.out 1).trans rfl, (z3 BK260.out 2).trans rfl, (z3 BK260.out 3).trans rfl⟩ (fun hHeld => ?_)
     clear hK K
     refine zw (a' := ?_) ?_ ?_
     rotate_left
     ·show Act.put _ (some 27) _ = _
      simp only [Act.put, List.setIfInBounds_toArray, List.set_cons_zero, List.set_cons_succ, ze, zf]
      rfl
     refine one_ (i := 5) (N := some 29) #[true, true, true, true, true, true, false, false, false, false, true, false, false, false] rfl rfl (zv HT_.out (by kernel_rfl)) (by decide) (fun K hK => ?_)
     refine zx Try.func20 (by kernel_rfl) rfl #[.agg #[.int .i64 t262, .int .i64 t263, .slice Ao30 t264.length co30, .slice Ao31 t267.length co31], .agg #[.int .i64 t270, .bool t271, .bool t272, .bool t273], .string a2] (by rfl) rfl rfl (by (try simp only [List.map_toArray, List.map_cons, List.map_nil]); first | done | rfl | (simp only [List.length_drop, List.length_take]; rfl)) ?_
     with_reducible refine (spec_ReadHead.calls k t262 t263 _ _ t264 _ _ t267 t270 t271 t272 t273 a2 t274 t275 t276 t277 t278 _ ?side1 ?side2 ?side3 ?side4 A16.out).mono ?_
     (case side1 => repeat (first | exact (Kd.R_reads' HO266.out).2.2 | (with_reducible refine Kd.C_alloc ?_ _) | (with_reducible refine Kd.C_drewN ?_ _) | (with_reducible refine Kd.C_drew ?_)))
     (case side2 => exact (Kd.R_reads' HO266.out).2.1)
     (case side3 => repeat (first | exact (Kd.R_reads' HO269.out).2.2 | (with_reducible refine Kd.C_alloc ?_ _) | (with_reducible refine Kd.C_drewN ?_ _) | (with_reducible refine Kd.C_drew ?_)))
     (case side4 => exact (Kd.R_reads' HO269.out).2.1)
     rintro e w32 ⟨rfl, hb⟩
     refine ⟨_, rfl, ?_⟩
     have n0_ := Aside0.mk (Kd.R_below (by (with_reducible repeat (first | apply Kd.R_alloc | apply Kd.R_drewN | apply Kd.R_drew)); exact HO266.out) hb)
     have n1_ := Aside0.mk (Kd.R_below (by (with_reducible repeat (first | apply Kd.R_alloc | apply Kd.R_drewN | apply Kd.R_drew)); exact HO269.out) hb)
     have n2_ := Aside0.mk (za (g := gb259) (o := .cells #[.int .i64 a0_0, .int .i64 a0_1, .slice A0_2 l0_2.length c0_2, .slice A0_3 l0_3.length c0_3] 29 (0, 0)) (by (with_reducible repeat (first | refine z5 ?_ _ | refine z8 ?_ | refine z4 ?_ _)); exact BK259.out) hb)
     have n3_ := Aside0.mk (za (g := gb260) (o := .cells #[.int .i64 a1_0, .bool a1_1, .bool a1_2, .bool a1_3] 31 (0, 0)) (by (with_reducible repeat (first | refine z5 ?_ _ | refine z8 ?_ | refine z4 ?_ _)); exact BK260.out) hb)
     have n4_ := Aside0.mk (za (g := gb279) (o := .cells #[.int .i64 0, .int .i64 0, .int .i64 0] 34 (0, 0)) (by (with_reducible repeat (first | refine z5 ?_ _ | refine z8 ?_ | refine z4 ?_ _)); exact BK279.out) hb)
     have n5_ := Aside0.mk (zc (by repeat (first | (with_reducible first | exact HB.out | apply z7 | apply z1 | apply z6 | refine z2 ?_ GE259.out | refine z2 ?_ GE260.out | refine z2 ?_ GE279.out) | exact HB.out)) hb)
     clear HO266
     clear HO269
     clear BK259
     clear BK260
     clear BK279
     clear HB
     have HO266 := n0_
     have HO269 := n1_
     have BK259 := n2_
     have BK260 := n3_
     have BK279 := n4_
     have HB := n5_
     clear n0_ n1_ n2_ n3_ n4_ n5_
     (try clear hb)
     (try clear hb2)
     (try clear hk)
     (try clear hi)
     refine hK.out _ _ ⟨(z3 BK259.out 0).trans rfl, (z3 BK259.out 1).trans rfl, (z3 BK259.out 2).trans rfl, (z3 BK259.out 3).trans rfl, (z3 BK260.out 0).trans rfl, (z3 BK260.out 1).trans rfl, (z3 BK260.out 2).trans rfl, (z3 BK260.out 3).trans rfl⟩ (fun hHeld => ?_)
     clear hK K
     refine zw (a' := ?_) ?_ ?_
     rotate_left
     ·show Act.put _ (some 29) _ = _
      simp only [Act.put, List.setIfInBounds_toArray, List.set_cons_zero, List.set_cons_succ, ze, zf]
      rfl
     refine zh (i := 6) (N := some 23) (v := ?_) (a' := ?_) #[true, true, true, true, true, true, true, false, false, false, true, false, false, false] rfl rfl (zd HT_.out (by kernel_rfl)) (fun _ _ _ h => h) (Or.inl ⟨by rfl, ?_⟩) ?_ ?_
     rotate_left
     ·intro w'
      go_simp
      with_reducible rfl
     rotate_left
     ·simp only [Act.put, List.setIfInBounds_toArray, List.set_cons_zero, List.set_cons_succ, ze, zf]
      rfl
     refine zh (i := 7) (N := some 30) (v := ?_) (a' := ?_) #[true, true, true, true, true, true, true, true, false, false, true, false, false, false] rfl rfl (zd HT_.out (by kernel_rfl)) (fun _ _ _ h => h) (Or.inl ⟨by rfl, ?_⟩) ?_ ?_
     rotate_left
     ·intro w'
      go_simp
      with_reducible rfl
     rotate_left
     ·simp only [Act.put, List.setIfInBounds_toArray, List.set_cons_zero, List.set_cons_succ, ze, zf]
      rfl
     refine zh (i := 8) (N := some 31) (v := ?_) (a' := ?_) #[true, true, true, true, true, true, true, true, true, false, true, false, false, false] rfl rfl (zd HT_.out (by kernel_rfl)) (fun _ _ _ h => h) (Or.inl ⟨by rfl, ?_⟩) ?_ ?_
     rotate_left
     ·intro w'
      go_simp
      with_reducible rfl
     rotate_left
     ·simp only [Act.put, List.setIfInBounds_toArray, List.set_cons_zero, List.set_cons_succ, ze, zf]
      rfl
     refine zh (i := 9) (N := some 32) (v := ?_) (a' := ?_) #[true, true, true, true, true, true, true, true, true, true, true, false, false, false] rfl rfl (zd HT_.out (by kernel_rfl)) (fun _ _ _ h => h) (Or.inl ⟨by rfl, ?_⟩) ?_ ?_
     rotate_left
     ·intro w'
      go_simp
      with_reducible rfl
     rotate_left
     ·simp only [Act.put, List.setIfInBounds_toArray, List.set_cons_zero, List.set_cons_succ, ze, zf]
      rfl
     exact zw (by simp only [zj1, Act.put, List.setIfInBounds_toArray, List.set_cons_zero, List.set_cons_succ]) (hCont (.slice Ao30 t264.length co30, .slice Ao31 t267.length co31, gb279) _ ⟨hHeld, (by (with_reducible repeat (first | apply Kd.R_alloc | apply Kd.R_drewN | apply Kd.R_drew)); exact HO266.out), (by (with_reducible repeat (first | apply Kd.R_alloc | apply Kd.R_drewN | apply Kd.R_drew)); exact HO269.out), (by (with_reducible repeat (first | refine z5 ?_ _ | refine z8 ?_ | refine z4 ?_ _)); exact BK259.out), (by (with_reducible repeat (first | refine z5 ?_ _ | refine z8 ?_ | refine z4 ?_ _)); exact BK260.out), (by (with_reducible repeat (first | refine z5 ?_ _ | refine z8 ?_ | refine z4 ?_ _)); exact BK279.out), GW279.out, GE279.out, NB259_279.out, NB279_259.out, NB260_279.out, NB279_260.out, (by repeat (first | (with_reducible first | exact HB.out | apply z7 | apply z1 | apply z6 | refine z2 ?_ GE259.out | refine z2 ?_ GE260.out | refine z2 ?_ GE279.out) | exact HB.out))⟩)
   rintro ⟨v265, v268, gb279⟩ w33 ⟨hS_, h0_, h1_, h2_, h3_, h4_, h5_, h6_, h7_, h8_, h9_, h10_, h11_⟩
   have n0_ : Aside0 (Kd.R (Kd.int .i64) 3 w33 w.heap.size (fun k_ => some k_ ≠ (v268 : Value).ownBlock) v265 t264) := ⟨h0_⟩
   have n1_ : Aside0 (Kd.R (Kd.int .i64) 3 w33 w.heap.size (fun k_ => some k_ ≠ (v265 : Value).ownBlock) v268 t267) := ⟨h1_⟩
   have n2_ : Aside0 (w33.heap[gb259]? = some (.cells #[.int .i64 a0_0, .int .i64 a0_1, .slice A0_2 l0_2.length c0_2, .slice A0_3 l0_3.length c0_3] 29 (0, 0))) := ⟨h2_⟩
   have n3_ : Aside0 (w33.heap[gb260]? = some (.cells #[.int .i64 a1_0, .bool a1_1, .bool a1_2, .bool a1_3] 31 (0, 0))) := ⟨h3_⟩
   have n4_ : Aside0 (w33.heap[gb279]? = some (.cells #[.int .i64 0, .int .i64 0, .int .i64 0] 34 (0, 0))) := ⟨h4_⟩
   have n5_ : Aside0 (w.heap.size ≤ gb279) := ⟨h5_⟩
   have n6_ : Aside0 (w.heap.size ≤ gb279) := ⟨h6_⟩
   have n7_ : Aside0 (gb259 ≠ gb279) := ⟨h7_⟩
   have n8_ : Aside0 (gb279 ≠ gb259) := ⟨h8_⟩
   have n9_ : Aside0 (gb260 ≠ gb279) := ⟨h9_⟩
   have n10_ : Aside0 (gb279 ≠ gb260) := ⟨h10_⟩
   have n11_ : Aside0 (Below w.heap.size w w33) := ⟨h11_⟩
   clear BK259
   clear BK260
   clear HB
   clear h0_ h1_ h2_ h3_ h4_ h5_ h6_ h7_ h8_ h9_ h10_ h11_
   have HO266 := n0_
   have HO269 := n1_
   have BK259 := n2_
   have BK260 := n3_
   have BK279 := n4_
   have GW279 := n5_
   have GE279 := n6_
   have NB259_279 := n7_
   have NB279_259 := n8_
   have NB260_279 := n9_
   have NB279_260 := n10_
   have HB := n11_
   clear n0_ n1_ n2_ n3_ n4_ n5_ n6_ n7_ n8_ n9_ n10_ n11_
   have hHeld : w33.cell? ⟨gb259, 0, none⟩ = some (.int .i64 a0_0) ∧ w33.cell? ⟨gb259, 1, none⟩ = some (.int .i64 a0_1) ∧ w33.cell? ⟨gb259, 2, none⟩ = some (.slice A0_2 l0_2.length c0_2) ∧ w33.cell? ⟨gb259, 3, none⟩ = some (.slice A0_3 l0_3.length c0_3) ∧ w33.cell? ⟨gb260, 0, none⟩ = some (.int .i64 a1_0) ∧ w33.cell? ⟨gb260, 1, none⟩ = some (.bool a1_1) ∧ w33.cell? ⟨gb260, 2, none⟩ = some (.bool a1_2) ∧ w33.cell? ⟨gb260, 3, none⟩ = some (.bool a1_3) := hS_
   refine zw (a' := ?_) ?_ ?_
   rotate_left
   ·simp only [zj1, Act.put, List.setIfInBounds_toArray, List.set_cons_zero, List.set_cons_succ]
    rfl
   refine one_ (i := 11) (N := none) #[true, true, true, true, true, true, true, true, true, true, true, true, false, false] rfl rfl (zv HT_.out (by kernel_rfl)) (by decide) (fun K hK => ?_)
   have hs34 : w33.cell? ⟨gb279, 0, none⟩ = some (.int .i64 0) := (z3 BK279.out 0).trans rfl
   have hfs34 := z9 BK279.out 0
   have hns34_0 := NB259_279.out
   have hns34_1 := NB260_279.out
   have hms34_0 := NB279_259.out
   have hms34_1 := NB279_260.out
   have hs35 : w33.cell? ⟨gb279, 1, none⟩ = some (.int .i64 0) := (z3 BK279.out 1).trans rfl
   have hfs35 := z9 BK279.out 1
   have hns35_0 := NB259_279.out
   have hns35_1 := NB260_279.out
   have hms35_0 := NB279_259.out
   have hms35_1 := NB279_260.out
   have hs36 : w33.cell? ⟨gb279, 2, none⟩ = some (.int .i64 0) := (z3 BK279.out 2).trans rfl
   have hfs36 := z9 BK279.out 2
   have hns36_0 := NB259_279.out
   have hns36_1 := NB260_279.out
   have hms36_0 := NB279_259.out
   have hms36_1 := NB279_260.out
   refine skip_ (w1 := ?_) (by rfl) rfl ?_ ?_
   rotate_left
   ·go_simp
    rfl
   refine hK.out _ _ ⟨((zm (p := ⟨gb279, _, none⟩) NB259_279.out _).trans (((zm (p := ⟨gb279, _, none⟩) NB259_279.out _).trans (((zm (p := ⟨gb279, _, none⟩) NB259_279.out _).trans (hHeld.1)))))), ((zm (p := ⟨gb279, _, none⟩) NB259_279.out _).trans (((zm (p := ⟨gb279, _, none⟩) NB259_279.out _).trans (((zm (p := ⟨gb279, _, none⟩) NB259_279.out _).trans (hHeld.2.1)))))), ((zm (p := ⟨gb279, _, none⟩) NB259_279.out _).trans (((zm (p := ⟨gb279, _, none⟩) NB259_279.out _).trans (((zm (p := ⟨gb279, _, none⟩) NB259_279.out _).trans (hHeld.2.2.1)))))), ((zm (p := ⟨gb279, _, none⟩) NB259_279.out _).trans (((zm (p := ⟨gb279, _, none⟩) NB259_279.out _).trans (((zm (p := ⟨gb279, _, none⟩) NB259_279.out _).trans (hHeld.2.2.2.1)))))), ((zm (p := ⟨gb279, _, none⟩) NB260_279.out _).trans (((zm (p := ⟨gb279, _, none⟩) NB260_279.out _).trans (((zm (p := ⟨gb279, _, none⟩) NB260_279.out _).trans (hHeld.2.2.2.2.1)))))), ((zm (p := ⟨gb279, _, none⟩) NB260_279.out _).trans (((zm (p := ⟨gb279, _, none⟩) NB260_279.out _).trans (((zm (p := ⟨gb279, _, none⟩) NB260_279.out _).trans (hHeld.2.2.2.2.2.1)))))), ((zm (p := ⟨gb279, _, none⟩) NB260_279.out _).trans (((zm (p := ⟨gb279, _, none⟩) NB260_279.out _).trans (((zm (p := ⟨gb279, _, none⟩) NB260_279.out _).trans (hHeld.2.2.2.2.2.2.1)))))), ((zm (p := ⟨gb279, _, none⟩) NB260_279.out _).trans (((zm (p := ⟨gb279, _, none⟩) NB260_279.out _).trans (((zm (p := ⟨gb279, _, none⟩) NB260_279.out _).trans (hHeld.2.2.2.2.2.2.2))))))⟩ (fun hHeld => ?_)
   clear hK K
   refine zh (i := 12) (N := some 9) (v := ?_) (a' := ?_) #[true, true, true, true, true, true, true, true, true, true, true, true, true, false] rfl rfl (zd HT_.out (by kernel_rfl)) (fun _ _ _ h => h) (Or.inl ⟨by rfl, ?_⟩) ?_ ?_
   rotate_left
   ·intro w'
    go_simp
    with_reducible rfl
   rotate_left
   ·simp only [Act.put, List.setIfInBounds_toArray, List.set_cons_zero, List.set_cons_succ, ze, zf]
    rfl
   refine zh (i := 13) (N := some 10) (v := ?_) (a' := ?_) #[true, true, true, true, true, true, true, true, true, true, true, true, true, true] rfl rfl (zd HT_.out (by kernel_rfl)) (fun _ _ _ h => h) (Or.inl ⟨by rfl, ?_⟩) ?_ ?_
   rotate_left
   ·intro w'
    go_simp
    with_reducible rfl
   rotate_left
   ·simp only [Act.put, List.setIfInBounds_toArray, List.set_cons_zero, List.set_cons_succ, ze, zf]
    rfl
   refine zg1 (z31 HT_.out (by kernel_rfl)) ?_
   have hnb37 := NB259_279.out
   have hnc37 := NB279_259.out
   have hcz38_0 : w33.cell? ⟨gb259, 0, none⟩ = some (.int .i64 a0_0) := (z3 BK259.out 0).trans rfl
   have hcz38_1 : w33.cell? ⟨gb259, 1, none⟩ = some (.int .i64 a0_1) := (z3 BK259.out 1).trans rfl
   have hcz38_2 : w33.cell? ⟨gb259, 2, none⟩ = some (.slice A0_2 l0_2.length c0_2) := (z3 BK259.out 2).trans rfl
   have hcz38_3 : w33.cell? ⟨gb259, 3, none⟩ = some (.slice A0_3 l0_3.length c0_3) := (z3 BK259.out 3).trans rfl
   have hfz38_0 := z9 BK259.out 0
   have hfz38_1 := z9 BK259.out 1
   have hfz38_2 := z9 BK259.out 2
   have hfz38_3 := z9 BK259.out 3
   try go_wp2_with (first | ((with_reducible refine zg (f := 21) rfl ?_); refine zr (some 34) rfl rfl Try.func21 (by kernel_rfl) rfl #[.agg #[.int .i64 a0_0, .int .i64 a0_1, .slice A0_2 l0_2.length c0_2, .slice A0_3 l0_3.length c0_3]] rfl (by (try simp only [List.map_toArray, List.map_cons, List.map_nil]); first | done | rfl | (simp only [List.length_drop, List.length_take]; rfl)) ?_; (with_reducible refine (laws_toSeq.calls k a0_0 a0_1 _ _ l0_2 _ _ l0_3 t280 t281 t282 t285 _ ?side1 ?side2 ?side3 ?side4 A17.out).mono ?_); (case side1 => exact Kd.C_below HR0_2.out (by repeat (first | (with_reducible first | exact HB.out | apply z7 | apply z1 | apply z6 | refine z2 ?_ GE259.out | refine z2 ?_ GE260.out | refine z2 ?_ GE279.out) | exact HB.out))); (case side2 => exact HC0_2.out); (case side3 => exact Kd.C_below HR0_3.out (by repeat (first | (with_reducible first | exact HB.out | apply z7 | apply z1 | apply z6 | refine z2 ?_ GE259.out | refine z2 ?_ GE260.out | refine z2 ?_ GE279.out) | exact HB.out))); (case side4 => exact HC0_3.out); rintro e w39 ⟨v283, v286, rfl, ho0, ho1, hb⟩; refine ⟨_, rfl, ?_⟩; have n0_ := Aside0.mk (Kd.R_mono (Kd.R_told (Kd.R_told (Kd.R_old (by (with_reducible repeat (first | apply Kd.R_alloc | apply Kd.R_drewN | apply Kd.R_drew)); exact (Kd.R_mono (Kd.R_far (p := ⟨gb279, 2, none⟩) (Kd.R_far (p := ⟨gb279, 1, none⟩) (Kd.R_far (p := ⟨gb279, 0, none⟩) (Kd.R_types HO266.out BK279.out (by decide)) (fun _ hk => hk.2) (.int .i64 t274)) (fun _ hk => hk.2) (.int .i64 t275)) (fun _ hk => hk.2) (.int .i64 t276)) (fun _ h_ => h_.1))) hb) (Kd.R_base ho0)) (Kd.R_base ho1)) (fun _ h_ => h_.1)); have n1_ := Aside0.mk (Kd.R_mono (Kd.R_told (Kd.R_told (Kd.R_old (by (with_reducible repeat (first | apply Kd.R_alloc | apply Kd.R_drewN | apply Kd.R_drew)); exact (Kd.R_mono (Kd.R_far (p := ⟨gb279, 2, none⟩) (Kd.R_far (p := ⟨gb279, 1, none⟩) (Kd.R_far (p := ⟨gb279, 0, none⟩) (Kd.R_types HO269.out BK279.out (by decide)) (fun _ hk => hk.2) (.int .i64 t274)) (fun _ hk => hk.2) (.int .i64 t275)) (fun _ hk => hk.2) (.int .i64 t276)) (fun _ h_ => h_.1))) hb) (Kd.R_base ho0)) (Kd.R_base ho1)) (fun _ h_ => h_.1)); have n2_ := Aside0.mk (Kd.R_lower (Kd.R_new' (Kd.R_new' ho0 (Kd.R_lt (by (with_reducible repeat (first | apply Kd.R_alloc | apply Kd.R_drewN | apply Kd.R_drew)); exact (Kd.R_mono (Kd.R_far (p := ⟨gb279, 2, none⟩) (Kd.R_far (p := ⟨gb279, 1, none⟩) (Kd.R_far (p := ⟨gb279, 0, none⟩) (Kd.R_types HO266.out BK279.out (by decide)) (fun _ hk => hk.2) (.int .i64 t274)) (fun _ hk => hk.2) (.int .i64 t275)) (fun _ hk => hk.2) (.int .i64 t276)) (fun _ h_ => h_.1))))) (Kd.R_lt (by (with_reducible repeat (first | apply Kd.R_alloc | apply Kd.R_drewN | apply Kd.R_drew)); exact (Kd.R_mono (Kd.R_far (p := ⟨gb279, 2, none⟩) (Kd.R_far (p := ⟨gb279, 1, none⟩) (Kd.R_far (p := ⟨gb279, 0, none⟩) (Kd.R_types HO269.out BK279.out (by decide)) (fun _ hk => hk.2) (.int .i64 t274)) (fun _ hk => hk.2) (.int .i64 t275)) (fun _ hk => hk.2) (.int .i64 t276)) (fun _ h_ => h_.1))))) (zb (by repeat (first | (with_reducible first | exact HB.out | apply z7 | apply z1 | apply z6 | refine z2 ?_ GE259.out | refine z2 ?_ GE260.out | refine z2 ?_ GE279.out) | exact HB.out)))); have n3_ := Aside0.mk (Kd.R_lower (Kd.R_new' (Kd.R_new' ho1 (Kd.R_lt (by (with_reducible repeat (first | apply Kd.R_alloc | apply Kd.R_drewN | apply Kd.R_drew)); exact (Kd.R_mono (Kd.R_far (p := ⟨gb279, 2, none⟩) (Kd.R_far (p := ⟨gb279, 1, none⟩) (Kd.R_far (p := ⟨gb279, 0, none⟩) (Kd.R_types HO266.out BK279.out (by decide)) (fun _ hk => hk.2) (.int .i64 t274)) (fun _ hk => hk.2) (.int .i64 t275)) (fun _ hk => hk.2) (.int .i64 t276)) (fun _ h_ => h_.1))))) (Kd.R_lt (by (with_reducible repeat (first | apply Kd.R_alloc | apply Kd.R_drewN | apply Kd.R_drew)); exact (Kd.R_mono (Kd.R_far (p := ⟨gb279, 2, none⟩) (Kd.R_far (p := ⟨gb279, 1, none⟩) (Kd.R_far (p := ⟨gb279, 0, none⟩) (Kd.R_types HO269.out BK279.out (by decide)) (fun _ hk => hk.2) (.int .i64 t274)) (fun _ hk => hk.2) (.int .i64 t275)) (fun _ hk => hk.2) (.int .i64 t276)) (fun _ h_ => h_.1))))) (zb (by repeat (first | (with_reducible first | exact HB.out | apply z7 | apply z1 | apply z6 | refine z2 ?_ GE259.out | refine z2 ?_ GE260.out | refine z2 ?_ GE279.out) | exact HB.out)))); have n4_ := Aside0.mk (za (g := gb259) (o := .cells #[.int .i64 a0_0, .int .i64 a0_1, .slice A0_2 l0_2.length c0_2, .slice A0_3 l0_3.length c0_3] 29 (0, 0)) (by (with_reducible repeat (first | refine z5 ?_ _ | refine z8 ?_ | refine z4 ?_ _)); refine zk ?_ NB259_279.out _; (with_reducible repeat (first | refine z5 ?_ _ | refine z8 ?_ | refine z4 ?_ _)); refine zk ?_ NB259_279.out _; (with_reducible repeat (first | refine z5 ?_ _ | refine z8 ?_ | refine z4 ?_ _)); refine zk ?_ NB259_279.out _; (with_reducible repeat (first | refine z5 ?_ _ | refine z8 ?_ | refine z4 ?_ _)); exact BK259.out) hb); have n5_ := Aside0.mk (za (g := gb260) (o := .cells #[.int .i64 a1_0, .bool a1_1, .bool a1_2, .bool a1_3] 31 (0, 0)) (by (with_reducible repeat (first | refine z5 ?_ _ | refine z8 ?_ | refine z4 ?_ _)); refine zk ?_ NB260_279.out _; (with_reducible repeat (first | refine z5 ?_ _ | refine z8 ?_ | refine z4 ?_ _)); refine zk ?_ NB260_279.out _; (with_reducible repeat (first | refine z5 ?_ _ | refine z8 ?_ | refine z4 ?_ _)); refine zk ?_ NB260_279.out _; (with_reducible repeat (first | refine z5 ?_ _ | refine z8 ?_ | refine z4 ?_ _)); exact BK260.out) hb); have n6_ := Aside0.mk (za (g := gb279) (o := .cells #[.int .i64 t274, .int .i64 t275, .int .i64 t276] 34 (0, 0)) (by (with_reducible repeat (first | refine z5 ?_ _ | refine z8 ?_ | refine z4 ?_ _)); refine zo (cs := #[.int .i64 t274, .int .i64 t275, .int .i64 0]) ?_ 2 _ rfl; (with_reducible repeat (first | refine z5 ?_ _ | refine z8 ?_ | refine z4 ?_ _)); refine zo (cs := #[.int .i64 t274, .int .i64 0, .int .i64 0]) ?_ 1 _ rfl; (with_reducible repeat (first | refine z5 ?_ _ | refine z8 ?_ | refine z4 ?_ _)); refine zo (cs := #[.int .i64 0, .int .i64 0, .int .i64 0]) ?_ 0 _ rfl; (with_reducible repeat (first | refine z5 ?_ _ | refine z8 ?_ | refine z4 ?_ _)); exact BK279.out) hb); have n7_ := Aside0.mk (zc (by repeat (first | (with_reducible first | exact HB.out | apply z7 | apply z1 | apply z6 | refine z2 ?_ GE259.out | refine z2 ?_ GE260.out | refine z2 ?_ GE279.out) | exact HB.out)) hb); clear HO266; clear HO269; clear BK259; clear BK260; clear BK279; clear HB; have HO266 := n0_; have HO269 := n1_; have HO284 := n2_; have HO287 := n3_; have BK259 := n4_; have BK260 := n5_; have BK279 := n6_; have HB := n7_; clear n0_ n1_ n2_ n3_ n4_ n5_ n6_ n7_; (try clear hb); (try clear hb2); (try clear hk); (try clear hi); (try clear ho0); (try clear ho1)) | ((with_reducible refine zl (N := 11) rfl ?_); refine zj ?hg (N := 11) ?hd (cs := #[.int .i64 0, .int .i64 0, .slice none 0 0, .slice none 0 0]) (t := 37) ?hr ?_; (case hd => rfl); (case hg => rfl); (case hr => first | (go_simp; done) | (go_simp; rfl)); intro gb288 hg w40 hbox hb; have n0_ := Aside0.mk (Kd.R_below (by (with_reducible repeat (first | apply Kd.R_alloc | apply Kd.R_drewN | apply Kd.R_drew)); exact HO266.out) hb); have n1_ := Aside0.mk (Kd.R_below (by (with_reducible repeat (first | apply Kd.R_alloc | apply Kd.R_drewN | apply Kd.R_drew)); exact HO269.out) hb); have n2_ := Aside0.mk (Kd.R_below (by (with_reducible repeat (first | apply Kd.R_alloc | apply Kd.R_drewN | apply Kd.R_drew)); exact HO284.out) hb); have n3_ := Aside0.mk (Kd.R_below (by (with_reducible repeat (first | apply Kd.R_alloc | apply Kd.R_drewN | apply Kd.R_drew)); exact HO287.out) hb); have n4_ := Aside0.mk (za (g := gb259) (o := .cells #[.int .i64 a0_0, .int .i64 a0_1, .slice A0_2 l0_2.length c0_2, .slice A0_3 l0_3.length c0_3] 29 (0, 0)) (by (with_reducible repeat (first | refine z5 ?_ _ | refine z8 ?_ | refine z4 ?_ _)); exact BK259.out) hb); have n5_ := Aside0.mk (za (g := gb260) (o := .cells #[.int .i64 a1_0, .bool a1_1, .bool a1_2, .bool a1_3] 31 (0, 0)) (by (with_reducible repeat (first | refine z5 ?_ _ | refine z8 ?_ | refine z4 ?_ _)); exact BK260.out) hb); have n6_ := Aside0.mk (za (g := gb279) (o := .cells #[.int .i64 t274, .int .i64 t275, .int .i64 t276] 34 (0, 0)) (by (with_reducible repeat (first | refine z5 ?_ _ | refine z8 ?_ | refine z4 ?_ _)); exact BK279.out) hb); have n7_ := Aside0.mk (zc (by repeat (first | (with_reducible first | exact HB.out | apply z7 | apply z1 | apply z6 | refine z2 ?_ GE259.out | refine z2 ?_ GE260.out | refine z2 ?_ GE279.out) | exact HB.out)) hb); have n8_ := Aside0.mk (hbox); have n9_ := Aside0.mk ((by rw [hg]; exact (zb (by repeat (first | (with_reducible first | exact HB.out | apply z7 | apply z1 | apply z6 | refine z2 ?_ GE259.out | refine z2 ?_ GE260.out | refine z2 ?_ GE279.out) | exact HB.out))) : w.heap.size ≤ gb288)); have n10_ := Aside0.mk ((by rw [hg]; exact (zb (by repeat (first | (with_reducible first | exact HB.out | apply z7 | apply z1 | apply z6 | refine z2 ?_ GE259.out | refine z2 ?_ GE260.out | refine z2 ?_ GE279.out) | exact HB.out))) : w.heap.size ≤ gb288)); have n11_ := Aside0.mk ((by rw [hg]; exact Nat.ne_of_lt (zi (g := gb259) (o := .cells #[.int .i64 a0_0, .int .i64 a0_1, .slice A0_2 l0_2.length c0_2, .slice A0_3 l0_3.length c0_3] 29 (0, 0)) (by (with_reducible repeat (first | refine z5 ?_ _ | refine z8 ?_ | refine z4 ?_ _)); exact BK259.out)) : gb259 ≠ gb288)); have n12_ := Aside0.mk ((by rw [hg]; exact Nat.ne_of_gt (zi (g := gb259) (o := .cells #[.int .i64 a0_0, .int .i64 a0_1, .slice A0_2 l0_2.length c0_2, .slice A0_3 l0_3.length c0_3] 29 (0, 0)) (by (with_reducible repeat (first | refine z5 ?_ _ | refine z8 ?_ | refine z4 ?_ _)); exact BK259.out)) : gb288 ≠ gb259)); have n13_ := Aside0.mk ((by rw [hg]; exact Nat.ne_of_lt (zi (g := gb260) (o := .cells #[.int .i64 a1_0, .bool a1_1, .bool a1_2, .bool a1_3] 31 (0, 0)) (by (with_reducible repeat (first | refine z5 ?_ _ | refine z8 ?_ | refine z4 ?_ _)); exact BK260.out)) : gb260 ≠ gb288)); have n14_ := Aside0.mk ((by rw [hg]; exact Nat.ne_of_gt (zi (g := gb260) (o := .cells #[.int .i64 a1_0, .bool a1_1, .bool a1_2, .bool a1_3] 31 (0, 0)) (by (with_reducible repeat (first | refine z5 ?_ _ | refine z8 ?_ | refine z4 ?_ _)); exact BK260.out)) : gb288 ≠ gb260)); have n15_ := Aside0.mk ((by rw [hg]; exact Nat.ne_of_lt (zi (g := gb279) (o := .cells #[.int .i64 t274, .int .i64 t275, .int .i64 t276] 34 (0, 0)) (by (with_reducible repeat (first | refine z5 ?_ _ | refine z8 ?_ | refine z4 ?_ _)); exact BK279.out)) : gb279 ≠ gb288)); have n16_ := Aside0.mk ((by rw [hg]; exact Nat.ne_of_gt (zi (g := gb279) (o := .cells #[.int .i64 t274, .int .i64 t275, .int .i64 t276] 34 (0, 0)) (by (with_reducible repeat (first | refine z5 ?_ _ | refine z8 ?_ | refine z4 ?_ _)); exact BK279.out)) : gb288 ≠ gb279)); clear HO266; clear HO269; clear HO284; clear HO287; clear BK259; clear BK260; clear BK279; clear HB; have HO266 := n0_; have HO269 := n1_; have HO284 := n2_; have HO287 := n3_; have BK259 := n4_; have BK260 := n5_; have BK279 := n6_; have HB := n7_; have BK288 := n8_; have GW288 := n9_; have GE288 := n10_; have NB259_288 := n11_; have NB288_259 := n12_; have NB260_288 := n13_; have NB288_260 := n14_; have NB279_288 := n15_; have NB288_279 := n16_; clear n0_ n1_ n2_ n3_ n4_ n5_ n6_ n7_ n8_ n9_ n10_ n11_ n12_ n13_ n14_ n15_ n16_; clear hb hbox hg; have hnb41 := NB288_259.out; have hnc41 := NB259_288.out; have hnb42 := NB288_260.out; have hnc42 := NB260_288.out; have hnb43 := NB288_279.out; have hnc43 := NB279_288.out; have hcz44_0 : w40.cell? ⟨gb288, 0, none⟩ = some (.int .i64 0) := (z3 BK288.out 0).trans rfl; have hcz44_1 : w40.cell? ⟨gb288, 1, none⟩ = some (.int .i64 0) := (z3 BK288.out 1).trans rfl; have hcz44_2 : w40.cell? ⟨gb288, 2, none⟩ = some (.slice none 0 0) := (z3 BK288.out 2).trans rfl; have hcz44_3 : w40.cell? ⟨gb288, 3, none⟩ = some (.slice none 0 0) := (z3 BK288.out 3).trans rfl; have hfz44_0 := z9 BK288.out 0; have hfz44_1 := z9 BK288.out 1; have hfz44_2 := z9 BK288.out 2; have hfz44_3 := z9 BK288.out 3; obtain ⟨Ao45, co45, eo45⟩ := Kd.R_slice HO284.out; subst eo45; obtain ⟨Ao46, co46, eo46⟩ := Kd.R_slice HO287.out; subst eo46))
   have n0_ : Aside0 (Kd.R (Kd.int .i64) 3 ((((w40.setCell ⟨gb288, 0, none⟩ (.int .i64 t280)).setCell ⟨gb288, 1, none⟩ (.int .i64 t281)).setCell ⟨gb288, 2, none⟩ (.slice Ao45 t282.length co45)).setCell ⟨gb288, 3, none⟩ (.slice Ao46 t285.length co46)) w.heap.size (fun k_ => some k_ ≠ (v268 : Value).ownBlock ∧ some k_ ≠ (.slice Ao45 t282.length co45 : Value).ownBlock ∧ some k_ ≠ (.slice Ao46 t285.length co46 : Value).ownBlock) v265 t264) := ⟨by (with_reducible repeat (first | apply Kd.R_alloc | apply Kd.R_drewN | apply Kd.R_drew)); exact Kd.R_mono (Kd.R_far (p := ⟨gb288, 3, none⟩) (Kd.R_far (p := ⟨gb288, 2, none⟩) (Kd.R_far (p := ⟨gb288, 1, none⟩) (Kd.R_far (p := ⟨gb288, 0, none⟩) (Kd.R_types HO266.out BK288.out (by decide)) (fun _ hk => hk.2) (.int .i64 t280)) (fun _ hk => hk.2) (.int .i64 t281)) (fun _ hk => hk.2) (.slice Ao45 t282.length co45)) (fun _ hk => hk.2) (.slice Ao46 t285.length co46)) (fun _ hk => ⟨hk.1.1.1, ⟨hk.1.1.2, hk.1.2⟩⟩)⟩
   have n1_ : Aside0 (Kd.R (Kd.int .i64) 3 ((((w40.setCell ⟨gb288, 0, none⟩ (.int .i64 t280)).setCell ⟨gb288, 1, none⟩ (.int .i64 t281)).setCell ⟨gb288, 2, none⟩ (.slice Ao45 t282.length co45)).setCell ⟨gb288, 3, none⟩ (.slice Ao46 t285.length co46)) w.heap.size (fun k_ => some k_ ≠ (v265 : Value).ownBlock ∧ some k_ ≠ (.slice Ao45 t282.length co45 : Value).ownBlock ∧ some k_ ≠ (.slice Ao46 t285.length co46 : Value).ownBlock) v268 t267) := ⟨by (with_reducible repeat (first | apply Kd.R_alloc | apply Kd.R_drewN | apply Kd.R_drew)); exact Kd.R_mono (Kd.R_far (p := ⟨gb288, 3, none⟩) (Kd.R_far (p := ⟨gb288, 2, none⟩) (Kd.R_far (p := ⟨gb288, 1, none⟩) (Kd.R_far (p := ⟨gb288, 0, none⟩) (Kd.R_types HO269.out BK288.out (by decide)) (fun _ hk => hk.2) (.int .i64 t280)) (fun _ hk => hk.2) (.int .i64 t281)) (fun _ hk => hk.2) (.slice Ao45 t282.length co45)) (fun _ hk => hk.2) (.slice Ao46 t285.length co46)) (fun _ hk => ⟨hk.1.1.1, ⟨hk.1.1.2, hk.1.2⟩⟩)⟩
   have n2_ : Aside0 (Kd.R (Kd.int .i64) 3 ((((w40.setCell ⟨gb288, 0, none⟩ (.int .i64 t280)).setCell ⟨gb288, 1, none⟩ (.int .i64 t281)).setCell ⟨gb288, 2, none⟩ (.slice Ao45 t282.length co45)).setCell ⟨gb288, 3, none⟩ (.slice Ao46 t285.length co46)) w.heap.size (fun k_ => some k_ ≠ (v265 : Value).ownBlock ∧ some k_ ≠ (v268 : Value).ownBlock ∧ some k_ ≠ (.slice Ao46 t285.length co46 : Value).ownBlock) (.slice Ao45 t282.length co45) t282) := ⟨by (with_reducible repeat (first | apply Kd.R_alloc | apply Kd.R_drewN | apply Kd.R_drew)); exact Kd.R_mono (Kd.R_far (p := ⟨gb288, 3, none⟩) (Kd.R_far (p := ⟨gb288, 2, none⟩) (Kd.R_far (p := ⟨gb288, 1, none⟩) (Kd.R_far (p := ⟨gb288, 0, none⟩) (Kd.R_types HO284.out BK288.out (by decide)) (fun _ hk => hk.2) (.int .i64 t280)) (fun _ hk => hk.2) (.int .i64 t281)) (fun _ hk => hk.2) (.slice Ao45 t282.length co45)) (fun _ hk => hk.2) (.slice Ao46 t285.length co46)) (fun _ hk => ⟨hk.1.1.2, ⟨hk.1.2, hk.1.1.1⟩⟩)⟩
   have n3_ : Aside0 (Kd.R (Kd.int .i64) 3 ((((w40.setCell ⟨gb288, 0, none⟩ (.int .i64 t280)).setCell ⟨gb288, 1, none⟩ (.int .i64 t281)).setCell ⟨gb288, 2, none⟩ (.slice Ao45 t282.length co45)).setCell ⟨gb288, 3, none⟩ (.slice Ao46 t285.length co46)) w.heap.size (fun k_ => some k_ ≠ (v265 : Value).ownBlock ∧ some k_ ≠ (v268 : Value).ownBlock ∧ some k_ ≠ (.slice Ao45 t282.length co45 : Value).ownBlock) (.slice Ao46 t285.length co46) t285) := ⟨by (with_reducible repeat (first | apply Kd.R_alloc | apply Kd.R_drewN | apply Kd.R_drew)); exact Kd.R_mono (Kd.R_far (p := ⟨gb288, 3, none⟩) (Kd.R_far (p := ⟨gb288, 2, none⟩) (Kd.R_far (p := ⟨gb288, 1, none⟩) (Kd.R_far (p := ⟨gb288, 0, none⟩) (Kd.R_types HO287.out BK288.out (by decide)) (fun _ hk => hk.2) (.int .i64 t280)) (fun _ hk => hk.2) (.int .i64 t281)) (fun _ hk => hk.2) (.slice Ao45 t282.length co45)) (fun _ hk => hk.2) (.slice Ao46 t285.length co46)) (fun _ hk => ⟨hk.1.1.2, ⟨hk.1.2, hk.1.1.1⟩⟩)⟩
   have n4_ : Aside0 (((((w40.setCell ⟨gb288, 0, none⟩ (.int .i64 t280)).setCell ⟨gb288, 1, none⟩ (.int .i64 t281)).setCell ⟨gb288, 2, none⟩ (.slice Ao45 t282.length co45)).setCell ⟨gb288, 3, none⟩ (.slice Ao46 t285.length co46)).heap[gb259]? = some (.cells #[.int .i64 a0_0, .int .i64 a0_1, .slice A0_2 l0_2.length c0_2, .slice A0_3 l0_3.length c0_3] 29 (0, 0))) := ⟨by (with_reducible repeat (first | refine z5 ?_ _ | refine z8 ?_ | refine z4 ?_ _)); refine zk ?_ NB259_288.out _; (with_reducible repeat (first | refine z5 ?_ _ | refine z8 ?_ | refine z4 ?_ _)); refine zk ?_ NB259_288.out _; (with_reducible repeat (first | refine z5 ?_ _ | refine z8 ?_ | refine z4 ?_ _)); refine zk ?_ NB259_288.out _; (with_reducible repeat (first | refine z5 ?_ _ | refine z8 ?_ | refine z4 ?_ _)); refine zk ?_ NB259_288.out _; (with_reducible repeat (first | refine z5 ?_ _ | refine z8 ?_ | refine z4 ?_ _)); exact BK259.out⟩
   have n5_ : Aside0 (((((w40.setCell ⟨gb288, 0, none⟩ (.int .i64 t280)).setCell ⟨gb288, 1, none⟩ (.int .i64 t281)).setCell ⟨gb288, 2, none⟩ (.slice Ao45 t282.length co45)).setCell ⟨gb288, 3, none⟩ (.slice Ao46 t285.length co46)).heap[gb260]? = some (.cells #[.int .i64 a1_0, .bool a1_1, .bool a1_2, .bool a1_3] 31 (0, 0))) := ⟨by (with_reducible repeat (first | refine z5 ?_ _ | refine z8 ?_ | refine z4 ?_ _)); refine zk ?_ NB260_288.out _; (with_reducible repeat (first | refine z5 ?_ _ | refine z8 ?_ | refine z4 ?_ _)); refine zk ?_ NB260_288.out _; (with_reducible repeat (first | refine z5 ?_ _ | refine z8 ?_ | refine z4 ?_ _)); refine zk ?_ NB260_288.out _; (with_reducible repeat (first | refine z5 ?_ _ | refine z8 ?_ | refine z4 ?_ _)); refine zk ?_ NB260_288.out _; (with_reducible repeat (first | refine z5 ?_ _ | refine z8 ?_ | refine z4 ?_ _)); exact BK260.out⟩
   have n6_ : Aside0 (((((w40.setCell ⟨gb288, 0, none⟩ (.int .i64 t280)).setCell ⟨gb288, 1, none⟩ (.int .i64 t281)).setCell ⟨gb288, 2, none⟩ (.slice Ao45 t282.length co45)).setCell ⟨gb288, 3, none⟩ (.slice Ao46 t285.length co46)).heap[gb279]? = some (.cells #[.int .i64 t274, .int .i64 t275, .int .i64 t276] 34 (0, 0))) := ⟨by (with_reducible repeat (first | refine z5 ?_ _ | refine z8 ?_ | refine z4 ?_ _)); refine zk ?_ NB279_288.out _; (with_reducible repeat (first | refine z5 ?_ _ | refine z8 ?_ | refine z4 ?_ _)); refine zk ?_ NB279_288.out _; (with_reducible repeat (first | refine z5 ?_ _ | refine z8 ?_ | refine z4 ?_ _)); refine zk ?_ NB279_288.out _; (with_reducible repeat (first | refine z5 ?_ _ | refine z8 ?_ | refine z4 ?_ _)); refine zk ?_ NB279_288.out _; (with_reducible repeat (first | refine z5 ?_ _ | refine z8 ?_ | refine z4 ?_ _)); exact BK279.out⟩
   have n7_ : Aside0 (((((w40.setCell ⟨gb288, 0, none⟩ (.int .i64 t280)).setCell ⟨gb288, 1, none⟩ (.int .i64 t281)).setCell ⟨gb288, 2, none⟩ (.slice Ao45 t282.length co45)).setCell ⟨gb288, 3, none⟩ (.slice Ao46 t285.length co46)).heap[gb288]? = some (.cells #[.int .i64 t280, .int .i64 t281, .slice Ao45 t282.length co45, .slice Ao46 t285.length co46] 37 (0, 0))) := ⟨by (with_reducible repeat (first | refine z5 ?_ _ | refine z8 ?_ | refine z4 ?_ _)); refine zo (cs := #[.int .i64 t280, .int .i64 t281, .slice Ao45 t282.length co45, .slice none 0 0]) ?_ 3 _ rfl; (with_reducible repeat (first | refine z5 ?_ _ | refine z8 ?_ | refine z4 ?_ _)); refine zo (cs := #[.int .i64 t280, .int .i64 t281, .slice none 0 0, .slice none 0 0]) ?_ 2 _ rfl; (with_reducible repeat (first | refine z5 ?_ _ | refine z8 ?_ | refine z4 ?_ _)); refine zo (cs := #[.int .i64 t280, .int .i64 0, .slice none 0 0, .slice none 0 0]) ?_ 1 _ rfl; (with_reducible repeat (first | refine z5 ?_ _ | refine z8 ?_ | refine z4 ?_ _)); refine zo (cs := #[.int .i64 0, .int .i64 0, .slice none 0 0, .slice none 0 0]) ?_ 0 _ rfl; (with_reducible repeat (first | refine z5 ?_ _ | refine z8 ?_ | refine z4 ?_ _)); exact BK288.out⟩
   have n8_ : Aside0 (Below w.heap.size w ((((w40.setCell ⟨gb288, 0, none⟩ (.int .i64 t280)).setCell ⟨gb288, 1, none⟩ (.int .i64 t281)).setCell ⟨gb288, 2, none⟩ (.slice Ao45 t282.length co45)).setCell ⟨gb288, 3, none⟩ (.slice Ao46 t285.length co46))) := ⟨by repeat (first | (with_reducible first | exact HB.out | apply z7 | apply z1 | apply z6 | refine z2 ?_ GE259.out | refine z2 ?_ GE260.out | refine z2 ?_ GE279.out | refine z2 ?_ GE288.out) | exact HB.out)⟩
   (try clear HO266)
   (try clear HO269)
   (try clear HO284)
   (try clear HO287)
   (try clear BK259)
   (try clear BK260)
   (try clear BK279)
   (try clear BK288)
   (try clear HB)
   generalize ((((w40.setCell ⟨gb288, 0, none⟩ (.int .i64 t280)).setCell ⟨gb288, 1, none⟩ (.int .i64 t281)).setCell ⟨gb288, 2, none⟩ (.slice Ao45 t282.length co45)).setCell ⟨gb288, 3, none⟩ (.slice Ao46 t285.length co46)) = w47 at n0_ n1_ n2_ n3_ n4_ n5_ n6_ n7_ n8_ ⊢
   have HO266 := n0_
   have HO269 := n1_
   have HO284 := n2_
   have HO287 := n3_
   have BK259 := n4_
   have BK260 := n5_
   have BK279 := n6_
   have BK288 := n7_
   have HB := n8_
   clear n0_ n1_ n2_ n3_ n4_ n5_ n6_ n7_ n8_
   have n0_ := Aside0.mk (Kd.R_drew HO266.out)
   have n1_ := Aside0.mk (Kd.R_drew HO269.out)
   have n2_ := Aside0.mk (Kd.R_drew HO284.out)
   have n3_ := Aside0.mk (Kd.R_drew HO287.out)
   have n4_ := Aside0.mk (z8 BK259.out)
   have n5_ := Aside0.mk (z8 BK260.out)
   have n6_ := Aside0.mk (z8 BK279.out)
   have n7_ := Aside0.mk (z8 BK288.out)
   have n8_ := Aside0.mk (z6 HB.out)
   clear HO266
   clear HO269
   clear HO284
   clear HO287
   clear BK259
   clear BK260
   clear BK279
   clear BK288
   clear HB
   have HO266 := n0_
   have HO269 := n1_
   have HO284 := n2_
   have HO287 := n3_
   have BK259 := n4_
   have BK260 := n5_
   have BK279 := n6_
   have BK288 := n7_
   have HB := n8_
   clear n0_ n1_ n2_ n3_ n4_ n5_ n6_ n7_ n8_
   refine z91 (n := 13) (S := fun w' => w'.cell? ⟨gb288, 0, none⟩ = some (.int .i64 t280) ∧ w'.cell? ⟨gb288, 1, none⟩ = some (.int .i64 t281) ∧ w'.cell? ⟨gb288, 2, none⟩ = some (.slice Ao45 t282.length co45) ∧ w'.cell? ⟨gb288, 3, none⟩ = some (.slice Ao46 t285.length co46) ∧ w'.cell? ⟨gb260, 0, none⟩ = some (.int .i64 a1_0) ∧ w'.cell? ⟨gb260, 1, none⟩ = some (.bool a1_1) ∧ w'.cell? ⟨gb260, 2, none⟩ = some (.bool a1_2) ∧ w'.cell? ⟨gb260, 3, none⟩ = some (.bool a1_3)) (ds := []) #[false, false, false, false, false, false, false, false, false, false, false, false, false] (by kernel_rfl) rfl rfl ⟨(z3 BK288.out 0).trans rfl, (z3 BK288.out 1).trans rfl, (z3 BK288.out 2).trans rfl, (z3 BK288.out 3).trans rfl, (z3 BK260.out 0).trans rfl, (z3 BK260.out 1).trans rfl, (z3 BK260.out 2).trans rfl, (z3 BK260.out 3).trans rfl⟩ (fun hHeld => ?_); refine zy laws_FnExactReadHead.tab9 laws_FnExactReadHead.bits9 (fun HT_ HW_ => ?_)
   generalize w47.drew = w48 at HO266 HO269 HO284 HO287 BK259 BK260 BK279 BK288 HB hHeld ⊢
   refine zh (i := 3) (N := some 39) (v := ?_) (a' := ?_) #[false, false, false, true, false, false, false, false, false, false, false, false, false] rfl rfl (zd HT_.out (by kernel_rfl)) (fun _ _ _ h => h) (Or.inl ⟨by rfl, ?_⟩) ?_ ?_
   rotate_left
   ·intro w'
    go_simp
    with_reducible rfl
   rotate_left
   ·simp only [Act.put, List.setIfInBounds_toArray, List.set_cons_zero, List.set_cons_succ, ze, zf]
    rfl
   refine take_ (i := 0) (N := some 36) (v := ?_) (a' := ?_) #[true, false, false, true, false, false, false, false, false, false, false, false, false] rfl rfl (zn HT_.out HW_.out (by kernel_rfl)) (fun _ _ _ h => h) (Or.inl ⟨by rfl, ?_⟩) hHeld ?_ ?_
   rotate_left
   ·rintro w' ⟨s0, s1, s2, s3, s4, s5, s6, s7⟩
    go_simp
    with_reducible rfl
   rotate_left
   ·simp only [Act.put, List.setIfInBounds_toArray, List.set_cons_zero, List.set_cons_succ, ze, zf]
    rfl
   refine take_ (i := 1) (N := some 37) (v := ?_) (a' := ?_) #[true, true, false, true, false, false, false, false, false, false, false, false, false] rfl rfl (zn HT_.out HW_.out (by kernel_rfl)) (fun _ _ _ h => h) (Or.inl ⟨by rfl, ?_⟩) hHeld ?_ ?_
   rotate_left
   ·rintro w' ⟨s0, s1, s2, s3, s4, s5, s6, s7⟩
    go_simp
    with_reducible rfl
   rotate_left
   ·simp only [Act.put, List.setIfInBounds_toArray, List.set_cons_zero, List.set_cons_succ, ze, zf]
    rfl
   refine join_ (σ := Nat) 3 #[true, true, true, true, true, true, true, true, true, true, false, false, false] (fun s_ => [(38, .agg #[.int .i64 t289, .bool t290, .bool t291, .bool t292]), (40, .tuple #[.agg #[.int .i64 t293, .int .i64 t294, .int .i64 t295], .int .i64 t296, .bool t297]), (12, .pointer (some ⟨s_, 0, none⟩)), (35, .tuple #[.agg #[.int .i64 t293, .int .i64 t294, .int .i64 t295], .int .i64 t296, .bool t297]), (41, .agg #[.int .i64 t293, .int .i64 t294, .int .i64 t295]), (42, .int .i64 t296), (43, .bool t297)]) (fun s_ w' => (w'.cell? ⟨gb288, 0, none⟩ = some (.int .i64 t280) ∧ w'.cell? ⟨gb288, 1, none⟩ = some (.int .i64 t281) ∧ w'.cell? ⟨gb288, 2, none⟩ = some (.slice Ao45 t282.length co45) ∧ w'.cell? ⟨gb288, 3, none⟩ = some (.slice Ao46 t285.length co46) ∧ w'.cell? ⟨gb260, 0, none⟩ = some (.int .i64 a1_0) ∧ w'.cell? ⟨gb260, 1, none⟩ = some (.bool a1_1) ∧ w'.cell? ⟨gb260, 2, none⟩ = some (.bool a1_2) ∧ w'.cell? ⟨gb260, 3, none⟩ = some (.bool a1_3)) ∧ (Kd.R (Kd.int .i64) 3 w' w.heap.size (fun k_ => some k_ ≠ (v268 : Value).ownBlock ∧ some k_ ≠ (.slice Ao45 t282.length co45 : Value).ownBlock ∧ some k_ ≠ (.slice Ao46 t285.length co46 : Value).ownBlock) v265 t264) ∧ (Kd.R (Kd.int .i64) 3 w' w.heap.size (fun k_ => some k_ ≠ (v265 : Value).ownBlock ∧ some k_ ≠ (.slice Ao45 t282.length co45 : Value).ownBlock ∧ some k_ ≠ (.slice Ao46 t285.length co46 : Value).ownBlock) v268 t267) ∧ (Kd.R (Kd.int .i64) 3 w' w.heap.size (fun k_ => some k_ ≠ (v265 : Value).ownBlock ∧ some k_ ≠ (v268 : Value).ownBlock ∧ some k_ ≠ (.slice Ao46 t285.length co46 : Value).ownBlock) (.slice Ao45 t282.length co45) t282) ∧ (Kd.R (Kd.int .i64) 3 w' w.heap.size (fun k_ => some k_ ≠ (v265 : Value).ownBlock ∧ some k_ ≠ (v268 : Value).ownBlock ∧ some k_ ≠ (.slice Ao45 t282.length co45 : Value).ownBlock) (.slice Ao46 t285.length co46) t285) ∧ (w'.heap[gb259]? = some (.cells #[.int .i64 a0_0, .int .i64 a0_1, .slice A0_2 l0_2.length c0_2, .slice A0_3 l0_3.length c0_3] 29 (0, 0))) ∧ (w'.heap[gb260]? = some (.cells #[.int .i64 a1_0, .bool a1_1, .bool a1_2, .bool a1_3] 31 (0, 0))) ∧ (w'.heap[gb279]? = some (.cells #[.int .i64 t274, .int .i64 t275, .int .i64 t276] 34 (0, 0))) ∧ (w'.heap[gb288]? = some (.cells #[.int .i64 t280, .int .i64 t281, .slice Ao45 t282.length co45, .slice Ao46 t285.length co46] 37 (0, 0))) ∧ (w'.heap[s_]? = some (.cells #[.int .i64 0, .int .i64 0, .int .i64 0] 34 (0, 0))) ∧ (w.heap.size ≤ s_) ∧ (w.heap.size ≤ s_) ∧ (gb259 ≠ s_) ∧ (s_ ≠ gb259) ∧ (gb260 ≠ s_) ∧ (s_ ≠ gb260) ∧ (gb279 ≠ s_) ∧ (s_ ≠ gb279) ∧ (gb288 ≠ s_) ∧ (s_ ≠ gb288) ∧ (Below w.heap.size w w')) ?_ ?_
   rotate_left
   ·intro hCont
    refine two_ (i := 2) (j := 9) (Ni := some 38) (Nj := some 12) #[true, true, true, true, false, false, false, false, false, false, false, false, false] #[true, true, false, true, false, false, false, false, false, true, false, false, false] rfl rfl rfl rfl (two_of HT_.out (by kernel_rfl)) (by decide) (by decide) (fun K hK => ?_) (fun K hK => ?_)
    ·skip
     refine zx Try.func22 (by kernel_rfl) rfl #[.agg #[.int .i64 a1_0, .bool a1_1, .bool a1_2, .bool a1_3]] (by rfl) rfl rfl (by (try simp only [List.map_toArray, List.map_cons, List.map_nil]); first | done | rfl | (simp only [List.length_drop, List.length_take]; rfl)) ?_
     with_reducible refine (laws_toPar.calls a1_0 a1_1 a1_2 a1_3 t289 t290 t291 t292 _ A18.out).mono ?_
     rintro e w49 ⟨rfl, hb⟩
     refine ⟨_, rfl, ?_⟩
     have n0_ := Aside0.mk (Kd.R_below (by (with_reducible repeat (first | apply Kd.R_alloc | apply Kd.R_drewN | apply Kd.R_drew)); exact HO266.out) hb)
     have n1_ := Aside0.mk (Kd.R_below (by (with_reducible repeat (first | apply Kd.R_alloc | apply Kd.R_drewN | apply Kd.R_drew)); exact HO269.out) hb)
     have n2_ := Aside0.mk (Kd.R_below (by (with_reducible repeat (first | apply Kd.R_alloc | apply Kd.R_drewN | apply Kd.R_drew)); exact HO284.out) hb)
     have n3_ := Aside0.mk (Kd.R_below (by (with_reducible repeat (first | apply Kd.R_alloc | apply Kd.R_drewN | apply Kd.R_drew)); exact HO287.out) hb)
     have n4_ := Aside0.mk (za (g := gb259) (o := .cells #[.int .i64 a0_0, .int .i64 a0_1, .slice A0_2 l0_2.length c0_2, .slice A0_3 l0_3.length c0_3] 29 (0, 0)) (by (with_reducible repeat (first | refine z5 ?_ _ | refine z8 ?_ | refine z4 ?_ _)); exact BK259.out) hb)
     have n5_ := Aside0.mk (za (g := gb260) (o := .cells #[.int .i64 a1_0, .bool a1_1, .bool a1_2, .bool a1_3] 31 (0, 0)) (by (with_reducible repeat (first | refine z5 ?_ _ | refine z8 ?_ | refine z4 ?_ _)); exact BK260.out) hb)
     have n6_ := Aside0.mk (za (g := gb279) (o := .cells #[.int .i64 t274, .int .i64 t275, .int .i64 t276] 34 (0, 0)) (by (with_reducible repeat (first | refine z5 ?_ _ | refine z8 ?_ | refine z4 ?_ _)); exact BK279.out) hb)
     have n7_ := Aside0.mk (za (g := gb288) (o := .cells #[.int .i64 t280, .int .i64 t281, .slice Ao45 t282.length co45, .slice Ao46 t285.length co46] 37 (0, 0)) (by (with_reducible repeat (first | refine z5 ?_ _ | refine z8 ?_ | refine z4 ?_ _)); exact BK288.out) hb)
     have n8_ := Aside0.mk (zc (by repeat (first | (with_reducible first | exact HB.out | apply z7 | apply z1 | apply z6 | refine z2 ?_ GE259.out | refine z2 ?_ GE260.out | refine z2 ?_ GE279.out | refine z2 ?_ GE288.out) | exact HB.out)) hb)
     clear HO266
     clear HO269
     clear HO284
     clear HO287
     clear BK259
     clear BK260
     clear BK279
     clear BK288
     clear HB
     have HO266 := n0_
     have HO269 := n1_
     have HO284 := n2_
     have HO287 := n3_
     have BK259 := n4_
     have BK260 := n5_
     have BK279 := n6_
     have BK288 := n7_
     have HB := n8_
     clear n0_ n1_ n2_ n3_ n4_ n5_ n6_ n7_ n8_
     (try clear hb)
     (try clear hb2)
     (try clear hk)
     (try clear hi)
     refine hK.out _ _ ⟨(z3 BK288.out 0).trans rfl, (z3 BK288.out 1).trans rfl, (z3 BK288.out 2).trans rfl, (z3 BK288.out 3).trans rfl, (z3 BK260.out 0).trans rfl, (z3 BK260.out 1).trans rfl, (z3 BK260.out 2).trans rfl, (z3 BK260.out 3).trans rfl⟩ (fun hHeld => ?_)
     clear hK K
     refine zw (a' := ?_) ?_ ?_
     rotate_left
     ·show Act.put _ (some 38) _ = _
      simp only [Act.put, List.setIfInBounds_toArray, List.set_cons_zero, List.set_cons_succ, ze, zf]
      rfl
     refine two_ (i := 4) (j := 9) (Ni := some 40) (Nj := some 12) #[true, true, true, true, true, false, false, false, false, false, false, false, false] #[true, true, true, true, false, false, false, false, false, true, false, false, false] rfl rfl rfl rfl (two_of HT_.out (by kernel_rfl)) (by decide) (by decide) (fun K hK => ?_) (fun K hK => ?_)
     ·skip
      refine zx Try.func23 (by kernel_rfl) rfl #[.agg #[.int .i64 t280, .int .i64 t281, .slice Ao45 t282.length co45, .slice Ao46 t285.length co46], .agg #[.int .i64 t289, .bool t290, .bool t291, .bool t292], .string a2] (by rfl) rfl rfl (by (try simp only [List.map_toArray, List.map_cons, List.map_nil]); first | done | rfl | (simp only [List.length_drop, List.length_take]; rfl)) ?_
      with_reducible refine (impl_ReadHead.calls k t280 t281 _ _ t282 _ _ t285 t289 t290 t291 t292 a2 t293 t294 t295 t296 t297 _ ?side1 ?side2 ?side3 ?side4 A19.out).mono ?_
      (case side1 => repeat (first | exact (Kd.R_reads' HO284.out).2.2 | (with_reducible refine Kd.C_alloc ?_ _) | (with_reducible refine Kd.C_drewN ?_ _) | (with_reducible refine Kd.C_drew ?_)))
      (case side2 => exact (Kd.R_reads' HO284.out).2.1)
      (case side3 => repeat (first | exact (Kd.R_reads' HO287.out).2.2 | (with_reducible refine Kd.C_alloc ?_ _) | (with_reducible refine Kd.C_drewN ?_ _) | (with_reducible refine Kd.C_drew ?_)))
      (case side4 => exact (Kd.R_reads' HO287.out).2.1)
      rintro e w50 ⟨rfl, hb⟩
      refine ⟨_, rfl, ?_⟩
      have n0_ := Aside0.mk (Kd.R_below (by (with_reducible repeat (first | apply Kd.R_alloc | apply Kd.R_drewN | apply Kd.R_drew)); exact HO266.out) hb)
      have n1_ := Aside0.mk (Kd.R_below (by (with_reducible repeat (first | apply Kd.R_alloc | apply Kd.R_drewN | apply Kd.R_drew)); exact HO269.out) hb)
      have n2_ := Aside0.mk (Kd.R_below (by (with_reducible repeat (first | apply Kd.R_alloc | apply Kd.R_drewN | apply Kd.R_drew)); exact HO284.out) hb)
      have n3_ := Aside0.mk (Kd.R_below (by (with_reducible repeat (first | apply Kd.R_alloc | apply Kd.R_drewN | apply Kd.R_drew)); exact HO287.out) hb)
      have n4_ := Aside0.mk (za (g := gb259) (o := .cells #[.int .i64 a0_0, .int .i64 a0_1, .slice A0_2 l0_2.length c0_2, .slice A0_3 l0_3.length c0_3] 29 (0, 0)) (by (with_reducible repeat (first | refine z5 ?_ _ | refine z8 ?_ | refine z4 ?_ _)); exact BK259.out) hb)
      have n5_ := Aside0.mk (za (g := gb260) (o := .cells #[.int .i64 a1_0, .bool a1_1, .bool a1_2, .bool a1_3] 31 (0, 0)) (by (with_reducible repeat (first | refine z5 ?_ _ | refine z8 ?_ | refine z4 ?_ _)); exact BK260.out) hb)
      have n6_ := Aside0.mk (za (g := gb279) (o := .cells #[.int .i64 t274, .int .i64 t275, .int .i64 t276] 34 (0, 0)) (by (with_reducible repeat (first | refine z5 ?_ _ | refine z8 ?_ | refine z4 ?_ _)); exact BK279.out) hb)
      have n7_ := Aside0.mk (za (g := gb288) (o := .cells #[.int .i64 t280, .int .i64 t281, .slice Ao45 t282.length co45, .slice Ao46 t285.length co46] 37 (0, 0)) (by (with_reducible repeat (first | refine z5 ?_ _ | refine z8 ?_ | refine z4 ?_ _)); exact BK288.out) hb)
      have n8_ := Aside0.mk (zc (by repeat (first | (with_reducible first | exact HB.out | apply z7 | apply z1 | apply z6 | refine z2 ?_ GE259.out | refine z2 ?_ GE260.out | refine z2 ?_ GE279.out | refine z2 ?_ GE288.out) | exact HB.out)) hb)
      clear HO266
      clear HO269
      clear HO284
      clear HO287
      clear BK259
      clear BK260
      clear BK279
      clear BK288
      clear HB
      have HO266 := n0_
      have HO269 := n1_
      have HO284 := n2_
      have HO287 := n3_
      have BK259 := n4_
      have BK260 := n5_
      have BK279 := n6_
      have BK288 := n7_
      have HB := n8_
      clear n0_ n1_ n2_ n3_ n4_ n5_ n6_ n7_ n8_
      (try clear hb)
      (try clear hb2)
      (try clear hk)
      (try clear hi)
      refine hK.out _ _ ⟨(z3 BK288.out 0).trans rfl, (z3 BK288.out 1).trans rfl, (z3 BK288.out 2).trans rfl, (z3 BK288.out 3).trans rfl, (z3 BK260.out 0).trans rfl, (z3 BK260.out 1).trans rfl, (z3 BK260.out 2).trans rfl, (z3 BK260.out 3).trans rfl⟩ (fun hHeld => ?_)
      clear hK K
      refine zw (a' := ?_) ?_ ?_
      rotate_left
      ·show Act.put _ (some 40) _ = _
       simp only [Act.put, List.setIfInBounds_toArray, List.set_cons_zero, List.set_cons_succ, ze, zf]
       rfl
      refine zh (i := 5) (N := some 35) (v := ?_) (a' := ?_) #[true, true, true, true, true, true, false, false, false, false, false, false, false] rfl rfl (zd HT_.out (by kernel_rfl)) (fun _ _ _ h => h) (Or.inl ⟨by rfl, ?_⟩) ?_ ?_
      rotate_left
      ·intro w'
       go_simp
       with_reducible rfl
      rotate_left
      ·simp only [Act.put, List.setIfInBounds_toArray, List.set_cons_zero, List.set_cons_succ, ze, zf]
       rfl
      refine zh (i := 6) (N := some 41) (v := ?_) (a' := ?_) #[true, true, true, true, true, true, true, false, false, false, false, false, false] rfl rfl (zd HT_.out (by kernel_rfl)) (fun _ _ _ h => h) (Or.inl ⟨by rfl, ?_⟩) ?_ ?_
      rotate_left
      ·intro w'
       go_simp
       with_reducible rfl
      rotate_left
      ·simp only [Act.put, List.setIfInBounds_toArray, List.set_cons_zero, List.set_cons_succ, ze, zf]
       rfl
      refine zh (i := 7) (N := some 42) (v := ?_) (a' := ?_) #[true, true, true, true, true, true, true, true, false, false, false, false, false] rfl rfl (zd HT_.out (by kernel_rfl)) (fun _ _ _ h => h) (Or.inl ⟨by rfl, ?_⟩) ?_ ?_
      rotate_left
      ·intro w'
       go_simp
       with_reducible rfl
      rotate_left
      ·simp only [Act.put, List.setIfInBounds_toArray, List.set_cons_zero, List.set_cons_succ, ze, zf]
       rfl
      refine zh (i := 8) (N := some 43) (v := ?_) (a' := ?_) #[true, true, true, true, true, true, true, true, true, false, false, false, false] rfl rfl (zd HT_.out (by kernel_rfl)) (fun _ _ _ h => h) (Or.inl ⟨by rfl, ?_⟩) ?_ ?_
      rotate_left
      ·intro w'
       go_simp
       with_reducible rfl
      rotate_left
      ·simp only [Act.put, List.setIfInBounds_toArray, List.set_cons_zero, List.set_cons_succ, ze, zf]
       rfl
      refine one_ (i := 9) (N := some 12) #[true, true, true, true, true, true, true, true, true, true, false, false, false] rfl rfl (zv HT_.out (by kernel_rfl)) (by decide) (fun K hK => ?_)
      refine zh1 ?hg (N := 12) ?hd (cs := #[.int .i64 0, .int .i64 0, .int .i64 0]) (t := 34) ?hr ?_; (case hd => rfl); (case hg => rfl); (case hr => first | (go_simp; done) | (go_simp; rfl))
      intro gb298 hg w51 hbox hb
      have n0_ := Aside0.mk (Kd.R_below (by (with_reducible repeat (first | apply Kd.R_alloc | apply Kd.R_drewN | apply Kd.R_drew)); exact HO266.out) hb)
      have n1_ := Aside0.mk (Kd.R_below (by (with_reducible repeat (first | apply Kd.R_alloc | apply Kd.R_drewN | apply Kd.R_drew)); exact HO269.out) hb)
      have n2_ := Aside0.mk (Kd.R_below (by (with_reducible repeat (first | apply Kd.R_alloc | apply Kd.R_drewN | apply Kd.R_drew)); exact HO284.out) hb)
      have n3_ := Aside0.mk (Kd.R_below (by (with_reducible repeat (first | apply Kd.R_alloc | apply Kd.R_drewN | apply Kd.R_drew)); exact HO287.out) hb)
      have n4_ := Aside0.mk (za (g := gb259) (o := .cells #[.int .i64 a0_0, .int .i64 a0_1, .slice A0_2 l0_2.length c0_2, .slice A0_3 l0_3.length c0_3] 29 (0, 0)) (by (with_reducible repeat (first | refine z5 ?_ _ | refine z8 ?_ | refine z4 ?_ _)); exact BK259.out) hb)
      have n5_ := Aside0.mk (za (g := gb260) (o := .cells #[.int .i64 a1_0, .bool a1_1, .bool a1_2, .bool a1_3] 31 (0, 0)) (by (with_reducible repeat (first | refine z5 ?_ _ | refine z8 ?_ | refine z4 ?_ _)); exact BK260.out) hb)
      have n6_ := Aside0.mk (za (g := gb279) (o := .cells #[.int .i64 t274, .int .i64 t275, .int .i64 t276] 34 (0, 0)) (by (with_reducible repeat (first | refine z5 ?_ _ | refine z8 ?_ | refine z4 ?_ _)); exact BK279.out) hb)
      have n7_ := Aside0.mk (za (g := gb288) (o := .cells #[.int .i64 t280, .int .i64 t281, .slice Ao45 t282.length co45, .slice Ao46 t285.length co46] 37 (0, 0)) (by (with_reducible repeat (first | refine z5 ?_ _ | refine z8 ?_ | refine z4 ?_ _)); exact BK288.out) hb)
      have n8_ := Aside0.mk (zc (by repeat (first | (with_reducible first | exact HB.out | apply z7 | apply z1 | apply z6 | refine z2 ?_ GE259.out | refine z2 ?_ GE260.out | refine z2 ?_ GE279.out | refine z2 ?_ GE288.out) | exact HB.out)) hb)
      have n9_ := Aside0.mk (hbox)
      have n10_ := Aside0.mk ((by rw [hg]; exact (zb (by repeat (first | (with_reducible first | exact HB.out | apply z7 | apply z1 | apply z6 | refine z2 ?_ GE259.out | refine z2 ?_ GE260.out | refine z2 ?_ GE279.out | refine z2 ?_ GE288.out) | exact HB.out))) : w.heap.size ≤ gb298))
      have n11_ := Aside0.mk ((by rw [hg]; exact (zb (by repeat (first | (with_reducible first | exact HB.out | apply z7 | apply z1 | apply z6 | refine z2 ?_ GE259.out | refine z2 ?_ GE260.out | refine z2 ?_ GE279.out | refine z2 ?_ GE288.out) | exact HB.out))) : w.heap.size ≤ gb298))
      have n12_ := Aside0.mk ((by rw [hg]; exact Nat.ne_of_lt (zi (g := gb259) (o := .cells #[.int .i64 a0_0, .int .i64 a0_1, .slice A0_2 l0_2.length c0_2, .slice A0_3 l0_3.length c0_3] 29 (0, 0)) (by (with_reducible repeat (first | refine z5 ?_ _ | refine z8 ?_ | refine z4 ?_ _)); exact BK259.out)) : gb259 ≠ gb298))
      have n13_ := Aside0.mk ((by rw [hg]; exact Nat.ne_of_gt (zi (g := gb259) (o := .cells #[.int .i64 a0_0, .int .i64 a0_1, .slice A0_2 l0_2.length c0_2, .slice A0_3 l0_3.length c0_3] 29 (0, 0)) (by (with_reducible repeat (first | refine z5 ?_ _ | refine z8 ?_ | refine z4 ?_ _)); exact BK259.out)) : gb298 ≠ gb259))
      have n14_ := Aside0.mk ((by rw [hg]; exact Nat.ne_of_lt (zi (g := gb260) (o := .cells #[.int .i64 a1_0, .bool a1_1, .bool a1_2, .bool a1_3] 31 (0, 0)) (by (with_reducible repeat (first | refine z5 ?_ _ | refine z8 ?_ | refine z4 ?_ _)); exact BK260.out)) : gb260 ≠ gb298))
      have n15_ := Aside0.mk ((by rw [hg]; exact Nat.ne_of_gt (zi (g := gb260) (o := .cells #[.int .i64 a1_0, .bool a1_1, .bool a1_2, .bool a1_3] 31 (0, 0)) (by (with_reducible repeat (first | refine z5 ?_ _ | refine z8 ?_ | refine z4 ?_ _)); exact BK260.out)) : gb298 ≠ gb260))
      have n16_ := Aside0.mk ((by rw [hg]; exact Nat.ne_of_lt (zi (g := gb279) (o := .cells #[.int .i64 t274, .int .i64 t275, .int .i64 t276] 34 (0, 0)) (by (with_reducible repeat (first | refine z5 ?_ _ | refine z8 ?_ | refine z4 ?_ _)); exact BK279.out)) : gb279 ≠ gb298))
      have n17_ := Aside0.mk ((by rw [hg]; exact Nat.ne_of_gt (zi (g := gb279) (o := .cells #[.int .i64 t274, .int .i64 t275, .int .i64 t276] 34 (0, 0)) (by (with_reducible repeat (first | refine z5 ?_ _ | refine z8 ?_ | refine z4 ?_ _)); exact BK279.out)) : gb298 ≠ gb279))
      have n18_ := Aside0.mk ((by rw [hg]; exact Nat.ne_of_lt (zi (g := gb288) (o := .cells #[.int .i64 t280, .int .i64 t281, .slice Ao45 t282.length co45, .slice Ao46 t285.length co46] 37 (0, 0)) (by (with_reducible repeat (first | refine z5 ?_ _ | refine z8 ?_ | refine z4 ?_ _)); exact BK288.out)) : gb288 ≠ gb298))
      have n19_ := Aside0.mk ((by rw [hg]; exact Nat.ne_of_gt (zi (g := gb288) (o := .cells #[.int .i64 t280, .int .i64 t281, .slice Ao45 t282.length co45, .slice Ao46 t285.length co46] 37 (0, 0)) (by (with_reducible repeat (first | refine z5 ?_ _ | refine z8 ?_ | refine z4 ?_ _)); exact BK288.out)) : gb298 ≠ gb288))
      clear HO266
      clear HO269
      clear HO284
      clear HO287
      clear BK259
      clear BK260
      clear BK279
      clear BK288
      clear HB
      have HO266 := n0_
      have HO269 := n1_
      have HO284 := n2_
      have HO287 := n3_
      have BK259 := n4_
      have BK260 := n5_
      have BK279 := n6_
      have BK288 := n7_
      have HB := n8_
      have BK298 := n9_
      have GW298 := n10_
      have GE298 := n11_
      have NB259_298 := n12_
      have NB298_259 := n13_
      have NB260_298 := n14_
      have NB298_260 := n15_
      have NB279_298 := n16_
      have NB298_279 := n17_
      have NB288_298 := n18_
      have NB298_288 := n19_
      clear n0_ n1_ n2_ n3_ n4_ n5_ n6_ n7_ n8_ n9_ n10_ n11_ n12_ n13_ n14_ n15_ n16_ n17_ n18_ n19_
      clear hb hbox hg
      refine hK.out _ _ ⟨(z3 BK288.out 0).trans rfl, (z3 BK288.out 1).trans rfl, (z3 BK288.out 2).trans rfl, (z3 BK288.out 3).trans rfl, (z3 BK260.out 0).trans rfl, (z3 BK260.out 1).trans rfl, (z3 BK260.out 2).trans rfl, (z3 BK260.out 3).trans rfl⟩ (fun hHeld => ?_)
      clear hK K
      refine zw (a' := ?_) ?_ ?_
      rotate_left
      ·show Act.put _ (some 12) _ = _
       simp only [Act.put, List.setIfInBounds_toArray, List.set_cons_zero, List.set_cons_succ, ze, zf]
       rfl
      exact zw (by simp only [zj1, Act.put, List.setIfInBounds_toArray, List.set_cons_zero, List.set_cons_succ]) (hCont (gb298) _ ⟨hHeld, (by (with_reducible repeat (first | apply Kd.R_alloc | apply Kd.R_drewN | apply Kd.R_drew)); exact HO266.out), (by (with_reducible repeat (first | apply Kd.R_alloc | apply Kd.R_drewN | apply Kd.R_drew)); exact HO269.out), (by (with_reducible repeat (first | apply Kd.R_alloc | apply Kd.R_drewN | apply Kd.R_drew)); exact HO284.out), (by (with_reducible repeat (first | apply Kd.R_alloc | apply Kd.R_drewN | apply Kd.R_drew)); exact HO287.out), (by (with_reducible repeat (first | refine z5 ?_ _ | refine z8 ?_ | refine z4 ?_ _)); exact BK259.out), (by (with_reducible repeat (first | refine z5 ?_ _ | refine z8 ?_ | refine z4 ?_ _)); exact BK260.out), (by (with_reducible repeat (first | refine z5 ?_ _ | refine z8 ?_ | refine z4 ?_ _)); exact BK279.out), (by (with_reducible repeat (first | refine z5 ?_ _ | refine z8 ?_ | refine z4 ?_ _)); exact BK288.out), (by (with_reducible repeat (first | refine z5 ?_ _ | refine z8 ?_ | refine z4 ?_ _)); exact BK298.out), GW298.out, GE298.out, NB259_298.out, NB298_259.out, NB260_298.out, NB298_260.out, NB279_298.out, NB298_279.out, NB288_298.out, NB298_288.out, (by repeat (first | (with_reducible first | exact HB.out | apply z7 | apply z1 | apply z6 | refine z2 ?_ GE259.out | refine z2 ?_ GE260.out | refine z2 ?_ GE279.out | refine z2 ?_ GE288.out | refine z2 ?_ GE298.out) | exact HB.out))⟩)
     ·skip
      refine zh1 ?hg (N := 12) ?hd (cs := #[.int .i64 0, .int .i64 0, .int .i64 0]) (t := 34) ?hr ?_; (case hd => rfl); (case hg => rfl); (case hr => first | (go_simp; done) | (go_simp; rfl))
      intro gb298 hg w50 hbox hb
      have n0_ := Aside0.mk (Kd.R_below (by (with_reducible repeat (first | apply Kd.R_alloc | apply Kd.R_drewN | apply Kd.R_drew)); exact HO266.out) hb)
      have n1_ := Aside0.mk (Kd.R_below (by (with_reducible repeat (first | apply Kd.R_alloc | apply Kd.R_drewN | apply Kd.R_drew)); exact HO269.out) hb)
      have n2_ := Aside0.mk (Kd.R_below (by (with_reducible repeat (first | apply Kd.R_alloc | apply Kd.R_drewN | apply Kd.R_drew)); exact HO284.out) hb)
      have n3_ := Aside0.mk (Kd.R_below (by (with_reducible repeat (first | apply Kd.R_alloc | apply Kd.R_drewN | apply Kd.R_drew)); exact HO287.out) hb)
      have n4_ := Aside0.mk (za (g := gb259) (o := .cells #[.int .i64 a0_0, .int .i64 a0_1, .slice A0_2 l0_2.length c0_2, .slice A0_3 l0_3.length c0_3] 29 (0, 0)) (by (with_reducible repeat (first | refine z5 ?_ _ | refine z8 ?_ | refine z4 ?_ _)); exact BK259.out) hb)
      have n5_ := Aside0.mk (za (g := gb260) (o := .cells #[.int .i64 a1_0, .bool a1_1, .bool a1_2, .bool a1_3] 31 (0, 0)) (by (with_reducible repeat (first | refine z5 ?_ _ | refine z8 ?_ | refine z4 ?_ _)); exact BK260.out) hb)
      have n6_ := Aside0.mk (za (g := gb279) (o := .cells #[.int .i64 t274, .int .i64 t275, .int .i64 t276] 34 (0, 0)) (by (with_reducible repeat (first | refine z5 ?_ _ | refine z8 ?_ | refine z4 ?_ _)); exact BK279.out) hb)
      have n7_ := Aside0.mk (za (g := gb288) (o := .cells #[.int .i64 t280, .int .i64 t281, .slice Ao45 t282.length co45, .slice Ao46 t285.length co46] 37 (0, 0)) (by (with_reducible repeat (first | refine z5 ?_ _ | refine z8 ?_ | refine z4 ?_ _)); exact BK288.out) hb)
      have n8_ := Aside0.mk (zc (by repeat (first | (with_reducible first | exact HB.out | apply z7 | apply z1 | apply z6 | refine z2 ?_ GE259.out | refine z2 ?_ GE260.out | refine z2 ?_ GE279.out | refine z2 ?_ GE288.out) | exact HB.out)) hb)
      have n9_ := Aside0.mk (hbox)
      have n10_ := Aside0.mk ((by rw [hg]; exact (zb (by repeat (first | (with_reducible first | exact HB.out | apply z7 | apply z1 | apply z6 | refine z2 ?_ GE259.out | refine z2 ?_ GE260.out | refine z2 ?_ GE279.out | refine z2 ?_ GE288.out) | exact HB.out))) : w.heap.size ≤ gb298))
      have n11_ := Aside0.mk ((by rw [hg]; exact (zb (by repeat (first | (with_reducible first | exact HB.out | apply z7 | apply z1 | apply z6 | refine z2 ?_ GE259.out | refine z2 ?_ GE260.out | refine z2 ?_ GE279.out | refine z2 ?_ GE288.out) | exact HB.out))) : w.heap.size ≤ gb298))
      have n12_ := Aside0.mk ((by rw [hg]; exact Nat.ne_of_lt (zi (g := gb259) (o := .cells #[.int .i64 a0_0, .int .i64 a0_1, .slice A0_2 l0_2.length c0_2, .slice A0_3 l0_3.length c0_3] 29 (0, 0)) (by (with_reducible repeat (first | refine z5 ?_ _ | refine z8 ?_ | refine z4 ?_ _)); exact BK259.out)) : gb259 ≠ gb298))
      have n13_ := Aside0.mk ((by rw [hg]; exact Nat.ne_of_gt (zi (g := gb259) (o := .cells #[.int .i64 a0_0, .int .i64 a0_1, .slice A0_2 l0_2.length c0_2, .slice A0_3 l0_3.length c0_3] 29 (0, 0)) (by (with_reducible repeat (first | refine z5 ?_ _ | refine z8 ?_ | refine z4 ?_ _)); exact BK259.out)) : gb298 ≠ gb259))
      have n14_ := Aside0.mk ((by rw [hg]; exact Nat.ne_of_lt (zi (g := gb260) (o := .cells #[.int .i64 a1_0, .bool a1_1, .bool a1_2, .bool a1_3] 31 (0, 0)) (by (with_reducible repeat (first | refine z5 ?_ _ | refine z8 ?_ | refine z4 ?_ _)); exact BK260.out)) : gb260 ≠ gb298))
      have n15_ := Aside0.mk ((by rw [hg]; exact Nat.ne_of_gt (zi (g := gb260) (o := .cells #[.int .i64 a1_0, .bool a1_1, .bool a1_2, .bool a1_3] 31 (0, 0)) (by (with_reducible repeat (first | refine z5 ?_ _ | refine z8 ?_ | refine z4 ?_ _)); exact BK260.out)) : gb298 ≠ gb260))
      have n16_ := Aside0.mk ((by rw [hg]; exact Nat.ne_of_lt (zi (g := gb279) (o := .cells #[.int .i64 t274, .int .i64 t275, .int .i64 t276] 34 (0, 0)) (by (with_reducible repeat (first | refine z5 ?_ _ | refine z8 ?_ | refine z4 ?_ _)); exact BK279.out)) : gb279 ≠ gb298))
      have n17_ := Aside0.mk ((by rw [hg]; exact Nat.ne_of_gt (zi (g := gb279) (o := .cells #[.int .i64 t274, .int .i64 t275, .int .i64 t276] 34 (0, 0)) (by (with_reducible repeat (first | refine z5 ?_ _ | refine z8 ?_ | refine z4 ?_ _)); exact BK279.out)) : gb298 ≠ gb279))
      have n18_ := Aside0.mk ((by rw [hg]; exact Nat.ne_of_lt (zi (g := gb288) (o := .cells #[.int .i64 t280, .int .i64 t281, .slice Ao45 t282.length co45, .slice Ao46 t285.length co46] 37 (0, 0)) (by (with_reducible repeat (first | refine z5 ?_ _ | refine z8 ?_ | refine z4 ?_ _)); exact BK288.out)) : gb288 ≠ gb298))
      have n19_ := Aside0.mk ((by rw [hg]; exact Nat.ne_of_gt (zi (g := gb288) (o := .cells #[.int .i64 t280, .int .i64 t281, .slice Ao45 t282.length co45, .slice Ao46 t285.length co46] 37 (0, 0)) (by (with_reducible repeat (first | refine z5 ?_ _ | refine z8 ?_ | refine z4 ?_ _)); exact BK288.out)) : gb298 ≠ gb288))
      clear HO266
      clear HO269
      clear HO284
      clear HO287
      clear BK259
      clear BK260
      clear BK279
      clear BK288
      clear HB
      have HO266 := n0_
      have HO269 := n1_
      have HO284 := n2_
      have HO287 := n3_
      have BK259 := n4_
      have BK260 := n5_
      have BK279 := n6_
      have BK288 := n7_
      have HB := n8_
      have BK298 := n9_
      have GW298 := n10_
      have GE298 := n11_
      have NB259_298 := n12_
      have NB298_259 := n13_
      have NB260_298 := n14_
      have NB298_260 := n15_
      have NB279_298 := n16_
      have NB298_279 := n17_
      have NB288_298 := n18_
      have NB298_288 := n19_
      clear n0_ n1_ n2_ n3_ n4_ n5_ n6_ n7_ n8_ n9_ n10_ n11_ n12_ n13_ n14_ n15_ n16_ n17_ n18_ n19_
      clear hb hbox hg
      refine hK.out _ _ ⟨(z3 BK288.out 0).trans rfl, (z3 BK288.out 1).trans rfl, (z3 BK288.out 2).trans rfl, (z3 BK288.out 3).trans rfl, (z3 BK260.out 0).trans rfl, (z3 BK260.out 1).trans rfl, (z3 BK260.out 2).trans rfl, (z3 BK260.out 3).trans rfl⟩ (fun hHeld => ?_)
      clear hK K
      refine zw (a' := ?_) ?_ ?_
      rotate_left
      ·show Act.put _ (some 12) _ = _
       simp only [Act.put, List.setIfInBounds_toArray, List.set_cons_zero, List.set_cons_succ, ze, zf]
       rfl
      refine one_ (i := 4) (N := some 40) #[true, true, true, true, true, false, false, false, false, true, false, false, false] rfl rfl (zv HT_.out (by kernel_rfl)) (by decide) (fun K hK => ?_)
      refine zx Try.func23 (by kernel_rfl) rfl #[.agg #[.int .i64 t280, .int .i64 t281, .slice Ao45 t282.length co45, .slice Ao46 t285.length co46], .agg #[.int .i64 t289, .bool t290, .bool t291, .bool t292], .string a2] (by rfl) rfl rfl (by (try simp only [List.map_toArray, List.map_cons, List.map_nil]); first | done | rfl | (simp only [List.length_drop, List.length_take]; rfl)) ?_
      with_reducible refine (impl_ReadHead.calls k t280 t281 _ _ t282 _ _ t285 t289 t290 t291 t292 a2 t293 t294 t295 t296 t297 _ ?side1 ?side2 ?side3 ?side4 A19.out).mono ?_
      (case side1 => repeat (first | exact (Kd.R_reads' HO284.out).2.2 | (with_reducible refine Kd.C_alloc ?_ _) | (with_reducible refine Kd.C_drewN ?_ _) | (with_reducible refine Kd.C_drew ?_)))
      (case side2 => exact (Kd.R_reads' HO284.out).2.1)
      (case side3 => repeat (first | exact (Kd.R_reads' HO287.out).2.2 | (with_reducible refine Kd.C_alloc ?_ _) | (with_reducible refine Kd.C_drewN ?_ _) | (with_reducible refine Kd.C_drew ?_)))
      (case side4 => exact (Kd.R_reads' HO287.out).2.1)
      rintro e w51 ⟨rfl, hb⟩
      refine ⟨_, rfl, ?_⟩
      have n0_ := Aside0.mk (Kd.R_below (by (with_reducible repeat (first | apply Kd.R_alloc | apply Kd.R_drewN | apply Kd.R_drew)); exact HO266.out) hb)
      have n1_ := Aside0.mk (Kd.R_below (by (with_reducible repeat (first | apply Kd.R_alloc | apply Kd.R_drewN | apply Kd.R_drew)); exact HO269.out) hb)
      have n2_ := Aside0.mk (Kd.R_below (by (with_reducible repeat (first | apply Kd.R_alloc | apply Kd.R_drewN | apply Kd.R_drew)); exact HO284.out) hb)
      have n3_ := Aside0.mk (Kd.R_below (by (with_reducible repeat (first | apply Kd.R_alloc | apply Kd.R_drewN | apply Kd.R_drew)); exact HO287.out) hb)
      have n4_ := Aside0.mk (za (g := gb259) (o := .cells #[.int .i64 a0_0, .int .i64 a0_1, .slice A0_2 l0_2.length c0_2, .slice A0_3 l0_3.length c0_3] 29 (0, 0)) (by (with_reducible repeat (first | refine z5 ?_ _ | refine z8 ?_ | refine z4 ?_ _)); exact BK259.out) hb)
      have n5_ := Aside0.mk (za (g := gb260) (o := .cells #[.int .i64 a1_0, .bool a1_1, .bool a1_2, .bool a1_3] 31 (0, 0)) (by (with_reducible repeat (first | refine z5 ?_ _ | refine z8 ?_ | refine z4 ?_ _)); exact BK260.out) hb)
      have n6_ := Aside0.mk (za (g := gb279) (o := .cells #[.int .i64 t274, .int .i64 t275, .int .i64 t276] 34 (0, 0)) (by (with_reducible repeat (first | refine z5 ?_ _ | refine z8 ?_ | refine z4 ?_ _)); exact BK279.out) hb)
      have n7_ := Aside0.mk (za (g := gb288) (o := .cells #[.int .i64 t280, .int .i64 t281, .slice Ao45 t282.length co45, .slice Ao46 t285.length co46] 37 (0, 0)) (by (with_reducible repeat (first | refine z5 ?_ _ | refine z8 ?_ | refine z4 ?_ _)); exact BK288.out) hb)
      have n8_ := Aside0.mk (za (g := gb298) (o := .cells #[.int .i64 0, .int .i64 0, .int .i64 0] 34 (0, 0)) (by (with_reducible repeat (first | refine z5 ?_ _ | refine z8 ?_ | refine z4 ?_ _)); exact BK298.out) hb)
      have n9_ := Aside0.mk (zc (by repeat (first | (with_reducible first | exact HB.out | apply z7 | apply z1 | apply z6 | refine z2 ?_ GE259.out | refine z2 ?_ GE260.out | refine z2 ?_ GE279.out | refine z2 ?_ GE288.out | refine z2 ?_ GE298.out) | exact HB.out)) hb)
      clear HO266
      clear HO269
      clear HO284
      clear HO287
      clear BK259
      clear BK260
      clear BK279
      clear BK288
      clear BK298
      clear HB
      have HO266 := n0_
      have HO269 := n1_
      have HO284 := n2_
      have HO287 := n3_
      have BK259 := n4_
      have BK260 := n5_
      have BK279 := n6_
      have BK288 := n7_
      have BK298 := n8_
      have HB := n9_
      clear n0_ n1_ n2_ n3_ n4_ n5_ n6_ n7_ n8_ n9_
      (try clear hb)
      (try clear hb2)
      (try clear hk)
      (try clear hi)
      refine hK.out _ _ ⟨(z3 BK288.out 0).trans rfl, (z3 BK288.out 1).trans rfl, (z3 BK288.out 2).trans rfl, (z3 BK288.out 3).trans rfl, (z3 BK260.out 0).trans rfl, (z3 BK260.out 1).trans rfl, (z3 BK260.out 2).trans rfl, (z3 BK260.out 3).trans rfl⟩ (fun hHeld => ?_)
      clear hK K
      refine zw (a' := ?_) ?_ ?_
      rotate_left
      ·show Act.put _ (some 40) _ = _
       simp only [Act.put, List.setIfInBounds_toArray, List.set_cons_zero, List.set_cons_succ, ze, zf]
       rfl
      refine zh (i := 5) (N := some 35) (v := ?_) (a' := ?_) #[true, true, true, true, true, true, false, false, false, true, false, false, false] rfl rfl (zd HT_.out (by kernel_rfl)) (fun _ _ _ h => h) (Or.inl ⟨by rfl, ?_⟩) ?_ ?_
      rotate_left
      ·intro w'
       go_simp
       with_reducible rfl
      rotate_left
      ·simp only [Act.put, List.setIfInBounds_toArray, List.set_cons_zero, List.set_cons_succ, ze, zf]
       rfl
      refine zh (i := 6) (N := some 41) (v := ?_) (a' := ?_) #[true, true, true, true, true, true, true, false, false, true, false, false, false] rfl rfl (zd HT_.out (by kernel_rfl)) (fun _ _ _ h => h) (Or.inl ⟨by rfl, ?_⟩) ?_ ?_
      rotate_left
      ·intro w'
       go_simp
       with_reducible rfl
      rotate_left
      ·simp only [Act.put, List.setIfInBounds_toArray, List.set_cons_zero, List.set_cons_succ, ze, zf]
       rfl
      refine zh (i := 7) (N := some 42) (v := ?_) (a' := ?_) #[true, true, true, true, true, true, true, true, false, true, false, false, false] rfl rfl (zd HT_.out (by kernel_rfl)) (fun _ _ _ h => h) (Or.inl ⟨by rfl, ?_⟩) ?_ ?_
      rotate_left
      ·intro w'
       go_simp
       with_reducible rfl
      rotate_left
      ·simp only [Act.put, List.setIfInBounds_toArray, List.set_cons_zero, List.set_cons_succ, ze, zf]
       rfl
      refine zh (i := 8) (N := some 43) (v := ?_) (a' := ?_) #[true, true, true, true, true, true, true, true, true, true, false, false, false] rfl rfl (zd HT_.out (by kernel_rfl)) (fun _ _ _ h => h) (Or.inl ⟨by rfl, ?_⟩) ?_ ?_
      rotate_left
      ·intro w'
       go_simp
       with_reducible rfl
      rotate_left
      ·simp only [Act.put, List.setIfInBounds_toArray, List.set_cons_zero, List.set_cons_succ, ze, zf]
       rfl
      exact zw (by simp only [zj1, Act.put, List.setIfInBounds_toArray, List.set_cons_zero, List.set_cons_succ]) (hCont (gb298) _ ⟨hHeld, (by (with_reducible repeat (first | apply Kd.R_alloc | apply Kd.R_drewN | apply Kd.R_drew)); exact HO266.out), (by (with_reducible repeat (first | apply Kd.R_alloc | apply Kd.R_drewN | apply Kd.R_drew)); exact HO269.out), (by (with_reducible repeat (first | apply Kd.R_alloc | apply Kd.R_drewN | apply Kd.R_drew)); exact HO284.out), (by (with_reducible repeat (first | apply Kd.R_alloc | apply Kd.R_drewN | apply Kd.R_drew)); exact HO287.out), (by (with_reducible repeat (first | refine z5 ?_ _ | refine z8 ?_ | refine z4 ?_ _)); exact BK259.out), (by (with_reducible repeat (first | refine z5 ?_ _ | refine z8 ?_ | refine z4 ?_ _)); exact BK260.out), (by (with_reducible repeat (first | refine z5 ?_ _ | refine z8 ?_ | refine z4 ?_ _)); exact BK279.out), (by (with_reducible repeat (first | refine z5 ?_ _ | refine z8 ?_ | refine z4 ?_ _)); exact BK288.out), (by (with_reducible repeat (first | refine z5 ?_ _ | refine z8 ?_ | refine z4 ?_ _)); exact BK298.out), GW298.out, GE298.out, NB259_298.out, NB298_259.out, NB260_298.out, NB298_260.out, NB279_298.out, NB298_279.out, NB288_298.out, NB298_288.out, (by repeat (first | (with_reducible first | exact HB.out | apply z7 | apply z1 | apply z6 | refine z2 ?_ GE259.out | refine z2 ?_ GE260.out | refine z2 ?_ GE279.out | refine z2 ?_ GE288.out | refine z2 ?_ GE298.out) | exact HB.out))⟩)
    ·skip
     refine zh1 ?hg (N := 12) ?hd (cs := #[.int .i64 0, .int .i64 0, .int .i64 0]) (t := 34) ?hr ?_; (case hd => rfl); (case hg => rfl); (case hr => first | (go_simp; done) | (go_simp; rfl))
     intro gb298 hg w49 hbox hb
     have n0_ := Aside0.mk (Kd.R_below (by (with_reducible repeat (first | apply Kd.R_alloc | apply Kd.R_drewN | apply Kd.R_drew)); exact HO266.out) hb)
     have n1_ := Aside0.mk (Kd.R_below (by (with_reducible repeat (first | apply Kd.R_alloc | apply Kd.R_drewN | apply Kd.R_drew)); exact HO269.out) hb)
     have n2_ := Aside0.mk (Kd.R_below (by (with_reducible repeat (first | apply Kd.R_alloc | apply Kd.R_drewN | apply Kd.R_drew)); exact HO284.out) hb)
     have n3_ := Aside0.mk (Kd.R_below (by (with_reducible repeat (first | apply Kd.R_alloc | apply Kd.R_drewN | apply Kd.R_drew)); exact HO287.out) hb)
     have n4_ := Aside0.mk (za (g := gb259) (o := .cells #[.int .i64 a0_0, .int .i64 a0_1, .slice A0_2 l0_2.length c0_2, .slice A0_3 l0_3.length c0_3] 29 (0, 0)) (by (with_reducible repeat (first | refine z5 ?_ _ | refine z8 ?_ | refine z4 ?_ _)); exact BK259.out) hb)
     have n5_ := Aside0.mk (za (g := gb260) (o := .cells #[.int .i64 a1_0, .bool a1_1, .bool a1_2, .bool a1_3] 31 (0, 0)) (by (with_reducible repeat (first | refine z5 ?_ _ | refine z8 ?_ | refine z4 ?_ _)); exact BK260.out) hb)
     have n6_ := Aside0.mk (za (g := gb279) (o := .cells #[.int .i64 t274, .int .i64 t275, .int .i64 t276] 34 (0, 0)) (by (with_reducible repeat (first | refine z5 ?_ _ | refine z8 ?_ | refine z4 ?_ _)); exact BK279.out) hb)
     have n7_ := Aside0.mk (za (g := gb288) (o := .cells #[.int .i64 t280, .int .i64 t281, .slice Ao45 t282.length co45, .slice Ao46 t285.length co46] 37 (0, 0)) (by (with_reducible repeat (first | refine z5 ?_ _ | refine z8 ?_ | refine z4 ?_ _)); exact BK288.out) hb)
     have n8_ := Aside0.mk (zc (by repeat (first | (with_reducible first | exact HB.out | apply z7 | apply z1 | apply z6 | refine z2 ?_ GE259.out | refine z2 ?_ GE260.out | refine z2 ?_ GE279.out | refine z2 ?_ GE288.out) | exact HB.out)) hb)
     have n9_ := Aside0.mk (hbox)
     have n10_ := Aside0.mk ((by rw [hg]; exact (zb (by repeat (first | (with_reducible first | exact HB.out | apply z7 | apply z1 | apply z6 | refine z2 ?_ GE259.out | refine z2 ?_ GE260.out | refine z2 ?_ GE279.out | refine z2 ?_ GE288.out) | exact HB.out))) : w.heap.size ≤ gb298))
     have n11_ := Aside0.mk ((by rw [hg]; exact (zb (by repeat (first | (with_reducible first | exact HB.out | apply z7 | apply z1 | apply z6 | refine z2 ?_ GE259.out | refine z2 ?_ GE260.out | refine z2 ?_ GE279.out | refine z2 ?_ GE288.out) | exact HB.out))) : w.heap.size ≤ gb298))
     have n12_ := Aside0.mk ((by rw [hg]; exact Nat.ne_of_lt (zi (g := gb259) (o := .cells #[.int .i64 a0_0, .int .i64 a0_1, .slice A0_2 l0_2.length c0_2, .slice A0_3 l0_3.length c0_3] 29 (0, 0)) (by (with_reducible repeat (first | refine z5 ?_ _ | refine z8 ?_ | refine z4 ?_ _)); exact BK259.out)) : gb259 ≠ gb298))
     have n13_ := Aside0.mk ((by rw [hg]; exact Nat.ne_of_gt (zi (g := gb259) (o := .cells #[.int .i64 a0_0, .int .i64 a0_1, .slice A0_2 l0_2.length c0_2, .slice A0_3 l0_3.length c0_3] 29 (0, 0)) (by (with_reducible repeat (first | refine z5 ?_ _ | refine z8 ?_ | refine z4 ?_ _)); exact BK259.out)) : gb298 ≠ gb259))
     have n14_ := Aside0.mk ((by rw [hg]; exact Nat.ne_of_lt (zi (g := gb260) (o := .cells #[.int .i64 a1_0, .bool a1_1, .bool a1_2, .bool a1_3] 31 (0, 0)) (by (with_reducible repeat (first | refine z5 ?_ _ | refine z8 ?_ | refine z4 ?_ _)); exact BK260.out)) : gb260 ≠ gb298))
     have n15_ := Aside0.mk ((by rw [hg]; exact Nat.ne_of_gt (zi (g := gb260) (o := .cells #[.int .i64 a1_0, .bool a1_1, .bool a1_2, .bool a1_3] 31 (0, 0)) (by (with_reducible repeat (first | refine z5 ?_ _ | refine z8 ?_ | refine z4 ?_ _)); exact BK260.out)) : gb298 ≠ gb260))
     have n16_ := Aside0.mk ((by rw [hg]; exact Nat.ne_of_lt (zi (g := gb279) (o := .cells #[.int .i64 t274, .int .i64 t275, .int .i64 t276] 34 (0, 0)) (by (with_reducible repeat (first | refine z5 ?_ _ | refine z8 ?_ | refine z4 ?_ _)); exact BK279.out)) : gb279 ≠ gb298))
     have n17_ := Aside0.mk ((by rw [hg]; exact Nat.ne_of_gt (zi (g := gb279) (o := .cells #[.int .i64 t274, .int .i64 t275, .int .i64 t276] 34 (0, 0)) (by (with_reducible repeat (first | refine z5 ?_ _ | refine z8 ?_ | refine z4 ?_ _)); exact BK279.out)) : gb298 ≠ gb279))
     have n18_ := Aside0.mk ((by rw [hg]; exact Nat.ne_of_lt (zi (g := gb288) (o := .cells #[.int .i64 t280, .int .i64 t281, .slice Ao45 t282.length co45, .slice Ao46 t285.length co46] 37 (0, 0)) (by (with_reducible repeat (first | refine z5 ?_ _ | refine z8 ?_ | refine z4 ?_ _)); exact BK288.out)) : gb288 ≠ gb298))
     have n19_ := Aside0.mk ((by rw [hg]; exact Nat.ne_of_gt (zi (g := gb288) (o := .cells #[.int .i64 t280, .int .i64 t281, .slice Ao45 t282.length co45, .slice Ao46 t285.length co46] 37 (0, 0)) (by (with_reducible repeat (first | refine z5 ?_ _ | refine z8 ?_ | refine z4 ?_ _)); exact BK288.out)) : gb298 ≠ gb288))
     clear HO266
     clear HO269
     clear HO284
     clear HO287
     clear BK259
     clear BK260
     clear BK279
     clear BK288
     clear HB
     have HO266 := n0_
     have HO269 := n1_
     have HO284 := n2_
     have HO287 := n3_
     have BK259 := n4_
     have BK260 := n5_
     have BK279 := n6_
     have BK288 := n7_
     have HB := n8_
     have BK298 := n9_
     have GW298 := n10_
     have GE298 := n11_
     have NB259_298 := n12_
     have NB298_259 := n13_
     have NB260_298 := n14_
     have NB298_260 := n15_
     have NB279_298 := n16_
     have NB298_279 := n17_
     have NB288_298 := n18_
     have NB298_288 := n19_
     clear n0_ n1_ n2_ n3_ n4_ n5_ n6_ n7_ n8_ n9_ n10_ n11_ n12_ n13_ n14_ n15_ n16_ n17_ n18_ n19_
     clear hb hbox hg
     refine hK.out _ _ ⟨(z3 BK288.out 0).trans rfl, (z3 BK288.out 1).trans rfl, (z3 BK288.out 2).trans rfl, (z3 BK288.out 3).trans rfl, (z3 BK260.out 0).trans rfl, (z3 BK260.out 1).trans rfl, (z3 BK260.out 2).trans rfl, (z3 BK260.out 3).trans rfl⟩ (fun hHeld => ?_)
     clear hK K
     refine zw (a' := ?_) ?_ ?_
     rotate_left
     ·show Act.put _ (some 12) _ = _
      simp only [Act.put, List.setIfInBounds_toArray, List.set_cons_zero, List.set_cons_succ, ze, zf]
      rfl
     refine one_ (i := 2) (N := some 38) #[true, true, true, true, false, false, false, false, false, true, false, false, false] rfl rfl (zv HT_.out (by kernel_rfl)) (by decide) (fun K hK => ?_)
     refine zx Try.func22 (by kernel_rfl) rfl #[.agg #[.int .i64 a1_0, .bool a1_1, .bool a1_2, .bool a1_3]] (by rfl) rfl rfl (by (try simp only [List.map_toArray, List.map_cons, List.map_nil]); first | done | rfl | (simp only [List.length_drop, List.length_take]; rfl)) ?_
     with_reducible refine (laws_toPar.calls a1_0 a1_1 a1_2 a1_3 t289 t290 t291 t292 _ A18.out).mono ?_
     rintro e w50 ⟨rfl, hb⟩
     refine ⟨_, rfl, ?_⟩
     have n0_ := Aside0.mk (Kd.R_below (by (with_reducible repeat (first | apply Kd.R_alloc | apply Kd.R_drewN | apply Kd.R_drew)); exact HO266.out) hb)
     have n1_ := Aside0.mk (Kd.R_below (by (with_reducible repeat (first | apply Kd.R_alloc | apply Kd.R_drewN | apply Kd.R_drew)); exact HO269.out) hb)
     have n2_ := Aside0.mk (Kd.R_below (by (with_reducible repeat (first | apply Kd.R_alloc | apply Kd.R_drewN | apply Kd.R_drew)); exact HO284.out) hb)
     have n3_ := Aside0.mk (Kd.R_below (by (with_reducible repeat (first | apply Kd.R_alloc | apply Kd.R_drewN | apply Kd.R_drew)); exact HO287.out) hb)
     have n4_ := Aside0.mk (za (g := gb259) (o := .cells #[.int .i64 a0_0, .int .i64 a0_1, .slice A0_2 l0_2.length c0_2, .slice A0_3 l0_3.length c0_3] 29 (0, 0)) (by (with_reducible repeat (first | refine z5 ?_ _ | refine z8 ?_ | refine z4 ?_ _)); exact BK259.out) hb)
     have n5_ := Aside0.mk (za (g := gb260) (o := .cells #[.int .i64 a1_0, .bool a1_1, .bool a1_2, .bool a1_3] 31 (0, 0)) (by (with_reducible repeat (first | refine z5 ?_ _ | refine z8 ?_ | refine z4 ?_ _)); exact BK260.out) hb)
     have n6_ := Aside0.mk (za (g := gb279) (o := .cells #[.int .i64 t274, .int .i64 t275, .int .i64 t276] 34 (0, 0)) (by (with_reducible repeat (first | refine z5 ?_ _ | refine z8 ?_ | refine z4 ?_ _)); exact BK279.out) hb)
     have n7_ := Aside0.mk (za (g := gb288) (o := .cells #[.int .i64 t280, .int .i64 t281, .slice Ao45 t282.length co45, .slice Ao46 t285.length co46] 37 (0, 0)) (by (with_reducible repeat (first | refine z5 ?_ _ | refine z8 ?_ | refine z4 ?_ _)); exact BK288.out) hb)
     have n8_ := Aside0.mk (za (g := gb298) (o := .cells #[.int .i64 0, .int .i64 0, .int .i64 0] 34 (0, 0)) (by (with_reducible repeat (first | refine z5 ?_ _ | refine z8 ?_ | refine z4 ?_ _)); exact BK298.out) hb)
     have n9_ := Aside0.mk (zc (by repeat (first | (with_reducible first | exact HB.out | apply z7 | apply z1 | apply z6 | refine z2 ?_ GE259.out | refine z2 ?_ GE260.out | refine z2 ?_ GE279.out | refine z2 ?_ GE288.out | refine z2 ?_ GE298.out) | exact HB.out)) hb)
     clear HO266
     clear HO269
     clear HO284
     clear HO287
     clear BK259
     clear BK260
     clear BK279
     clear BK288
     clear BK298
     clear HB
     have HO266 := n0_
     have HO269 := n1_
     have HO284 := n2_
     have HO287 := n3_
     have BK259 := n4_
     have BK260 := n5_
     have BK279 := n6_
     have BK288 := n7_
     have BK298 := n8_
     have HB := n9_
     clear n0_ n1_ n2_ n3_ n4_ n5_ n6_ n7_ n8_ n9_
     (try clear hb)
     (try clear hb2)
     (try clear hk)
     (try clear hi)
     refine hK.out _ _ ⟨(z3 BK288.out 0).trans rfl, (z3 BK288.out 1).trans rfl, (z3 BK288.out 2).trans rfl, (z3 BK288.out 3).trans rfl, (z3 BK260.out 0).trans rfl, (z3 BK260.out 1).trans rfl, (z3 BK260.out 2).trans rfl, (z3 BK260.out 3).trans rfl⟩ (fun hHeld => ?_)
     clear hK K
     refine zw (a' := ?_) ?_ ?_
     rotate_left
     ·show Act.put _ (some 38) _ = _
      simp only [Act.put, List.setIfInBounds_toArray, List.set_cons_zero, List.set_cons_succ, ze, zf]
      rfl
     refine one_ (i := 4) (N := some 40) #[true, true, true, true, true, false, false, false, false, true, false, false, false] rfl rfl (zv HT_.out (by kernel_rfl)) (by decide) (fun K hK => ?_)
     refine zx Try.func23 (by kernel_rfl) rfl #[.agg #[.int .i64 t280, .int .i64 t281, .slice Ao45 t282.length co45, .slice Ao46 t285.length co46], .agg #[.int .i64 t289, .bool t290, .bool t291, .bool t292], .string a2] (by rfl) rfl rfl (by (try simp only [List.map_toArray, List.map_cons, List.map_nil]); first | done | rfl | (simp only [List.length_drop, List.length_take]; rfl)) ?_
     with_reducible refine (impl_ReadHead.calls k t280 t281 _ _ t282 _ _ t285 t289 t290 t291 t292 a2 t293 t294 t295 t296 t297 _ ?side1 ?side2 ?side3 ?side4 A19.out).mono ?_
     (case side1 => repeat (first | exact (Kd.R_reads' HO284.out).2.2 | (with_reducible refine Kd.C_alloc ?_ _) | (with_reducible refine Kd.C_drewN ?_ _) | (with_reducible refine Kd.C_drew ?_)))
     (case side2 => exact (Kd.R_reads' HO284.out).2.1)
     (case side3 => repeat (first | exact (Kd.R_reads' HO287.out).2.2 | (with_reducible refine Kd.C_alloc ?_ _) | (with_reducible refine Kd.C_drewN ?_ _) | (with_reducible refine Kd.C_drew ?_)))
     (case side4 => exact (Kd.R_reads' HO287.out).2.1)
     rintro e w51 ⟨rfl, hb⟩
     refine ⟨_, rfl, ?_⟩
     have n0_ := Aside0.mk (Kd.R_below (by (with_reducible repeat (first | apply Kd.R_alloc | apply Kd.R_drewN | apply Kd.R_drew)); exact HO266.out) hb)
     have n1_ := Aside0.mk (Kd.R_below (by (with_reducible repeat (first | apply Kd.R_alloc | apply Kd.R_drewN | apply Kd.R_drew)); exact HO269.out) hb)
     have n2_ := Aside0.mk (Kd.R_below (by (with_reducible repeat (first | apply Kd.R_alloc | apply Kd.R_drewN | apply Kd.R_drew)); exact HO284.out) hb)
     have n3_ := Aside0.mk (Kd.R_below (by (with_reducible repeat (first | apply Kd.R_alloc | apply Kd.R_drewN | apply Kd.R_drew)); exact HO287.out) hb)
     have n4_ := Aside0.mk (za (g := gb259) (o := .cells #[.int .i64 a0_0, .int .i64 a0_1, .slice A0_2 l0_2.length c0_2, .slice A0_3 l0_3.length c0_3] 29 (0, 0)) (by (with_reducible repeat (first | refine z5 ?_ _ | refine z8 ?_ | refine z4 ?_ _)); exact BK259.out) hb)
     have n5_ := Aside0.mk (za (g := gb260) (o := .cells #[.int .i64 a1_0, .bool a1_1, .bool a1_2, .bool a1_3] 31 (0, 0)) (by (with_reducible repeat (first | refine z5 ?_ _ | refine z8 ?_ | refine z4 ?_ _)); exact BK260.out) hb)
     have n6_ := Aside0.mk (za (g := gb279) (o := .cells #[.int .i64 t274, .int .i64 t275, .int .i64 t276] 34 (0, 0)) (by (with_reducible repeat (first | refine z5 ?_ _ | refine z8 ?_ | refine z4 ?_ _)); exact BK279.out) hb)
     have n7_ := Aside0.mk (za (g := gb288) (o := .cells #[.int .i64 t280, .int .i64 t281, .slice Ao45 t282.length co45, .slice Ao46 t285.length co46] 37 (0, 0)) (by (with_reducible repeat (first | refine z5 ?_ _ | refine z8 ?_ | refine z4 ?_ _)); exact BK288.out) hb)
     have n8_ := Aside0.mk (za (g := gb298) (o := .cells #[.int .i64 0, .int .i64 0, .int .i64 0] 34 (0, 0)) (by (with_reducible repeat (first | refine z5 ?_ _ | refine z8 ?_ | refine z4 ?_ _)); exact BK298.out) hb)
     have n9_ := Aside0.mk (zc (by repeat (first | (with_reducible first | exact HB.out | apply z7 | apply z1 | apply z6 | refine z2 ?_ GE259.out | refine z2 ?_ GE260.out | refine z2 ?_ GE279.out | refine z2 ?_ GE288.out | refine z2 ?_ GE298.out) | exact HB.out)) hb)
     clear HO266
     clear HO269
     clear HO284
     clear HO287
     clear BK259
     clear BK260
     clear BK279
     clear BK288
     clear BK298
     clear HB
     have HO266 := n0_
     have HO269 := n1_
     have HO284 := n2_
     have HO287 := n3_
     have BK259 := n4_
     have BK260 := n5_
     have BK279 := n6_
     have BK288 := n7_
     have BK298 := n8_
     have HB := n9_
     clear n0_ n1_ n2_ n3_ n4_ n5_ n6_ n7_ n8_ n9_
     (try clear hb)
     (try clear hb2)
     (try clear hk)
     (try clear hi)
     refine hK.out _ _ ⟨(z3 BK288.out 0).trans rfl, (z3 BK288.out 1).trans rfl, (z3 BK288.out 2).trans rfl, (z3 BK288.out 3).trans rfl, (z3 BK260.out 0).trans rfl, (z3 BK260.out 1).trans rfl, (z3 BK260.out 2).trans rfl, (z3 BK260.out 3).trans rfl⟩ (fun hHeld => ?_)
     clear hK K
     refine zw (a' := ?_) ?_ ?_
     rotate_left
     ·show Act.put _ (some 40) _ = _
      simp only [Act.put, List.setIfInBounds_toArray, List.set_cons_zero, List.set_cons_succ, ze, zf]
      rfl
     refine zh (i := 5) (N := some 35) (v := ?_) (a' := ?_) #[true, true, true, true, true, true, false, false, false, true, false, false, false] rfl rfl (zd HT_.out (by kernel_rfl)) (fun _ _ _ h => h) (Or.inl ⟨by rfl, ?_⟩) ?_ ?_
     rotate_left
     ·intro w'
      go_simp
      with_reducible rfl
     rotate_left
     ·simp only [Act.put, List.setIfInBounds_toArray, List.set_cons_zero, List.set_cons_succ, ze, zf]
      rfl
     refine zh (i := 6) (N := some 41) (v := ?_) (a' := ?_) #[true, true, true, true, true, true, true, false, false, true, false, false, false] rfl rfl (zd HT_.out (by kernel_rfl)) (fun _ _ _ h => h) (Or.inl ⟨by rfl, ?_⟩) ?_ ?_
     rotate_left
     ·intro w'
      go_simp
      with_reducible rfl
     rotate_left
     ·simp only [Act.put, List.setIfInBounds_toArray, List.set_cons_zero, List.set_cons_succ, ze, zf]
      rfl
     refine zh (i := 7) (N := some 42) (v := ?_) (a' := ?_) #[true, true, true, true, true, true, true, true, false, true, false, false, false] rfl rfl (zd HT_.out (by kernel_rfl)) (fun _ _ _ h => h) (Or.inl ⟨by rfl, ?_⟩) ?_ ?_
     rotate_left
     ·intro w'
      go_simp
      with_reducible rfl
     rotate_left
     ·simp only [Act.put, List.setIfInBounds_toArray, List.set_cons_zero, List.set_cons_succ, ze, zf]
      rfl
     refine zh (i := 8) (N := some 43) (v := ?_) (a' := ?_) #[true, true, true, true, true, true, true, true, true, true, false, false, false] rfl rfl (zd HT_.out (by kernel_rfl)) (fun _ _ _ h => h) (Or.inl ⟨by rfl, ?_⟩) ?_ ?_
     rotate_left
     ·intro w'
      go_simp
      with_reducible rfl
     rotate_left
     ·simp only [Act.put, List.setIfInBounds_toArray, List.set_cons_zero, List.set_cons_succ, ze, zf]
      rfl
     exact zw (by simp only [zj1, Act.put, List.setIfInBounds_toArray, List.set_cons_zero, List.set_cons_succ]) (hCont (gb298) _ ⟨hHeld, (by (with_reducible repeat (first | apply Kd.R_alloc | apply Kd.R_drewN | apply Kd.R_drew)); exact HO266.out), (by (with_reducible repeat (first | apply Kd.R_alloc | apply Kd.R_drewN | apply Kd.R_drew)); exact HO269.out), (by (with_reducible repeat (first | apply Kd.R_alloc | apply Kd.R_drewN | apply Kd.R_drew)); exact HO284.out), (by (with_reducible repeat (first | apply Kd.R_alloc | apply Kd.R_drewN | apply Kd.R_drew)); exact HO287.out), (by (with_reducible repeat (first | refine z5 ?_ _ | refine z8 ?_ | refine z4 ?_ _)); exact BK259.out), (by (with_reducible repeat (first | refine z5 ?_ _ | refine z8 ?_ | refine z4 ?_ _)); exact BK260.out), (by (with_reducible repeat (first | refine z5 ?_ _ | refine z8 ?_ | refine z4 ?_ _)); exact BK279.out), (by (with_reducible repeat (first | refine z5 ?_ _ | refine z8 ?_ | refine z4 ?_ _)); exact BK288.out), (by (with_reducible repeat (first | refine z5 ?_ _ | refine z8 ?_ | refine z4 ?_ _)); exact BK298.out), GW298.out, GE298.out, NB259_298.out, NB298_259.out, NB260_298.out, NB298_260.out, NB279_298.out, NB298_279.out, NB288_298.out, NB298_288.out, (by repeat (first | (with_reducible first | exact HB.out | apply z7 | apply z1 | apply z6 | refine z2 ?_ GE259.out | refine z2 ?_ GE260.out | refine z2 ?_ GE279.out | refine z2 ?_ GE288.out | refine z2 ?_ GE298.out) | exact HB.out))⟩)
   rintro gb298 w52 ⟨hS_, h0_, h1_, h2_, h3_, h4_, h5_, h6_, h7_, h8_, h9_, h10_, h11_, h12_, h13_, h14_, h15_, h16_, h17_, h18_, h19_⟩
   have n0_ : Aside0 (Kd.R (Kd.int .i64) 3 w52 w.heap.size (fun k_ => some k_ ≠ (v268 : Value).ownBlock ∧ some k_ ≠ (.slice Ao45 t282.length co45 : Value).ownBlock ∧ some k_ ≠ (.slice Ao46 t285.length co46 : Value).ownBlock) v265 t264) := ⟨h0_⟩
   have n1_ : Aside0 (Kd.R (Kd.int .i64) 3 w52 w.heap.size (fun k_ => some k_ ≠ (v265 : Value).ownBlock ∧ some k_ ≠ (.slice Ao45 t282.length co45 : Value).ownBlock ∧ some k_ ≠ (.slice Ao46 t285.length co46 : Value).ownBlock) v268 t267) := ⟨h1_⟩
   have n2_ : Aside0 (Kd.R (Kd.int .i64) 3 w52 w.heap.size (fun k_ => some k_ ≠ (v265 : Value).ownBlock ∧ some k_ ≠ (v268 : Value).ownBlock ∧ some k_ ≠ (.slice Ao46 t285.length co46 : Value).ownBlock) (.slice Ao45 t282.length co45) t282) := ⟨h2_⟩
   have n3_ : Aside0 (Kd.R (Kd.int .i64) 3 w52 w.heap.size (fun k_ => some k_ ≠ (v265 : Value).ownBlock ∧ some k_ ≠ (v268 : Value).ownBlock ∧ some k_ ≠ (.slice Ao45 t282.length co45 : Value).ownBlock) (.slice Ao46 t285.length co46) t285) := ⟨h3_⟩
   have n4_ : Aside0 (w52.heap[gb259]? = some (.cells #[.int .i64 a0_0, .int .i64 a0_1, .slice A0_2 l0_2.length c0_2, .slice A0_3 l0_3.length c0_3] 29 (0, 0))) := ⟨h4_⟩
   have n5_ : Aside0 (w52.heap[gb260]? = some (.cells #[.int .i64 a1_0, .bool a1_1, .bool a1_2, .bool a1_3] 31 (0, 0))) := ⟨h5_⟩
   have n6_ : Aside0 (w52.heap[gb279]? = some (.cells #[.int .i64 t274, .int .i64 t275, .int .i64 t276] 34 (0, 0))) := ⟨h6_⟩
   have n7_ : Aside0 (w52.heap[gb288]? = some (.cells #[.int .i64 t280, .int .i64 t281, .slice Ao45 t282.length co45, .slice Ao46 t285.length co46] 37 (0, 0))) := ⟨h7_⟩
   have n8_ : Aside0 (w52.heap[gb298]? = some (.cells #[.int .i64 0, .int .i64 0, .int .i64 0] 34 (0, 0))) := ⟨h8_⟩
   have n9_ : Aside0 (w.heap.size ≤ gb298) := ⟨h9_⟩
   have n10_ : Aside0 (w.heap.size ≤ gb298) := ⟨h10_⟩
   have n11_ : Aside0 (gb259 ≠ gb298) := ⟨h11_⟩
   have n12_ : Aside0 (gb298 ≠ gb259) := ⟨h12_⟩
   have n13_ : Aside0 (gb260 ≠ gb298) := ⟨h13_⟩
   have n14_ : Aside0 (gb298 ≠ gb260) := ⟨h14_⟩
   have n15_ : Aside0 (gb279 ≠ gb298) := ⟨h15_⟩
   have n16_ : Aside0 (gb298 ≠ gb279) := ⟨h16_⟩
   have n17_ : Aside0 (gb288 ≠ gb298) := ⟨h17_⟩
   have n18_ : Aside0 (gb298 ≠ gb288) := ⟨h18_⟩
   have n19_ : Aside0 (Below w.heap.size w w52) := ⟨h19_⟩
   clear HO266
   clear HO269
   clear HO284
   clear HO287
   clear BK259
   clear BK260
   clear BK279
   clear BK288
   clear HB
   clear h0_ h1_ h2_ h3_ h4_ h5_ h6_ h7_ h8_ h9_ h10_ h11_ h12_ h13_ h14_ h15_ h16_ h17_ h18_ h19_
   have HO266 := n0_
   have HO269 := n1_
   have HO284 := n2_
   have HO287 := n3_
   have BK259 := n4_
   have BK260 := n5_
   have BK279 := n6_
   have BK288 := n7_
   have BK298 := n8_
   have GW298 := n9_
   have GE298 := n10_
   have NB259_298 := n11_
   have NB298_259 := n12_
   have NB260_298 := n13_
   have NB298_260 := n14_
   have NB279_298 := n15_
   have NB298_279 := n16_
   have NB288_298 := n17_
   have NB298_288 := n18_
   have HB := n19_
   clear n0_ n1_ n2_ n3_ n4_ n5_ n6_ n7_ n8_ n9_ n10_ n11_ n12_ n13_ n14_ n15_ n16_ n17_ n18_ n19_
   have hHeld : w52.cell? ⟨gb288, 0, none⟩ = some (.int .i64 t280) ∧ w52.cell? ⟨gb288, 1, none⟩ = some (.int .i64 t281) ∧ w52.cell? ⟨gb288, 2, none⟩ = some (.slice Ao45 t282.length co45) ∧ w52.cell? ⟨gb288, 3, none⟩ = some (.slice Ao46 t285.length co46) ∧ w52.cell? ⟨gb260, 0, none⟩ = some (.int .i64 a1_0) ∧ w52.cell? ⟨gb260, 1, none⟩ = some (.bool a1_1) ∧ w52.cell? ⟨gb260, 2, none⟩ = some (.bool a1_2) ∧ w52.cell? ⟨gb260, 3, none⟩ = some (.bool a1_3) := hS_
   refine zw (a' := ?_) ?_ ?_
   rotate_left
   ·simp only [zj1, Act.put, List.setIfInBounds_toArray, List.set_cons_zero, List.set_cons_succ]
    rfl
   refine one_ (i := 10) (N := none) #[true, true, true, true, true, true, true, true, true, true, true, false, false] rfl rfl (zv HT_.out (by kernel_rfl)) (by decide) (fun K hK => ?_)
   have hs53 : w52.cell? ⟨gb298, 0, none⟩ = some (.int .i64 0) := (z3 BK298.out 0).trans rfl
   have hfs53 := z9 BK298.out 0
   have hns53_0 := NB259_298.out
   have hns53_1 := NB260_298.out
   have hns53_2 := NB279_298.out
   have hns53_3 := NB288_298.out
   have hms53_0 := NB298_259.out
   have hms53_1 := NB298_260.out
   have hms53_2 := NB298_279.out
   have hms53_3 := NB298_288.out
   have hs54 : w52.cell? ⟨gb298, 1, none⟩ = some (.int .i64 0) := (z3 BK298.out 1).trans rfl
   have hfs54 := z9 BK298.out 1
   have hns54_0 := NB259_298.out
   have hns54_1 := NB260_298.out
   have hns54_2 := NB279_298.out
   have hns54_3 := NB288_298.out
   have hms54_0 := NB298_259.out
   have hms54_1 := NB298_260.out
   have hms54_2 := NB298_279.out
   have hms54_3 := NB298_288.out
   have hs55 : w52.cell? ⟨gb298, 2, none⟩ = some (.int .i64 0) := (z3 BK298.out 2).trans rfl
   have hfs55 := z9 BK298.out 2
   have hns55_0 := NB259_298.out
   have hns55_1 := NB260_298.out
   have hns55_2 := NB279_298.out
   have hns55_3 := NB288_298.out
   have hms55_0 := NB298_259.out
   have hms55_1 := NB298_260.out
   have hms55_2 := NB298_279.out
   have hms55_3 := NB298_288.out
   refine skip_ (w1 := ?_) (by rfl) rfl ?_ ?_
   rotate_left
   ·go_simp
    rfl
   refine hK.out _ _ ⟨((zm (p := ⟨gb298, _, none⟩) NB288_298.out _).trans (((zm (p := ⟨gb298, _, none⟩) NB288_298.out _).trans (((zm (p := ⟨gb298, _, none⟩) NB288_298.out _).trans (hHeld.1)))))), ((zm (p := ⟨gb298, _, none⟩) NB288_298.out _).trans (((zm (p := ⟨gb298, _, none⟩) NB288_298.out _).trans (((zm (p := ⟨gb298, _, none⟩) NB288_298.out _).trans (hHeld.2.1)))))), ((zm (p := ⟨gb298, _, none⟩) NB288_298.out _).trans (((zm (p := ⟨gb298, _, none⟩) NB288_298.out _).trans (((zm (p := ⟨gb298, _, none⟩) NB288_298.out _).trans (hHeld.2.2.1)))))), ((zm (p := ⟨gb298, _, none⟩) NB288_298.out _).trans (((zm (p := ⟨gb298, _, none⟩) NB288_298.out _).trans (((zm (p := ⟨gb298, _, none⟩) NB288_298.out _).trans (hHeld.2.2.2.1)))))), ((zm (p := ⟨gb298, _, none⟩) NB260_298.out _).trans (((zm (p := ⟨gb298, _, none⟩) NB260_298.out _).trans (((zm (p := ⟨gb298, _, none⟩) NB260_298.out _).trans (hHeld.2.2.2.2.1)))))), ((zm (p := ⟨gb298, _, none⟩) NB260_298.out _).trans (((zm (p := ⟨gb298, _, none⟩) NB260_298.out _).trans (((zm (p := ⟨gb298, _, none⟩) NB260_298.out _).trans (hHeld.2.2.2.2.2.1)))))), ((zm (p := ⟨gb298, _, none⟩) NB260_298.out _).trans (((zm (p := ⟨gb298, _, none⟩) NB260_298.out _).trans (((zm (p := ⟨gb298, _, none⟩) NB260_298.out _).trans (hHeld.2.2.2.2.2.2.1)))))), ((zm (p := ⟨gb298, _, none⟩) NB260_298.out _).trans (((zm (p := ⟨gb298, _, none⟩) NB260_298.out _).trans (((zm (p := ⟨gb298, _, none⟩) NB260_298.out _).trans (hHeld.2.2.2.2.2.2.2))))))⟩ (fun hHeld => ?_)
   clear hK K
   refine zh (i := 11) (N := some 13) (v := ?_) (a' := ?_) #[true, true, true, true, true, true, true, true, true, true, true, true, false] rfl rfl (zd HT_.out (by kernel_rfl)) (fun _ _ _ h => h) (Or.inl ⟨by rfl, ?_⟩) ?_ ?_
   rotate_left
   ·intro w'
    go_simp
    with_reducible rfl
   rotate_left
   ·simp only [Act.put, List.setIfInBounds_toArray, List.set_cons_zero, List.set_cons_succ, ze, zf]
    rfl
   refine zh (i := 12) (N := some 14) (v := ?_) (a' := ?_) #[true, true, true, true, true, true, true, true, true, true, true, true, true] rfl rfl (zd HT_.out (by kernel_rfl)) (fun _ _ _ h => h) (Or.inl ⟨by rfl, ?_⟩) ?_ ?_
   rotate_left
   ·intro w'
    go_simp
    with_reducible rfl
   rotate_left
   ·simp only [Act.put, List.setIfInBounds_toArray, List.set_cons_zero, List.set_cons_succ, ze, zf]
    rfl
   refine zg1 (z31 HT_.out (by kernel_rfl)) ?_
   go_upto_region 10 with (fail)
   go_cut [57] (fun v57 wc => ∃ (kq : Nat) (x57_19 : Bool), v57 = .bool x57_19 ∧ Aside0 (laws_FnExactReadHead.j0 kq x57_19 a0_0 a0_1 l0_2 l0_3 t280 t281 t282 t285 = some r) ∧ Aside0 (kq ≤ k) ∧ Aside0 (Kd.R (Kd.int .i64) 3 wc w.heap.size (fun k_ => some k_ ≠ ((.slice Ao46 t285.length co46) : Value).ownBlock) (.slice Ao45 t282.length co45) t282) ∧ Aside0 (Kd.R (Kd.int .i64) 3 wc w.heap.size (fun k_ => some k_ ≠ ((.slice Ao45 t282.length co45) : Value).ownBlock) (.slice Ao46 t285.length co46) t285) ∧ Aside0 (wc.heap[gb259]? = some (.cells #[.int .i64 a0_0, .int .i64 a0_1, (.slice A0_2 l0_2.length c0_2), (.slice A0_3 l0_3.length c0_3)] 29 (0, 0))) ∧ Aside0 (wc.heap[gb260]? = some (.cells #[.int .i64 a1_0, .bool a1_1, .bool a1_2, .bool a1_3] 31 (0, 0))) ∧ Aside0 (wc.heap[gb279]? = some (.cells #[.int .i64 t274, .int .i64 t275, .int .i64 t276] 34 (0, 0))) ∧ Aside0 (wc.heap[gb288]? = some (.cells #[.int .i64 t280, .int .i64 t281, (.slice Ao45 t282.length co45), (.slice Ao46 t285.length co46)] 37 (0, 0))) ∧ Aside0 (wc.heap[gb298]? = some (.cells #[.int .i64 t293, .int .i64 t294, .int .i64 t295] 34 (0, 0))) ∧ Aside0 (Below w.heap.size w wc))
   case first =>
    have H := HC20.out
    clear HC20
    replace H := Option.bind_eq_some_iff.mp H
    obtain ⟨t299, A560, H⟩ := H
    replace H : (if t299 = true then (if t296 = t277 then (laws_FnExactReadHead.j0 k (t297 != t278) a0_0 a0_1 l0_2 l0_3 t280 t281 t282 t285) else (laws_FnExactReadHead.j0 k true a0_0 a0_1 l0_2 l0_3 t280 t281 t282 t285)) else (laws_FnExactReadHead.j0 k true a0_0 a0_1 l0_2 l0_3 t280 t281 t282 t285)) = some r := H
    have A56 := Aside0.mk A560
    clear A560
    by_cases c57 : t299 = true
    ·subst c57
     have H1 : (if t296 = t277 then (laws_FnExactReadHead.j0 k (t297 != t278) a0_0 a0_1 l0_2 l0_3 t280 t281 t282 t285) else (laws_FnExactReadHead.j0 k true a0_0 a0_1 l0_2 l0_3 t280 t281 t282 t285)) = some r := by rw [if_pos rfl] at H; exact H
     clear H
     have H := H1
     clear H1
     by_cases c58 : t296 = t277
     ·rw [if_pos c58] at H
      have c58b0 : (t296 == t277) = true := beq_iff_eq.mpr c58
      have c58b1 : (t296 != t277) = false := bne_eq_false_iff_eq.mpr c58
      clear c58
      (first | rw [c58b0] | (simp only [ze, zf]; rw [c58b0]) | skip)
      have H' := Aside0.mk H
      clear H
      have hnb59 := NB298_259.out
      have hnc59 := NB259_298.out
      have hnb60 := NB298_260.out
      have hnc60 := NB260_298.out
      have hnb61 := NB298_279.out
      have hnc61 := NB279_298.out
      have hnb62 := NB298_288.out
      have hnc62 := NB288_298.out
      have hcz63_0 : w52.cell? ⟨gb298, 0, none⟩ = some (.int .i64 0) := (z3 BK298.out 0).trans rfl
      have hcz63_1 : w52.cell? ⟨gb298, 1, none⟩ = some (.int .i64 0) := (z3 BK298.out 1).trans rfl
      have hcz63_2 : w52.cell? ⟨gb298, 2, none⟩ = some (.int .i64 0) := (z3 BK298.out 2).trans rfl
      have hfz63_0 := z9 BK298.out 0
      have hfz63_1 := z9 BK298.out 1
      have hfz63_2 := z9 BK298.out 2
      have hnb64 := NB279_259.out
      have hnc64 := NB259_279.out
      have hnb65 := NB279_260.out
      have hnc65 := NB260_279.out
      have hnb66 := NB279_288.out
      have hnc66 := NB288_279.out
      have hcz67_0 : w52.cell? ⟨gb279, 0, none⟩ = some (.int .i64 t274) := (z3 BK279.out 0).trans rfl
      have hcz67_1 : w52.cell? ⟨gb279, 1, none⟩ = some (.int .i64 t275) := (z3 BK279.out 1).trans rfl
      have hcz67_2 : w52.cell? ⟨gb279, 2, none⟩ = some (.int .i64 t276) := (z3 BK279.out 2).trans rfl
      have hfz67_0 := z9 BK279.out 0
      have hfz67_1 := z9 BK279.out 1
      have hfz67_2 := z9 BK279.out 2
      go_wp2_with (first | ((with_reducible refine zg (f := 24) rfl ?_); refine zr (some 46) rfl rfl Try.func24 (by kernel_rfl) rfl #[.agg #[.int .i64 t293, .int .i64 t294, .int .i64 t295], .agg #[.int .i64 t274, .int .i64 t275, .int .i64 t276]] rfl (by (try simp only [List.map_toArray, List.map_cons, List.map_nil]); first | done | rfl | (simp only [List.length_drop, List.length_take]; rfl)) ?_; (with_reducible refine (laws_eqHead.calls t293 t294 t295 t274 t275 t276 true _ A56.out).mono ?_); rintro e w68 ⟨rfl, hb⟩; refine ⟨_, rfl, ?_⟩; have n0_ := Aside0.mk (Kd.R_below (by (with_reducible repeat (first | apply Kd.R_alloc | apply Kd.R_drewN | apply Kd.R_drew)); exact (Kd.R_mono (Kd.R_far (p := ⟨gb298, 2, none⟩) (Kd.R_far (p := ⟨gb298, 1, none⟩) (Kd.R_far (p := ⟨gb298, 0, none⟩) (Kd.R_types HO266.out BK298.out (by decide)) (fun _ hk => hk.2) (.int .i64 t293)) (fun _ hk => hk.2) (.int .i64 t294)) (fun _ hk => hk.2) (.int .i64 t295)) (fun _ h_ => h_.1))) hb); have n1_ := Aside0.mk (Kd.R_below (by (with_reducible repeat (first | apply Kd.R_alloc | apply Kd.R_drewN | apply Kd.R_drew)); exact (Kd.R_mono (Kd.R_far (p := ⟨gb298, 2, none⟩) (Kd.R_far (p := ⟨gb298, 1, none⟩) (Kd.R_far (p := ⟨gb298, 0, none⟩) (Kd.R_types HO269.out BK298.out (by decide)) (fun _ hk => hk.2) (.int .i64 t293)) (fun _ hk => hk.2) (.int .i64 t294)) (fun _ hk => hk.2) (.int .i64 t295)) (fun _ h_ => h_.1))) hb); have n2_ := Aside0.mk (Kd.R_below (by (with_reducible repeat (first | apply Kd.R_alloc | apply Kd.R_drewN | apply Kd.R_drew)); exact (Kd.R_mono (Kd.R_far (p := ⟨gb298, 2, none⟩) (Kd.R_far (p := ⟨gb298, 1, none⟩) (Kd.R_far (p := ⟨gb298, 0, none⟩) (Kd.R_types HO284.out BK298.out (by decide)) (fun _ hk => hk.2) (.int .i64 t293)) (fun _ hk => hk.2) (.int .i64 t294)) (fun _ hk => hk.2) (.int .i64 t295)) (fun _ h_ => h_.1))) hb); have n3_ := Aside0.mk (Kd.R_below (by (with_reducible repeat (first | apply Kd.R_alloc | apply Kd.R_drewN | apply Kd.R_drew)); exact (Kd.R_mono (Kd.R_far (p := ⟨gb298, 2, none⟩) (Kd.R_far (p := ⟨gb298, 1, none⟩) (Kd.R_far (p := ⟨gb298, 0, none⟩) (Kd.R_types HO287.out BK298.out (by decide)) (fun _ hk => hk.2) (.int .i64 t293)) (fun _ hk => hk.2) (.int .i64 t294)) (fun _ hk => hk.2) (.int .i64 t295)) (fun _ h_ => h_.1))) hb); have n4_ := Aside0.mk (za (g := gb259) (o := .cells #[.int .i64 a0_0, .int .i64 a0_1, .slice A0_2 l0_2.length c0_2, .slice A0_3 l0_3.length c0_3] 29 (0, 0)) (by (with_reducible repeat (first | refine z5 ?_ _ | refine z8 ?_ | refine z4 ?_ _)); refine zk ?_ NB259_298.out _; (with_reducible repeat (first | refine z5 ?_ _ | refine z8 ?_ | refine z4 ?_ _)); refine zk ?_ NB259_298.out _; (with_reducible repeat (first | refine z5 ?_ _ | refine z8 ?_ | refine z4 ?_ _)); refine zk ?_ NB259_298.out _; (with_reducible repeat (first | refine z5 ?_ _ | refine z8 ?_ | refine z4 ?_ _)); exact BK259.out) hb); have n5_ := Aside0.mk (za (g := gb260) (o := .cells #[.int .i64 a1_0, .bool a1_1, .bool a1_2, .bool a1_3] 31 (0, 0)) (by (with_reducible repeat (first | refine z5 ?_ _ | refine z8 ?_ | refine z4 ?_ _)); refine zk ?_ NB260_298.out _; (with_reducible repeat (first | refine z5 ?_ _ | refine z8 ?_ | refine z4 ?_ _)); refine zk ?_ NB260_298.out _; (with_reducible repeat (first | refine z5 ?_ _ | refine z8 ?_ | refine z4 ?_ _)); refine zk ?_ NB260_298.out _; (with_reducible repeat (first | refine z5 ?_ _ | refine z8 ?_ | refine z4 ?_ _)); exact BK260.out) hb); have n6_ := Aside0.mk (za (g := gb279) (o := .cells #[.int .i64 t274, .int .i64 t275, .int .i64 t276] 34 (0, 0)) (by (with_reducible repeat (first | refine z5 ?_ _ | refine z8 ?_ | refine z4 ?_ _)); refine zk ?_ NB279_298.out _; (with_reducible repeat (first | refine z5 ?_ _ | refine z8 ?_ | refine z4 ?_ _)); refine zk ?_ NB279_298.out _; (with_reducible repeat (first | refine z5 ?_ _ | refine z8 ?_ | refine z4 ?_ _)); refine zk ?_ NB279_298.out _; (with_reducible repeat (first | refine z5 ?_ _ | refine z8 ?_ | refine z4 ?_ _)); exact BK279.out) hb); have n7_ := Aside0.mk (za (g := gb288) (o := .cells #[.int .i64 t280, .int .i64 t281, .slice Ao45 t282.length co45, .slice Ao46 t285.length co46] 37 (0, 0)) (by (with_reducible repeat (first | refine z5 ?_ _ | refine z8 ?_ | refine z4 ?_ _)); refine zk ?_ NB288_298.out _; (with_reducible repeat (first | refine z5 ?_ _ | refine z8 ?_ | refine z4 ?_ _)); refine zk ?_ NB288_298.out _; (with_reducible repeat (first | refine z5 ?_ _ | refine z8 ?_ | refine z4 ?_ _)); refine zk ?_ NB288_298.out _; (with_reducible repeat (first | refine z5 ?_ _ | refine z8 ?_ | refine z4 ?_ _)); exact BK288.out) hb); have n8_ := Aside0.mk (za (g := gb298) (o := .cells #[.int .i64 t293, .int .i64 t294, .int .i64 t295] 34 (0, 0)) (by (with_reducible repeat (first | refine z5 ?_ _ | refine z8 ?_ | refine z4 ?_ _)); refine zo (cs := #[.int .i64 t293, .int .i64 t294, .int .i64 0]) ?_ 2 _ rfl; (with_reducible repeat (first | refine z5 ?_ _ | refine z8 ?_ | refine z4 ?_ _)); refine zo (cs := #[.int .i64 t293, .int .i64 0, .int .i64 0]) ?_ 1 _ rfl; (with_reducible repeat (first | refine z5 ?_ _ | refine z8 ?_ | refine z4 ?_ _)); refine zo (cs := #[.int .i64 0, .int .i64 0, .int .i64 0]) ?_ 0 _ rfl; (with_reducible repeat (first | refine z5 ?_ _ | refine z8 ?_ | refine z4 ?_ _)); exact BK298.out) hb); have n9_ := Aside0.mk (zc (by repeat (first | (with_reducible first | exact HB.out | apply z7 | apply z1 | apply z6 | refine z2 ?_ GE259.out | refine z2 ?_ GE260.out | refine z2 ?_ GE279.out | refine z2 ?_ GE288.out | refine z2 ?_ GE298.out) | exact HB.out)) hb); clear HO266; clear HO269; clear HO284; clear HO287; clear BK259; clear BK260; clear BK279; clear BK288; clear BK298; clear HB; have HO266 := n0_; have HO269 := n1_; have HO284 := n2_; have HO287 := n3_; have BK259 := n4_; have BK260 := n5_; have BK279 := n6_; have BK288 := n7_; have BK298 := n8_; have HB := n9_; clear n0_ n1_ n2_ n3_ n4_ n5_ n6_ n7_ n8_ n9_; (try clear hb); (try clear hb2); (try clear hk); (try clear hi)))
      go_meet
      case rel => exact ⟨_, ((t297 != t278)), (by first | rfl | (simp; done) | (simp [*]; done)), H', ⟨by first | omega | exact Nat.le_refl _⟩, ⟨by (with_reducible repeat (first | apply Kd.R_alloc | apply Kd.R_drewN | apply Kd.R_drew)); exact Kd.R_mono HO284.out (fun _ hk => hk.2.2)⟩, ⟨by (with_reducible repeat (first | apply Kd.R_alloc | apply Kd.R_drewN | apply Kd.R_drew)); exact Kd.R_mono HO287.out (fun _ hk => hk.2.2)⟩, ⟨by (with_reducible repeat (first | refine z5 ?_ _ | refine z8 ?_ | refine z4 ?_ _)); exact BK259.out⟩, ⟨by (with_reducible repeat (first | refine z5 ?_ _ | refine z8 ?_ | refine z4 ?_ _)); exact BK260.out⟩, ⟨by (with_reducible repeat (first | refine z5 ?_ _ | refine z8 ?_ | refine z4 ?_ _)); exact BK279.out⟩, ⟨by (with_reducible repeat (first | refine z5 ?_ _ | refine z8 ?_ | refine z4 ?_ _)); exact BK288.out⟩, ⟨by (with_reducible repeat (first | refine z5 ?_ _ | refine z8 ?_ | refine z4 ?_ _)); exact BK298.out⟩, ⟨by repeat (first | (with_reducible first | exact HB.out | apply z7 | apply z1 | apply z6 | refine z2 ?_ GE259.out | refine z2 ?_ GE260.out | refine z2 ?_ GE279.out | refine z2 ?_ GE288.out | refine z2 ?_ GE298.out) | exact HB.out)⟩⟩
     ·rw [if_neg c58] at H
      have c58b0 : (t296 == t277) = false := beq_eq_false_iff_ne.mpr c58
      have c58b1 : (t296 != t277) = true := bne_iff_ne.mpr c58
      (first | rw [c58b0] | (simp only [ze, zf]; rw [c58b0]) | skip)
      have H' := Aside0.mk H
      clear H
      have hnb69 := NB298_259.out
      have hnc69 := NB259_298.out
      have hnb70 := NB298_260.out
      have hnc70 := NB260_298.out
      have hnb71 := NB298_279.out
      have hnc71 := NB279_298.out
      have hnb72 := NB298_288.out
      have hnc72 := NB288_298.out
      have hcz73_0 : w52.cell? ⟨gb298, 0, none⟩ = some (.int .i64 0) := (z3 BK298.out 0).trans rfl
      have hcz73_1 : w52.cell? ⟨gb298, 1, none⟩ = some (.int .i64 0) := (z3 BK298.out 1).trans rfl
      have hcz73_2 : w52.cell? ⟨gb298, 2, none⟩ = some (.int .i64 0) := (z3 BK298.out 2).trans rfl
      have hfz73_0 := z9 BK298.out 0
      have hfz73_1 := z9 BK298.out 1
      have hfz73_2 := z9 BK298.out 2
      have hnb74 := NB279_259.out
      have hnc74 := NB259_279.out
      have hnb75 := NB279_260.out
      have hnc75 := NB260_279.out
      have hnb76 := NB279_288.out
      have hnc76 := NB288_279.out
      have hcz77_0 : w52.cell? ⟨gb279, 0, none⟩ = some (.int .i64 t274) := (z3 BK279.out 0).trans rfl
      have hcz77_1 : w52.cell? ⟨gb279, 1, none⟩ = some (.int .i64 t275) := (z3 BK279.out 1).trans rfl
      have hcz77_2 : w52.cell? ⟨gb279, 2, none⟩ = some (.int .i64 t276) := (z3 BK279.out 2).trans rfl
      have hfz77_0 := z9 BK279.out 0
      have hfz77_1 := z9 BK279.out 1
      have hfz77_2 := z9 BK279.out 2
      go_wp2_with (first | ((with_reducible refine zg (f := 24) rfl ?_); refine zr (some 46) rfl rfl Try.func24 (by kernel_rfl) rfl #[.agg #[.int .i64 t293, .int .i64 t294, .int .i64 t295], .agg #[.int .i64 t274, .int .i64 t275, .int .i64 t276]] rfl (by (try simp only [List.map_toArray, List.map_cons, List.map_nil]); first | done | rfl | (simp only [List.length_drop, List.length_take]; rfl)) ?_; (with_reducible refine (laws_eqHead.calls t293 t294 t295 t274 t275 t276 true _ A56.out).mono ?_); rintro e w78 ⟨rfl, hb⟩; refine ⟨_, rfl, ?_⟩; have n0_ := Aside0.mk (Kd.R_below (by (with_reducible repeat (first | apply Kd.R_alloc | apply Kd.R_drewN | apply Kd.R_drew)); exact (Kd.R_mono (Kd.R_far (p := ⟨gb298, 2, none⟩) (Kd.R_far (p := ⟨gb298, 1, none⟩) (Kd.R_far (p := ⟨gb298, 0, none⟩) (Kd.R_types HO266.out BK298.out (by decide)) (fun _ hk => hk.2) (.int .i64 t293)) (fun _ hk => hk.2) (.int .i64 t294)) (fun _ hk => hk.2) (.int .i64 t295)) (fun _ h_ => h_.1))) hb); have n1_ := Aside0.mk (Kd.R_below (by (with_reducible repeat (first | apply Kd.R_alloc | apply Kd.R_drewN | apply Kd.R_drew)); exact (Kd.R_mono (Kd.R_far (p := ⟨gb298, 2, none⟩) (Kd.R_far (p := ⟨gb298, 1, none⟩) (Kd.R_far (p := ⟨gb298, 0, none⟩) (Kd.R_types HO269.out BK298.out (by decide)) (fun _ hk => hk.2) (.int .i64 t293)) (fun _ hk => hk.2) (.int .i64 t294)) (fun _ hk => hk.2) (.int .i64 t295)) (fun _ h_ => h_.1))) hb); have n2_ := Aside0.mk (Kd.R_below (by (with_reducible repeat (first | apply Kd.R_alloc | apply Kd.R_drewN | apply Kd.R_drew)); exact (Kd.R_mono (Kd.R_far (p := ⟨gb298, 2, none⟩) (Kd.R_far (p := ⟨gb298, 1, none⟩) (Kd.R_far (p := ⟨gb298, 0, none⟩) (Kd.R_types HO284.out BK298.out (by decide)) (fun _ hk => hk.2) (.int .i64 t293)) (fun _ hk => hk.2) (.int .i64 t294)) (fun _ hk => hk.2) (.int .i64 t295)) (fun _ h_ => h_.1))) hb); have n3_ := Aside0.mk (Kd.R_below (by (with_reducible repeat (first | apply Kd.R_alloc | apply Kd.R_drewN | apply Kd.R_drew)); exact (Kd.R_mono (Kd.R_far (p := ⟨gb298, 2, none⟩) (Kd.R_far (p := ⟨gb298, 1, none⟩) (Kd.R_far (p := ⟨gb298, 0, none⟩) (Kd.R_types HO287.out BK298.out (by decide)) (fun _ hk => hk.2) (.int .i64 t293)) (fun _ hk => hk.2) (.int .i64 t294)) (fun _ hk => hk.2) (.int .i64 t295)) (fun _ h_ => h_.1))) hb); have n4_ := Aside0.mk (za (g := gb259) (o := .cells #[.int .i64 a0_0, .int .i64 a0_1, .slice A0_2 l0_2.length c0_2, .slice A0_3 l0_3.length c0_3] 29 (0, 0)) (by (with_reducible repeat (first | refine z5 ?_ _ | refine z8 ?_ | refine z4 ?_ _)); refine zk ?_ NB259_298.out _; (with_reducible repeat (first | refine z5 ?_ _ | refine z8 ?_ | refine z4 ?_ _)); refine zk ?_ NB259_298.out _; (with_reducible repeat (first | refine z5 ?_ _ | refine z8 ?_ | refine z4 ?_ _)); refine zk ?_ NB259_298.out _; (with_reducible repeat (first | refine z5 ?_ _ | refine z8 ?_ | refine z4 ?_ _)); exact BK259.out) hb); have n5_ := Aside0.mk (za (g := gb260) (o := .cells #[.int .i64 a1_0, .bool a1_1, .bool a1_2, .bool a1_3] 31 (0, 0)) (by (with_reducible repeat (first | refine z5 ?_ _ | refine z8 ?_ | refine z4 ?_ _)); refine zk ?_ NB260_298.out _; (with_reducible repeat (first | refine z5 ?_ _ | refine z8 ?_ | refine z4 ?_ _)); refine zk ?_ NB260_298.out _; (with_reducible repeat (first | refine z5 ?_ _ | refine z8 ?_ | refine z4 ?_ _)); refine zk ?_ NB260_298.out _; (with_reducible repeat (first | refine z5 ?_ _ | refine z8 ?_ | refine z4 ?_ _)); exact BK260.out) hb); have n6_ := Aside0.mk (za (g := gb279) (o := .cells #[.int .i64 t274, .int .i64 t275, .int .i64 t276] 34 (0, 0)) (by (with_reducible repeat (first | refine z5 ?_ _ | refine z8 ?_ | refine z4 ?_ _)); refine zk ?_ NB279_298.out _; (with_reducible repeat (first | refine z5 ?_ _ | refine z8 ?_ | refine z4 ?_ _)); refine zk ?_ NB279_298.out _; (with_reducible repeat (first | refine z5 ?_ _ | refine z8 ?_ | refine z4 ?_ _)); refine zk ?_ NB279_298.out _; (with_reducible repeat (first | refine z5 ?_ _ | refine z8 ?_ | refine z4 ?_ _)); exact BK279.out) hb); have n7_ := Aside0.mk (za (g := gb288) (o := .cells #[.int .i64 t280, .int .i64 t281, .slice Ao45 t282.length co45, .slice Ao46 t285.length co46] 37 (0, 0)) (by (with_reducible repeat (first | refine z5 ?_ _ | refine z8 ?_ | refine z4 ?_ _)); refine zk ?_ NB288_298.out _; (with_reducible repeat (first | refine z5 ?_ _ | refine z8 ?_ | refine z4 ?_ _)); refine zk ?_ NB288_298.out _; (with_reducible repeat (first | refine z5 ?_ _ | refine z8 ?_ | refine z4 ?_ _)); refine zk ?_ NB288_298.out _; (with_reducible repeat (first | refine z5 ?_ _ | refine z8 ?_ | refine z4 ?_ _)); exact BK288.out) hb); have n8_ := Aside0.mk (za (g := gb298) (o := .cells #[.int .i64 t293, .int .i64 t294, .int .i64 t295] 34 (0, 0)) (by (with_reducible repeat (first | refine z5 ?_ _ | refine z8 ?_ | refine z4 ?_ _)); refine zo (cs := #[.int .i64 t293, .int .i64 t294, .int .i64 0]) ?_ 2 _ rfl; (with_reducible repeat (first | refine z5 ?_ _ | refine z8 ?_ | refine z4 ?_ _)); refine zo (cs := #[.int .i64 t293, .int .i64 0, .int .i64 0]) ?_ 1 _ rfl; (with_reducible repeat (first | refine z5 ?_ _ | refine z8 ?_ | refine z4 ?_ _)); refine zo (cs := #[.int .i64 0, .int .i64 0, .int .i64 0]) ?_ 0 _ rfl; (with_reducible repeat (first | refine z5 ?_ _ | refine z8 ?_ | refine z4 ?_ _)); exact BK298.out) hb); have n9_ := Aside0.mk (zc (by repeat (first | (with_reducible first | exact HB.out | apply z7 | apply z1 | apply z6 | refine z2 ?_ GE259.out | refine z2 ?_ GE260.out | refine z2 ?_ GE279.out | refine z2 ?_ GE288.out | refine z2 ?_ GE298.out) | exact HB.out)) hb); clear HO266; clear HO269; clear HO284; clear HO287; clear BK259; clear BK260; clear BK279; clear BK288; clear BK298; clear HB; have HO266 := n0_; have HO269 := n1_; have HO284 := n2_; have HO287 := n3_; have BK259 := n4_; have BK260 := n5_; have BK279 := n6_; have BK288 := n7_; have BK298 := n8_; have HB := n9_; clear n0_ n1_ n2_ n3_ n4_ n5_ n6_ n7_ n8_ n9_; (try clear hb); (try clear hb2); (try clear hk); (try clear hi)))
      go_meet
      case rel => exact ⟨_, (true), (by first | rfl | (simp; done) | (simp [*]; done)), H', ⟨by first | omega | exact Nat.le_refl _⟩, ⟨by (with_reducible repeat (first | apply Kd.R_alloc | apply Kd.R_drewN | apply Kd.R_drew)); exact Kd.R_mono HO284.out (fun _ hk => hk.2.2)⟩, ⟨by (with_reducible repeat (first | apply Kd.R_alloc | apply Kd.R_drewN | apply Kd.R_drew)); exact Kd.R_mono HO287.out (fun _ hk => hk.2.2)⟩, ⟨by (with_reducible repeat (first | refine z5 ?_ _ | refine z8 ?_ | refine z4 ?_ _)); exact BK259.out⟩, ⟨by (with_reducible repeat (first | refine z5 ?_ _ | refine z8 ?_ | refine z4 ?_ _)); exact BK260.out⟩, ⟨by (with_reducible repeat (first | refine z5 ?_ _ | refine z8 ?_ | refine z4 ?_ _)); exact BK279.out⟩, ⟨by (with_reducible repeat (first | refine z5 ?_ _ | refine z8 ?_ | refine z4 ?_ _)); exact BK288.out⟩, ⟨by (with_reducible repeat (first | refine z5 ?_ _ | refine z8 ?_ | refine z4 ?_ _)); exact BK298.out⟩, ⟨by repeat (first | (with_reducible first | exact HB.out | apply z7 | apply z1 | apply z6 | refine z2 ?_ GE259.out | refine z2 ?_ GE260.out | refine z2 ?_ GE279.out | refine z2 ?_ GE288.out | refine z2 ?_ GE298.out) | exact HB.out)⟩⟩
    ·replace c57 := Bool.eq_false_iff.mpr c57
     subst c57
     have H1 : (laws_FnExactReadHead.j0 k true a0_0 a0_1 l0_2 l0_3 t280 t281 t282 t285) = some r := by rw [if_neg (show ¬ (false = true) by decide)] at H; exact H
     clear H
     have H := H1
     clear H1
     have H' := Aside0.mk H
     clear H
     have hnb79 := NB298_259.out
     have hnc79 := NB259_298.out
     have hnb80 := NB298_260.out
     have hnc80 := NB260_298.out
     have hnb81 := NB298_279.out
     have hnc81 := NB279_298.out
     have hnb82 := NB298_288.out
     have hnc82 := NB288_298.out
     have hcz83_0 : w52.cell? ⟨gb298, 0, none⟩ = some (.int .i64 0) := (z3 BK298.out 0).trans rfl
     have hcz83_1 : w52.cell? ⟨gb298, 1, none⟩ = some (.int .i64 0) := (z3 BK298.out 1).trans rfl
     have hcz83_2 : w52.cell? ⟨gb298, 2, none⟩ = some (.int .i64 0) := (z3 BK298.out 2).trans rfl
     have hfz83_0 := z9 BK298.out 0
     have hfz83_1 := z9 BK298.out 1
     have hfz83_2 := z9 BK298.out 2
     have hnb84 := NB279_259.out
     have hnc84 := NB259_279.out
     have hnb85 := NB279_260.out
     have hnc85 := NB260_279.out
     have hnb86 := NB279_288.out
     have hnc86 := NB288_279.out
     have hcz87_0 : w52.cell? ⟨gb279, 0, none⟩ = some (.int .i64 t274) := (z3 BK279.out 0).trans rfl
     have hcz87_1 : w52.cell? ⟨gb279, 1, none⟩ = some (.int .i64 t275) := (z3 BK279.out 1).trans rfl
     have hcz87_2 : w52.cell? ⟨gb279, 2, none⟩ = some (.int .i64 t276) := (z3 BK279.out 2).trans rfl
     have hfz87_0 := z9 BK279.out 0
     have hfz87_1 := z9 BK279.out 1
     have hfz87_2 := z9 BK279.out 2
     go_wp2_with (first | ((with_reducible refine zg (f := 24) rfl ?_); refine zr (some 46) rfl rfl Try.func24 (by kernel_rfl) rfl #[.agg #[.int .i64 t293, .int .i64 t294, .int .i64 t295], .agg #[.int .i64 t274, .int .i64 t275, .int .i64 t276]] rfl (by (try simp only [List.map_toArray, List.map_cons, List.map_nil]); first | done | rfl | (simp only [List.length_drop, List.length_take]; rfl)) ?_; (with_reducible refine (laws_eqHead.calls t293 t294 t295 t274 t275 t276 false _ A56.out).mono ?_); rintro e w88 ⟨rfl, hb⟩; refine ⟨_, rfl, ?_⟩; have n0_ := Aside0.mk (Kd.R_below (by (with_reducible repeat (first | apply Kd.R_alloc | apply Kd.R_drewN | apply Kd.R_drew)); exact (Kd.R_mono (Kd.R_far (p := ⟨gb298, 2, none⟩) (Kd.R_far (p := ⟨gb298, 1, none⟩) (Kd.R_far (p := ⟨gb298, 0, none⟩) (Kd.R_types HO266.out BK298.out (by decide)) (fun _ hk => hk.2) (.int .i64 t293)) (fun _ hk => hk.2) (.int .i64 t294)) (fun _ hk => hk.2) (.int .i64 t295)) (fun _ h_ => h_.1))) hb); have n1_ := Aside0.mk (Kd.R_below (by (with_reducible repeat (first | apply Kd.R_alloc | apply Kd.R_drewN | apply Kd.R_drew)); exact (Kd.R_mono (Kd.R_far (p := ⟨gb298, 2, none⟩) (Kd.R_far (p := ⟨gb298, 1, none⟩) (Kd.R_far (p := ⟨gb298, 0, none⟩) (Kd.R_types HO269.out BK298.out (by decide)) (fun _ hk => hk.2) (.int .i64 t293)) (fun _ hk => hk.2) (.int .i64 t294)) (fun _ hk => hk.2) (.int .i64 t295)) (fun _ h_ => h_.1))) hb); have n2_ := Aside0.mk (Kd.R_below (by (with_reducible repeat (first | apply Kd.R_alloc | apply Kd.R_drewN | apply Kd.R_drew)); exact (Kd.R_mono (Kd.R_far (p := ⟨gb298, 2, none⟩) (Kd.R_far (p := ⟨gb298, 1, none⟩) (Kd.R_far (p := ⟨gb298, 0, none⟩) (Kd.R_types HO284.out BK298.out (by decide)) (fun _ hk => hk.2) (.int .i64 t293)) (fun _ hk => hk.2) (.int .i64 t294)) (fun _ hk => hk.2) (.int .i64 t295)) (fun _ h_ => h_.1))) hb); have n3_ := Aside0.mk (Kd.R_below (by (with_reducible repeat (first | apply Kd.R_alloc | apply Kd.R_drewN | apply Kd.R_drew)); exact (Kd.R_mono (Kd.R_far (p := ⟨gb298, 2, none⟩) (Kd.R_far (p := ⟨gb298, 1, none⟩) (Kd.R_far (p := ⟨gb298, 0, none⟩) (Kd.R_types HO287.out BK298.out (by decide)) (fun _ hk => hk.2) (.int .i64 t293)) (fun _ hk => hk.2) (.int .i64 t294)) (fun _ hk => hk.2) (.int .i64 t295)) (fun _ h_ => h_.1))) hb); have n4_ := Aside0.mk (za (g := gb259) (o := .cells #[.int .i64 a0_0, .int .i64 a0_1, .slice A0_2 l0_2.length c0_2, .slice A0_3 l0_3.length c0_3] 29 (0, 0)) (by (with_reducible repeat (first | refine z5 ?_ _ | refine z8 ?_ | refine z4 ?_ _)); refine zk ?_ NB259_298.out _; (with_reducible repeat (first | refine z5 ?_ _ | refine z8 ?_ | refine z4 ?_ _)); refine zk ?_ NB259_298.out _; (with_reducible repeat (first | refine z5 ?_ _ | refine z8 ?_ | refine z4 ?_ _)); refine zk ?_ NB259_298.out _; (with_reducible repeat (first | refine z5 ?_ _ | refine z8 ?_ | refine z4 ?_ _)); exact BK259.out) hb); have n5_ := Aside0.mk (za (g := gb260) (o := .cells #[.int .i64 a1_0, .bool a1_1, .bool a1_2, .bool a1_3] 31 (0, 0)) (by (with_reducible repeat (first | refine z5 ?_ _ | refine z8 ?_ | refine z4 ?_ _)); refine zk ?_ NB260_298.out _; (with_reducible repeat (first | refine z5 ?_ _ | refine z8 ?_ | refine z4 ?_ _)); refine zk ?_ NB260_298.out _; (with_reducible repeat (first | refine z5 ?_ _ | refine z8 ?_ | refine z4 ?_ _)); refine zk ?_ NB260_298.out _; (with_reducible repeat (first | refine z5 ?_ _ | refine z8 ?_ | refine z4 ?_ _)); exact BK260.out) hb); have n6_ := Aside0.mk (za (g := gb279) (o := .cells #[.int .i64 t274, .int .i64 t275, .int .i64 t276] 34 (0, 0)) (by (with_reducible repeat (first | refine z5 ?_ _ | refine z8 ?_ | refine z4 ?_ _)); refine zk ?_ NB279_298.out _; (with_reducible repeat (first | refine z5 ?_ _ | refine z8 ?_ | refine z4 ?_ _)); refine zk ?_ NB279_298.out _; (with_reducible repeat (first | refine z5 ?_ _ | refine z8 ?_ | refine z4 ?_ _)); refine zk ?_ NB279_298.out _; (with_reducible repeat (first | refine z5 ?_ _ | refine z8 ?_ | refine z4 ?_ _)); exact BK279.out) hb); have n7_ := Aside0.mk (za (g := gb288) (o := .cells #[.int .i64 t280, .int .i64 t281, .slice Ao45 t282.length co45, .slice Ao46 t285.length co46] 37 (0, 0)) (by (with_reducible repeat (first | refine z5 ?_ _ | refine z8 ?_ | refine z4 ?_ _)); refine zk ?_ NB288_298.out _; (with_reducible repeat (first | refine z5 ?_ _ | refine z8 ?_ | refine z4 ?_ _)); refine zk ?_ NB288_298.out _; (with_reducible repeat (first | refine z5 ?_ _ | refine z8 ?_ | refine z4 ?_ _)); refine zk ?_ NB288_298.out _; (with_reducible repeat (first | refine z5 ?_ _ | refine z8 ?_ | refine z4 ?_ _)); exact BK288.out) hb); have n8_ := Aside0.mk (za (g := gb298) (o := .cells #[.int .i64 t293, .int .i64 t294, .int .i64 t295] 34 (0, 0)) (by (with_reducible repeat (first | refine z5 ?_ _ | refine z8 ?_ | refine z4 ?_ _)); refine zo (cs := #[.int .i64 t293, .int .i64 t294, .int .i64 0]) ?_ 2 _ rfl; (with_reducible repeat (first | refine z5 ?_ _ | refine z8 ?_ | refine z4 ?_ _)); refine zo (cs := #[.int .i64 t293, .int .i64 0, .int .i64 0]) ?_ 1 _ rfl; (with_reducible repeat (first | refine z5 ?_ _ | refine z8 ?_ | refine z4 ?_ _)); refine zo (cs := #[.int .i64 0, .int .i64 0, .int .i64 0]) ?_ 0 _ rfl; (with_reducible repeat (first | refine z5 ?_ _ | refine z8 ?_ | refine z4 ?_ _)); exact BK298.out) hb); have n9_ := Aside0.mk (zc (by repeat (first | (with_reducible first | exact HB.out | apply z7 | apply z1 | apply z6 | refine z2 ?_ GE259.out | refine z2 ?_ GE260.out | refine z2 ?_ GE279.out | refine z2 ?_ GE288.out | refine z2 ?_ GE298.out) | exact HB.out)) hb); clear HO266; clear HO269; clear HO284; clear HO287; clear BK259; clear BK260; clear BK279; clear BK288; clear BK298; clear HB; have HO266 := n0_; have HO269 := n1_; have HO284 := n2_; have HO287 := n3_; have BK259 := n4_; have BK260 := n5_; have BK279 := n6_; have BK288 := n7_; have BK298 := n8_; have HB := n9_; clear n0_ n1_ n2_ n3_ n4_ n5_ n6_ n7_ n8_ n9_; (try clear hb); (try clear hb2); (try clear hk); (try clear hi)))
     go_meet
     case rel => exact ⟨_, (true), (by first | rfl | (simp; done) | (simp [*]; done)), H', ⟨by first | omega | exact Nat.le_refl _⟩, ⟨by (with_reducible repeat (first | apply Kd.R_alloc | apply Kd.R_drewN | apply Kd.R_drew)); exact Kd.R_mono HO284.out (fun _ hk => hk.2.2)⟩, ⟨by (with_reducible repeat (first | apply Kd.R_alloc | apply Kd.R_drewN | apply Kd.R_drew)); exact Kd.R_mono HO287.out (fun _ hk => hk.2.2)⟩, ⟨by (with_reducible repeat (first | refine z5 ?_ _ | refine z8 ?_ | refine z4 ?_ _)); exact BK259.out⟩, ⟨by (with_reducible repeat (first | refine z5 ?_ _ | refine z8 ?_ | refine z4 ?_ _)); exact BK260.out⟩, ⟨by (with_reducible repeat (first | refine z5 ?_ _ | refine z8 ?_ | refine z4 ?_ _)); exact BK279.out⟩, ⟨by (with_reducible repeat (first | refine z5 ?_ _ | refine z8 ?_ | refine z4 ?_ _)); exact BK288.out⟩, ⟨by (with_reducible repeat (first | refine z5 ?_ _ | refine z8 ?_ | refine z4 ?_ _)); exact BK298.out⟩, ⟨by repeat (first | (with_reducible first | exact HB.out | apply z7 | apply z1 | apply z6 | refine z2 ?_ GE259.out | refine z2 ?_ GE260.out | refine z2 ?_ GE279.out | refine z2 ?_ GE288.out | refine z2 ?_ GE298.out) | exact HB.out)⟩⟩
   case rest =>
    clear HC20
    try clear c2
    try clear p2
    try clear c5
    try clear c6
    try clear c7
    try clear c8
    try clear c22
    try clear c23
    try clear c24
    try clear c57
    try clear c58
    try clear c58b0
    try clear c58b1
    try clear c59
    try clear c60
    try clear c61
    try clear c62
    try clear c64
    try clear c65
    try clear c66
    try clear c69
    try clear c70
    try clear c71
    try clear c72
    try clear c74
    try clear c75
    try clear c76
    try clear c79
    try clear c80
    try clear c81
    try clear c82
    try clear c84
    try clear c85
    try clear c86
    try clear hcz63_0
    try clear hcz63_1
    try clear hcz63_2
    try clear hcz67_0
    try clear hcz67_1
    try clear hcz67_2
    try clear hcz73_0
    try clear hcz73_1
    try clear hcz73_2
    try clear hcz77_0
    try clear hcz77_1
    try clear hcz77_2
    try clear hcz83_0
    try clear hcz83_1
    try clear hcz83_2
    try clear hcz87_0
    try clear hcz87_1
    try clear hcz87_2
    try clear hfz63_0
    try clear hfz63_1
    try clear hfz63_2
    try clear hfz67_0
    try clear hfz67_1
    try clear hfz67_2
    try clear hfz73_0
    try clear hfz73_1
    try clear hfz73_2
    try clear hfz77_0
    try clear hfz77_1
    try clear hfz77_2
    try clear hfz83_0
    try clear hfz83_1
    try clear hfz83_2
    try clear hfz87_0
    try clear hfz87_1
    try clear hfz87_2
    obtain ⟨kq, x57_19, rfl, HA, HJ19, HO_289002, HO_289003, BK259, BK260, BK279, BK288, BK298, HB⟩ := hcut
    cases kq with
    | zero => exact absurd HA.out (by simp [laws_FnExactReadHead.j0])
    | succ kj19 =>
     have H := HA.out
     clear HA
     simp only [laws_FnExactReadHead.j0] at H
     by_cases c89 : x57_19 = true
     ·subst c89
      have H1 : (some false) = some r := by rw [if_pos rfl] at H; exact H
      clear H
      have H := H1
      clear H1
      exact absurd (H.trans (congrArg some hr_.out)) (by simp)
     ·replace c89 := Bool.eq_false_iff.mpr c89
      subst c89
      have H1 : ((laws_toSeq.f kj19 a0_0 a0_1 l0_2 l0_3).bind fun bt300 => ((laws_eqSeq.f kj19 t280 t281 t282 t285 bt300.1 bt300.2.1 bt300.2.2.1 bt300.2.2.2).bind fun t308 => (if t308 = true then (some true) else (some false)))) = some r := by rw [if_neg (show ¬ (false = true) by decide)] at H; exact H
      clear H
      have H := H1
      clear H1
      replace H := Option.bind_eq_some_iff.mp H
      obtain ⟨⟨t300, t301, t302, t305⟩, A900, H⟩ := H
      replace H : ((laws_eqSeq.f kj19 t280 t281 t282 t285 t300 t301 t302 t305).bind fun t308 => (if t308 = true then (some true) else (some false))) = some r := H
      have A90 := Aside0.mk A900
      clear A900
      replace H := Option.bind_eq_some_iff.mp H
      obtain ⟨t308, A910, H⟩ := H
      replace H : (if t308 = true then (some true) else (some false)) = some r := H
      have A91 := Aside0.mk A910
      clear A910
      by_cases c92 : t308 = true
      ·subst c92
       have H1 : (some true) = some r := by rw [if_pos rfl] at H; exact H
       clear H
       have H := H1
       clear H1
       obtain rfl := Option.some.inj H
       try go_wp2
       have n0_ := Aside0.mk (Kd.R_drew HO_289002.out)
       have n1_ := Aside0.mk (Kd.R_drew HO_289003.out)
       have n2_ := Aside0.mk (z8 BK259.out)
       have n3_ := Aside0.mk (z8 BK260.out)
       have n4_ := Aside0.mk (z8 BK279.out)
       have n5_ := Aside0.mk (z8 BK288.out)
       have n6_ := Aside0.mk (z8 BK298.out)
       have n7_ := Aside0.mk (z6 HB.out)
       clear HO_289002
       clear HO_289003
       clear BK259
       clear BK260
       clear BK279
       clear BK288
       clear BK298
       clear HB
       have HO_289002 := n0_
       have HO_289003 := n1_
       have BK259 := n2_
       have BK260 := n3_
       have BK279 := n4_
       have BK288 := n5_
       have BK298 := n6_
       have HB := n7_
       clear n0_ n1_ n2_ n3_ n4_ n5_ n6_ n7_
       refine z91 (n := 5) (S := fun w' => w'.cell? ⟨gb288, 0, none⟩ = some (.int .i64 t280) ∧ w'.cell? ⟨gb288, 1, none⟩ = some (.int .i64 t281) ∧ w'.cell? ⟨gb288, 2, none⟩ = some (.slice Ao45 t282.length co45) ∧ w'.cell? ⟨gb288, 3, none⟩ = some (.slice Ao46 t285.length co46) ∧ w'.cell? ⟨gb259, 0, none⟩ = some (.int .i64 a0_0) ∧ w'.cell? ⟨gb259, 1, none⟩ = some (.int .i64 a0_1) ∧ w'.cell? ⟨gb259, 2, none⟩ = some (.slice A0_2 l0_2.length c0_2) ∧ w'.cell? ⟨gb259, 3, none⟩ = some (.slice A0_3 l0_3.length c0_3)) (ds := []) #[false, false, false, false, false] (by kernel_rfl) rfl rfl ⟨(z3 BK288.out 0).trans rfl, (z3 BK288.out 1).trans rfl, (z3 BK288.out 2).trans rfl, (z3 BK288.out 3).trans rfl, (z3 BK259.out 0).trans rfl, (z3 BK259.out 1).trans rfl, (z3 BK259.out 2).trans rfl, (z3 BK259.out 3).trans rfl⟩ (fun hHeld => ?_)
       generalize wc.drew = w93 at HO_289002 HO_289003 BK259 BK260 BK279 BK288 BK298 HB hHeld ⊢
       refine take_ (i := 0) (N := some 58) (v := ?_) (a' := ?_) #[true, false, false, false, false] rfl rfl (by kernel_rfl) (fun _ _ _ h => h) (Or.inl ⟨by rfl, ?_⟩) hHeld ?_ ?_
       rotate_left
       ·rintro w' ⟨s0, s1, s2, s3, s4, s5, s6, s7⟩
        go_simp
        with_reducible rfl
       rotate_left
       ·simp only [Act.put, List.setIfInBounds_toArray, List.set_cons_zero, List.set_cons_succ, ze, zf]
        rfl
       refine take_ (i := 1) (N := some 59) (v := ?_) (a' := ?_) #[true, true, false, false, false] rfl rfl (by kernel_rfl) (fun _ _ _ h => h) (Or.inl ⟨by rfl, ?_⟩) hHeld ?_ ?_
       rotate_left
       ·rintro w' ⟨s0, s1, s2, s3, s4, s5, s6, s7⟩
        go_simp
        with_reducible rfl
       rotate_left
       ·simp only [Act.put, List.setIfInBounds_toArray, List.set_cons_zero, List.set_cons_succ, ze, zf]
        rfl
       refine one_ (i := 2) (N := some 60) #[true, true, true, false, false] rfl rfl (by kernel_rfl) (by decide) (fun K hK => ?_)
       refine zx Try.func21 (by kernel_rfl) rfl #[.agg #[.int .i64 a0_0, .int .i64 a0_1, .slice A0_2 l0_2.length c0_2, .slice A0_3 l0_3.length c0_3]] (by rfl) rfl rfl (by (try simp only [List.map_toArray, List.map_cons, List.map_nil]); first | done | rfl | (simp only [List.length_drop, List.length_take]; rfl)) ?_
       with_reducible refine (laws_toSeq.calls kj19 a0_0 a0_1 _ _ l0_2 _ _ l0_3 t300 t301 t302 t305 _ ?side1 ?side2 ?side3 ?side4 A90.out).mono ?_
       (case side1 => repeat (first | exact (Kd.C_below HR0_2.out HB.out) | (with_reducible refine Kd.C_alloc ?_ _) | (with_reducible refine Kd.C_drewN ?_ _) | (with_reducible refine Kd.C_drew ?_)))
       (case side2 => exact HC0_2.out)
       (case side3 => repeat (first | exact (Kd.C_below HR0_3.out HB.out) | (with_reducible refine Kd.C_alloc ?_ _) | (with_reducible refine Kd.C_drewN ?_ _) | (with_reducible refine Kd.C_drew ?_)))
       (case side4 => exact HC0_3.out)
       rintro e w94 ⟨v303, v306, rfl, ho0, ho1, hb⟩
       refine ⟨_, rfl, ?_⟩
       have n0_ := Aside0.mk (Kd.R_mono (Kd.R_told (Kd.R_told (Kd.R_old (by (with_reducible repeat (first | apply Kd.R_alloc | apply Kd.R_drewN | apply Kd.R_drew)); exact HO_289002.out) hb) (Kd.R_base ho0)) (Kd.R_base ho1)) (fun _ h_ => h_.1))
       have n1_ := Aside0.mk (Kd.R_mono (Kd.R_told (Kd.R_told (Kd.R_old (by (with_reducible repeat (first | apply Kd.R_alloc | apply Kd.R_drewN | apply Kd.R_drew)); exact HO_289003.out) hb) (Kd.R_base ho0)) (Kd.R_base ho1)) (fun _ h_ => h_.1))
       have n2_ := Aside0.mk (Kd.R_lower (Kd.R_new' (Kd.R_new' ho0 (Kd.R_lt (by (with_reducible repeat (first | apply Kd.R_alloc | apply Kd.R_drewN | apply Kd.R_drew)); exact HO_289002.out))) (Kd.R_lt (by (with_reducible repeat (first | apply Kd.R_alloc | apply Kd.R_drewN | apply Kd.R_drew)); exact HO_289003.out))) (zb (by repeat (first | (with_reducible first | exact HB.out | apply z7 | apply z1 | apply z6 | refine z2 ?_ GE259.out | refine z2 ?_ GE260.out | refine z2 ?_ GE279.out | refine z2 ?_ GE288.out | refine z2 ?_ GE298.out) | exact HB.out))))
       have n3_ := Aside0.mk (Kd.R_lower (Kd.R_new' (Kd.R_new' ho1 (Kd.R_lt (by (with_reducible repeat (first | apply Kd.R_alloc | apply Kd.R_drewN | apply Kd.R_drew)); exact HO_289002.out))) (Kd.R_lt (by (with_reducible repeat (first | apply Kd.R_alloc | apply Kd.R_drewN | apply Kd.R_drew)); exact HO_289003.out))) (zb (by repeat (first | (with_reducible first | exact HB.out | apply z7 | apply z1 | apply z6 | refine z2 ?_ GE259.out | refine z2 ?_ GE260.out | refine z2 ?_ GE279.out | refine z2 ?_ GE288.out | refine z2 ?_ GE298.out) | exact HB.out))))
       have n4_ := Aside0.mk (za (g := gb259) (o := .cells #[.int .i64 a0_0, .int .i64 a0_1, .slice A0_2 l0_2.length c0_2, .slice A0_3 l0_3.length c0_3] 29 (0, 0)) (by (with_reducible repeat (first | refine z5 ?_ _ | refine z8 ?_ | refine z4 ?_ _)); exact BK259.out) hb)
       have n5_ := Aside0.mk (za (g := gb260) (o := .cells #[.int .i64 a1_0, .bool a1_1, .bool a1_2, .bool a1_3] 31 (0, 0)) (by (with_reducible repeat (first | refine z5 ?_ _ | refine z8 ?_ | refine z4 ?_ _)); exact BK260.out) hb)
       have n6_ := Aside0.mk (za (g := gb279) (o := .cells #[.int .i64 t274, .int .i64 t275, .int .i64 t276] 34 (0, 0)) (by (with_reducible repeat (first | refine z5 ?_ _ | refine z8 ?_ | refine z4 ?_ _)); exact BK279.out) hb)
       have n7_ := Aside0.mk (za (g := gb288) (o := .cells #[.int .i64 t280, .int .i64 t281, .slice Ao45 t282.length co45, .slice Ao46 t285.length co46] 37 (0, 0)) (by (with_reducible repeat (first | refine z5 ?_ _ | refine z8 ?_ | refine z4 ?_ _)); exact BK288.out) hb)
       have n8_ := Aside0.mk (za (g := gb298) (o := .cells #[.int .i64 t293, .int .i64 t294, .int .i64 t295] 34 (0, 0)) (by (with_reducible repeat (first | refine z5 ?_ _ | refine z8 ?_ | refine z4 ?_ _)); exact BK298.out) hb)
       have n9_ := Aside0.mk (zc (by repeat (first | (with_reducible first | exact HB.out | apply z7 | apply z1 | apply z6 | refine z2 ?_ GE259.out | refine z2 ?_ GE260.out | refine z2 ?_ GE279.out | refine z2 ?_ GE288.out | refine z2 ?_ GE298.out) | exact HB.out)) hb)
       clear HO_289002
       clear HO_289003
       clear BK259
       clear BK260
       clear BK279
       clear BK288
       clear BK298
       clear HB
       have HO_289002 := n0_
       have HO_289003 := n1_
       have HO304 := n2_
       have HO307 := n3_
       have BK259 := n4_
       have BK260 := n5_
       have BK279 := n6_
       have BK288 := n7_
       have BK298 := n8_
       have HB := n9_
       clear n0_ n1_ n2_ n3_ n4_ n5_ n6_ n7_ n8_ n9_
       (try clear hb)
       (try clear hb2)
       (try clear hk)
       (try clear hi)
       (try clear ho0)
       (try clear ho1)
       obtain ⟨Ao95, co95, eo95⟩ := Kd.R_slice HO304.out
       (first | subst eo95 | (injection eo95 with f1_ f2_ f3_; have f4_ := f1_.symm; have f5_ := f3_.symm; clear f1_ f2_ f3_; subst f4_; subst f5_))
       obtain ⟨Ao96, co96, eo96⟩ := Kd.R_slice HO307.out
       (first | subst eo96 | (injection eo96 with f1_ f2_ f3_; have f4_ := f1_.symm; have f5_ := f3_.symm; clear f1_ f2_ f3_; subst f4_; subst f5_))
       refine hK.out _ _ ⟨(z3 BK288.out 0).trans rfl, (z3 BK288.out 1).trans rfl, (z3 BK288.out 2).trans rfl, (z3 BK288.out 3).trans rfl, (z3 BK259.out 0).trans rfl, (z3 BK259.out 1).trans rfl, (z3 BK259.out 2).trans rfl, (z3 BK259.out 3).trans rfl⟩ (fun hHeld => ?_)
       clear hK K
       refine zw (a' := ?_) ?_ ?_
       rotate_left
       ·show Act.put _ (some 60) _ = _
        simp only [Act.put, List.setIfInBounds_toArray, List.set_cons_zero, List.set_cons_succ, ze, zf]
        rfl
       refine one_ (i := 3) (N := some 61) #[true, true, true, true, false] rfl rfl (by kernel_rfl) (by decide) (fun K hK => ?_)
       refine zx Try.func25 (by kernel_rfl) rfl #[.agg #[.int .i64 t280, .int .i64 t281, .slice Ao45 t282.length co45, .slice Ao46 t285.length co46], .agg #[.int .i64 t300, .int .i64 t301, .slice Ao95 t302.length co95, .slice Ao96 t305.length co96]] (by rfl) rfl rfl (by (try simp only [List.map_toArray, List.map_cons, List.map_nil]); first | done | rfl | (simp only [List.length_drop, List.length_take]; rfl)) ?_
       with_reducible refine (laws_eqSeq.calls kj19 t280 t281 _ _ t282 _ _ t285 t300 t301 _ _ t302 _ _ t305 true _ ?side1 ?side2 ?side3 ?side4 ?side5 ?side6 ?side7 ?side8 A91.out).mono ?_
       (case side1 => repeat (first | exact (Kd.R_reads' HO_289002.out).2.2 | (with_reducible refine Kd.C_alloc ?_ _) | (with_reducible refine Kd.C_drewN ?_ _) | (with_reducible refine Kd.C_drew ?_)))
       (case side2 => exact (Kd.R_reads' HO_289002.out).2.1)
       (case side3 => repeat (first | exact (Kd.R_reads' HO_289003.out).2.2 | (with_reducible refine Kd.C_alloc ?_ _) | (with_reducible refine Kd.C_drewN ?_ _) | (with_reducible refine Kd.C_drew ?_)))
       (case side4 => exact (Kd.R_reads' HO_289003.out).2.1)
       (case side5 => repeat (first | exact (Kd.R_reads' HO304.out).2.2 | (with_reducible refine Kd.C_alloc ?_ _) | (with_reducible refine Kd.C_drewN ?_ _) | (with_reducible refine Kd.C_drew ?_)))
       (case side6 => exact (Kd.R_reads' HO304.out).2.1)
       (case side7 => repeat (first | exact (Kd.R_reads' HO307.out).2.2 | (with_reducible refine Kd.C_alloc ?_ _) | (with_reducible refine Kd.C_drewN ?_ _) | (with_reducible refine Kd.C_drew ?_)))
       (case side8 => exact (Kd.R_reads' HO307.out).2.1)
       rintro e w97 ⟨rfl, hb⟩
       refine ⟨_, rfl, ?_⟩
       have n0_ := Aside0.mk (Kd.R_below (by (with_reducible repeat (first | apply Kd.R_alloc | apply Kd.R_drewN | apply Kd.R_drew)); exact HO_289002.out) hb)
       have n1_ := Aside0.mk (Kd.R_below (by (with_reducible repeat (first | apply Kd.R_alloc | apply Kd.R_drewN | apply Kd.R_drew)); exact HO_289003.out) hb)
       have n2_ := Aside0.mk (Kd.R_below (by (with_reducible repeat (first | apply Kd.R_alloc | apply Kd.R_drewN | apply Kd.R_drew)); exact HO304.out) hb)
       have n3_ := Aside0.mk (Kd.R_below (by (with_reducible repeat (first | apply Kd.R_alloc | apply Kd.R_drewN | apply Kd.R_drew)); exact HO307.out) hb)
       have n4_ := Aside0.mk (za (g := gb259) (o := .cells #[.int .i64 a0_0, .int .i64 a0_1, .slice A0_2 l0_2.length c0_2, .slice A0_3 l0_3.length c0_3] 29 (0, 0)) (by (with_reducible repeat (first | refine z5 ?_ _ | refine z8 ?_ | refine z4 ?_ _)); exact BK259.out) hb)
       have n5_ := Aside0.mk (za (g := gb260) (o := .cells #[.int .i64 a1_0, .bool a1_1, .bool a1_2, .bool a1_3] 31 (0, 0)) (by (with_reducible repeat (first | refine z5 ?_ _ | refine z8 ?_ | refine z4 ?_ _)); exact BK260.out) hb)
       have n6_ := Aside0.mk (za (g := gb279) (o := .cells #[.int .i64 t274, .int .i64 t275, .int .i64 t276] 34 (0, 0)) (by (with_reducible repeat (first | refine z5 ?_ _ | refine z8 ?_ | refine z4 ?_ _)); exact BK279.out) hb)
       have n7_ := Aside0.mk (za (g := gb288) (o := .cells #[.int .i64 t280, .int .i64 t281, .slice Ao45 t282.length co45, .slice Ao46 t285.length co46] 37 (0, 0)) (by (with_reducible repeat (first | refine z5 ?_ _ | refine z8 ?_ | refine z4 ?_ _)); exact BK288.out) hb)
       have n8_ := Aside0.mk (za (g := gb298) (o := .cells #[.int .i64 t293, .int .i64 t294, .int .i64 t295] 34 (0, 0)) (by (with_reducible repeat (first | refine z5 ?_ _ | refine z8 ?_ | refine z4 ?_ _)); exact BK298.out) hb)
       have n9_ := Aside0.mk (zc (by repeat (first | (with_reducible first | exact HB.out | apply z7 | apply z1 | apply z6 | refine z2 ?_ GE259.out | refine z2 ?_ GE260.out | refine z2 ?_ GE279.out | refine z2 ?_ GE288.out | refine z2 ?_ GE298.out) | exact HB.out)) hb)
       clear HO_289002
       clear HO_289003
       clear HO304
       clear HO307
       clear BK259
       clear BK260
       clear BK279
       clear BK288
       clear BK298
       clear HB
       have HO_289002 := n0_
       have HO_289003 := n1_
       have HO304 := n2_
       have HO307 := n3_
       have BK259 := n4_
       have BK260 := n5_
       have BK279 := n6_
       have BK288 := n7_
       have BK298 := n8_
       have HB := n9_
       clear n0_ n1_ n2_ n3_ n4_ n5_ n6_ n7_ n8_ n9_
       (try clear hb)
       (try clear hb2)
       (try clear hk)
       (try clear hi)
       refine hK.out _ _ ⟨(z3 BK288.out 0).trans rfl, (z3 BK288.out 1).trans rfl, (z3 BK288.out 2).trans rfl, (z3 BK288.out 3).trans rfl, (z3 BK259.out 0).trans rfl, (z3 BK259.out 1).trans rfl, (z3 BK259.out 2).trans rfl, (z3 BK259.out 3).trans rfl⟩ (fun hHeld => ?_)
       clear hK K
       refine zw (a' := ?_) ?_ ?_
       rotate_left
       ·show Act.put _ (some 61) _ = _
        simp only [Act.put, List.setIfInBounds_toArray, List.set_cons_zero, List.set_cons_succ, ze, zf]
        rfl
       refine zh (i := 4) (N := some 62) (v := ?_) (a' := ?_) #[true, true, true, true, true] rfl rfl (by kernel_rfl) (fun _ _ _ h => h) (Or.inl ⟨by rfl, ?_⟩) ?_ ?_
       rotate_left
       ·intro w'
        go_simp
        with_reducible rfl
       rotate_left
       ·simp only [Act.put, List.setIfInBounds_toArray, List.set_cons_zero, List.set_cons_succ, ze, zf]
        rfl
       refine zg1 (by kernel_rfl) ?_
       try go_wp2
       go_ret
       exact ⟨by first | rfl | (simp [errW_none, errW_some] <;> rfl) | (simp [*, errW_none, errW_some] <;> rfl), by repeat (first | (with_reducible first | exact HB.out | apply z7 | apply z1 | apply z6 | refine z2 ?_ GE259.out | refine z2 ?_ GE260.out | refine z2 ?_ GE279.out | refine z2 ?_ GE288.out | refine z2 ?_ GE298.out) | exact HB.out)⟩
      ·replace c92 := Bool.eq_false_iff.mpr c92
       subst c92
       have H1 : (some false) = some r := by rw [if_neg (show ¬ (false = true) by decide)] at H; exact H
       clear H
       have H := H1
       clear H1
       exact absurd (H.trans (congrArg some hr_.out)) (by simp)
end Go.Proofs.Ytibnnodjockcbaa.QFnExactReadHead
