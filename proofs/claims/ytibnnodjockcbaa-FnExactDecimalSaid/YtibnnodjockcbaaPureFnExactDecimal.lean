/- The program's Decimal returns what the reference's returns, for every number. -/
import Derived.Test.YtibnnodjockcbaaQFnExactDecimalx1
set_option linter.unusedVariables false
set_option linter.unusedSimpArgs false
namespace Go.Proofs.Ytibnnodjockcbaa.Pure
open Go.RowKit Go.Proofs.Ytibnnodjockcbaa.QFnExactDecimal Go.Proofs.YtibnnodjockcbaaW.PrintWords Go.Proofs.YtibnnodjockcbaaW.PrintLast Go.Proofs.YtibnnodjockcbaaW.PrintMore

/-! ### Bytes as lists of numbers, and some plain facts -/
theorem w64 {x : Int} (h0 : -9223372036854775808 ≤ x) (h1 : x ≤ 9223372036854775807) : wrap64 x = x := by
  unfold wrap64
  omega
theorem i64_bounds {x : Int} (h : (Lit.int .i64 x).wf = true) : -9223372036854775808 ≤ x ∧ x ≤ 9223372036854775807 := by
  have e := h
  simp [Lit.wf, IntKind.min, IntKind.max, IntKind.signed, IntKind.bits] at e
  omega
/-- All numbers of the list are bytes. -/
def Bys (l : List Int) : Prop := ∀ x, x ∈ l → 0 ≤ x ∧ x < 256
theorem Bys.nil : Bys [] := fun _ h => by cases h
theorem Bys.cons {x : Int} {l : List Int} (h0 : 0 ≤ x) (h1 : x < 256) (h : Bys l) : Bys (x :: l) := fun y hy => by
  rcases List.mem_cons.1 hy with rfl | hy
  · exact ⟨h0, h1⟩
  · exact h y hy
theorem Bys.append {l m : List Int} (h : Bys l) (h' : Bys m) : Bys (l ++ m) := fun y hy => by
  rcases List.mem_append.1 hy with hy | hy
  · exact h y hy
  · exact h' y hy
theorem Bys.left {l m : List Int} (h : Bys (l ++ m)) : Bys l := fun y hy => h y (List.mem_append_left _ hy)
theorem Bys.right {l m : List Int} (h : Bys (l ++ m)) : Bys m := fun y hy => h y (List.mem_append_right _ hy)
theorem Bys.take {l : List Int} (h : Bys l) (n : Nat) : Bys (l.take n) := fun y hy => h y (List.mem_of_mem_take hy)
theorem Bys.drop {l : List Int} (h : Bys l) (n : Nat) : Bys (l.drop n) := fun y hy => h y (List.mem_of_mem_drop hy)
theorem Bys.getD {l : List Int} (h : Bys l) (i : Nat) : 0 ≤ l.getD i 0 ∧ l.getD i 0 < 256 := by
  rw [List.getD_eq_getElem?_getD]
  by_cases hi : i < l.length
  · rw [List.getElem?_eq_getElem hi]
    exact h _ (List.getElem_mem hi)
  · rw [List.getElem?_eq_none (by omega)]
    exact ⟨by decide, by decide⟩
theorem nums_of (a : ByteArray) : ∃ l, Bys l ∧ a = strOfNums l := by
  refine ⟨a.data.toList.map fun u => (u.toNat : Int), ?_, ?_⟩
  · intro x hx
    obtain ⟨u, _, rfl⟩ := List.mem_map.1 hx
    have := u.toNat_lt
    omega
  · unfold strOfNums
    rw [List.map_map]
    have e : ((fun n : Int => UInt8.ofNat n.toNat) ∘ fun u : UInt8 => (u.toNat : Int)) = id := by
      funext u
      simp
    rw [e, List.map_id]
theorem str_size (l : List Int) : (strOfNums l).size = l.length := strOfNums_size l
theorem bt_str {l : List Int} (h : Bys l) (i : Int) : bt (strOfNums l) i = l.getD i.toNat 0 := by
  unfold bt
  rw [List.getD_eq_getElem?_getD]
  split
  · rename_i hi
    have hi' : i.toNat < l.length := by rw [← str_size]; exact hi
    rw [List.getElem?_eq_getElem hi']
    have hb := h _ (List.getElem_mem hi')
    have e : (strOfNums l)[i.toNat]'hi = UInt8.ofNat (l[i.toNat]).toNat := by
      simp [strOfNums, ByteArray.getElem_eq_getElem_data]
    rw [e, UInt8.toNat_ofNat']
    simp only [Option.getD_some]
    omega
  · rename_i hi
    rw [List.getElem?_eq_none (by rw [← str_size]; omega)]
    rfl
theorem bt_get {l : List Int} (h : Bys l) {i : Int} {n : Nat} (hi : i = (n : Int)) : bt (strOfNums l) i = l.getD n 0 := by
  rw [bt_str h, hi, Int.toNat_natCast]
theorem str_append (l m : List Int) : strOfNums l ++ strOfNums m = strOfNums (l ++ m) := by
  apply ByteArray.ext
  rw [ByteArray.data_append]
  unfold strOfNums
  simp
theorem str_empty : (⟨#[]⟩ : ByteArray) = strOfNums [] := rfl
theorem str_inj {l m : List Int} (hl : Bys l) (hm : Bys m) (h : strOfNums l = strOfNums m) : l = m := by
  have hs : l.length = m.length := by rw [← str_size l, ← str_size m, h]
  apply List.ext_getElem hs
  intro i h1 h2
  have e1 := bt_get hl (i := (i : Int)) rfl
  have e2 := bt_get hm (i := (i : Int)) rfl
  rw [h, e2] at e1
  simp [List.getD_eq_getElem?_getD, h1, h2] at e1
  exact e1.symm
theorem str_extract (l : List Int) (i j : Nat) : (strOfNums l).extract i j = strOfNums ((l.take j).drop i) := by
  apply ByteArray.ext
  rw [ByteArray.data_extract]
  unfold strOfNums
  apply Array.ext'
  simp [List.extract_eq_take_drop, List.drop_take, List.map_drop, List.map_take]
theorem getD_mid (pre suf : List Int) (x : Int) : (pre ++ x :: suf).getD pre.length 0 = x := by
  rw [List.getD_eq_getElem?_getD, List.getElem?_append_right (Nat.le_refl _)]
  simp
theorem bt_mid {pre suf : List Int} {x : Int} (h : Bys (pre ++ x :: suf)) : bt (strOfNums (pre ++ x :: suf)) (pre.length : Int) = x := by
  rw [bt_get h rfl, getD_mid]
theorem rd_mid (pre suf : List Int) (x : Int) : rd (pre ++ x :: suf) (pre.length : Int) = x := by
  unfold rd
  rw [Int.toNat_natCast, getD_mid]
theorem snoc_cons (pre suf : List Int) (x : Int) : pre ++ x :: suf = (pre ++ [x]) ++ suf := by simp
theorem next_len (pre : List Int) (x : Int) (h : pre.length < 4611686018427387904) : wrap64 ((pre.length : Int) + 1) = ((pre ++ [x]).length : Int) := by
  rw [w64 (by omega) (by omega)]
  simp
theorem lt_mid (pre suf : List Int) (x : Int) : (pre.length : Int) < ((strOfNums (pre ++ x :: suf)).size : Int) := by
  rw [str_size]
  simp
  omega
theorem ge_end (pre : List Int) : ¬ ((pre.length : Int) < ((strOfNums pre).size : Int)) := by
  rw [str_size]
  omega
theorem mid_byte {pre suf : List Int} {x : Int} (h : Bys (pre ++ x :: suf)) : 0 ≤ x ∧ x < 256 := h x (by simp)
/-- The decimal figures of a number above 0. -/
def decd (n : Nat) : List Int := if h : n = 0 then [] else decd (n / 10) ++ [48 + ((n % 10 : Nat) : Int)]
termination_by n
decreasing_by omega
theorem decd_zero : decd 0 = [] := by rw [decd]; simp
theorem decd_pos (n : Nat) (h : n ≠ 0) : decd n = decd (n / 10) ++ [48 + ((n % 10 : Nat) : Int)] := by rw [decd]; simp [h]
/-- Decimal. -/
def deci (n : Int) : List Int := if n = 0 then [48] else (if n < 0 then [45] else []) ++ decd n.natAbs
theorem abs_facts (x : Int) : ((Int.tmod x 10).natAbs = x.natAbs % 10) ∧ ((Int.tdiv x 10).natAbs = x.natAbs / 10) := ⟨Int.natAbs_tmod _ _, Int.natAbs_tdiv _ _⟩
theorem exact_sb {g h : Nat → Option (ByteArray × Bool)} {v : ByteArray × Bool} (hg : Ev g v) (hh : Ev h v) :
    Ev (fun k => (g k).bind fun b1 => (h k).bind fun b2 => if b2.1.toList = b1.1.toList then (if (b2.2 != b1.2) = true then some false else some true) else some false) true := by
  refine Ev.bind hg (Ev.bind hh ?_)
  simp only [if_true, bne_self_eq_false, Bool.false_eq_true, if_false]
  exact Ev.now _
theorem exact_i {g h : Nat → Option Int} {v : Int} (hg : Ev g v) (hh : Ev h v) :
    Ev (fun k => (g k).bind fun b1 => (h k).bind fun b2 => if b2 = b1 then some true else some false) true := by
  refine Ev.bind hg (Ev.bind hh ?_)
  simp only [if_true]
  exact Ev.now _
theorem exact_s {g h : Nat → Option ByteArray} {v : ByteArray} (hg : Ev g v) (hh : Ev h v) :
    Ev (fun k => (g k).bind fun b1 => (h k).bind fun b2 => if b2.toList = b1.toList then some true else some false) true := by
  refine Ev.bind hg (Ev.bind hh ?_)
  simp only [if_true]
  exact Ev.now _
theorem exact_ib {g h : Nat → Option (Int × Bool)} {v : Int × Bool} (hg : Ev g v) (hh : Ev h v) :
    Ev (fun k => (g k).bind fun b1 => (h k).bind fun b2 => if b2.1 = b1.1 then (if (b2.2 != b1.2) = true then some false else some true) else some false) true := by
  refine Ev.bind hg (Ev.bind hh ?_)
  simp only [if_true, bne_self_eq_false, Bool.false_eq_true, if_false]
  exact Ev.now _
theorem exact_iib {g h : Nat → Option (Int × Int × Bool)} {v : Int × Int × Bool} (hg : Ev g v) (hh : Ev h v) :
    Ev (fun k => (g k).bind fun b1 => (h k).bind fun b2 => if b2.1 = b1.1 then (if b2.2.1 = b1.2.1 then (if (b2.2.2 != b1.2.2) = true then some false else some true) else some false) else some false) true := by
  refine Ev.bind hg (Ev.bind hh ?_)
  simp only [if_true, bne_self_eq_false, Bool.false_eq_true, if_false]
  exact Ev.now _
theorem exact_b {g h : Nat → Option Bool} {v : Bool} (hg : Ev g v) (hh : Ev h v) :
    Ev (fun k => (g k).bind fun b1 => (h k).bind fun b2 => if (b2 != b1) = true then some false else some true) true := by
  refine Ev.bind hg (Ev.bind hh ?_)
  simp only [bne_self_eq_false, Bool.false_eq_true, if_false]
  exact Ev.now _
theorem ev_now {α : Type} {g : Nat → Option α} {v : α} (h : ∀ k, g k = some v) : Ev g v := Ev.congr h (Ev.now v)
def fg (x : Int) : Int := if x < 10 then 48 + x else 87 + x
theorem figure_val (x : Int) (h0 : 0 ≤ x) (h1 : x < 16) : spec_l01Figure.f x = some (fg x) := by
  unfold spec_l01Figure.f fg
  by_cases h : x < 10
  · rw [if_pos h, if_pos h, w64 (by omega) (by omega), Int.emod_eq_of_lt (by omega) (by omega)]
  · rw [if_neg h, if_neg h, w64 (x := 97 + x) (by omega) (by omega), w64 (by omega) (by omega), Int.emod_eq_of_lt (by omega) (by omega)]
    congr 1
    omega
theorem spec_dec_loop : ∀ (j : Nat) (x : Int) (neg : Bool) (acc : List Int), x.natAbs < 10 ^ j → x.natAbs ≤ 9223372036854775808 → acc.length + j ≤ 1000 →
    Ev (fun k => spec_Decimal.l0 k x neg (strOfNums acc)) (strOfNums ((if neg = true then [45] else []) ++ (decd x.natAbs ++ acc)))
  | j, x, neg, acc, hj, hx, ha => by
    obtain ⟨e1, e2⟩ := abs_facts x
    by_cases h0 : x = 0
    · subst h0
      rw [show (0 : Int).natAbs = 0 from rfl, decd_zero, List.nil_append]
      cases neg
      · refine Ev.step (f := fun _ => some (strOfNums acc)) (fun k => ?_) (Ev.now _)
        simp only [spec_Decimal.l0, if_true, Bool.false_eq_true, if_false]
      · refine Ev.step (f := fun _ => some (strOfNums ([45] ++ acc))) (fun k => ?_) (Ev.now _)
        simp only [spec_Decimal.l0, if_true]
        rw [if_pos (by rw [str_size]; omega), ← str_append]
        rfl
    · obtain ⟨j, rfl⟩ : ∃ i, j = i + 1 := by
        cases j with
        | zero => simp at hj; omega
        | succ i => exact ⟨i, rfl⟩
      have hj' : x.natAbs / 10 < 10 ^ j := by
        rw [Nat.pow_succ] at hj
        omega
      have ih := spec_dec_loop j (Int.tdiv x 10) neg ([48 + ((x.natAbs % 10 : Nat) : Int)] ++ acc) (by rw [e2]; exact hj') (by rw [e2]; omega) (by simp; omega)
      rw [e2] at ih
      rw [decd_pos _ (by omega), List.append_assoc (decd _)]
      refine Ev.step (fun k => ?_) ih
      simp only [spec_Decimal.l0]
      rw [if_neg h0, w64 (x := Int.tdiv x 10) (by omega) (by omega)]
      have hs : (strOfNums [48 + ((x.natAbs % 10 : Nat) : Int)]).size + (strOfNums acc).size ≤ 9223372036854775807 := by
        rw [str_size, str_size]
        simp
        omega
      by_cases hn : Int.tmod x 10 < 0
      · rw [if_pos hn, w64 (by omega) (by omega), figure_val _ (by omega) (by omega), show fg (-(Int.tmod x 10)) = 48 + ((x.natAbs % 10 : Nat) : Int) by unfold fg; rw [if_pos (by omega)]; omega]
        simp only [Option.bind_some]
        rw [if_pos hs, str_append]
      · rw [if_neg hn, figure_val _ (by omega) (by omega), show fg (Int.tmod x 10) = 48 + ((x.natAbs % 10 : Nat) : Int) by unfold fg; rw [if_pos (by omega)]; omega]
        simp only [Option.bind_some]
        rw [if_pos hs, str_append]
theorem spec_dec_ev (x : Int) (h0 : -9223372036854775808 ≤ x) (h1 : x ≤ 9223372036854775807) : Ev (fun k => spec_Decimal.f k x) (strOfNums (deci x)) := by
  by_cases h : x = 0
  · refine ev_now (fun k => ?_)
    unfold spec_Decimal.f deci
    rw [if_pos h, if_pos h]
    rfl
  · have hl := spec_dec_loop 20 x (decide (x < 0)) [] (by omega) (by omega) (by simp)
    unfold deci
    rw [if_neg h]
    rw [List.append_nil] at hl
    simp only [decide_eq_true_eq] at hl
    refine Ev.congr (fun k => ?_) hl
    unfold spec_Decimal.f
    rw [if_neg h]
    rfl
theorem cut_figure : ∀ m : Fin 10, ((⟨#[48, 49, 50, 51, 52, 53, 54, 55, 56, 57, 97, 98, 99, 100, 101, 102]⟩ : ByteArray).extract (m : Nat) ((m : Nat) + 1)) = strOfNums [48 + ((m : Nat) : Int)] := by decide +kernel
theorem impl_dec_loop : ∀ (j : Nat) (x n : Int) (acc : List Int), x.natAbs < 10 ^ j → x.natAbs ≤ 9223372036854775808 → acc.length + j ≤ 1000 →
    Ev (fun k => impl_Decimal.l0 k n (strOfNums acc) x) (strOfNums ((if n < 0 then [45] else []) ++ (decd x.natAbs ++ acc)))
  | j, x, n, acc, hj, hx, ha => by
    obtain ⟨e1, e2⟩ := abs_facts x
    by_cases h0 : x = 0
    · subst h0
      rw [show (0 : Int).natAbs = 0 from rfl, decd_zero, List.nil_append]
      by_cases hn : n < 0
      · refine Ev.step (f := fun _ => some (strOfNums ([45] ++ acc))) (fun k => ?_) (by rw [if_pos hn]; exact Ev.now _)
        simp only [impl_Decimal.l0, if_true]
        rw [if_pos hn, if_pos (by rw [str_size]; omega), ← str_append]
        rfl
      · refine Ev.step (f := fun _ => some (strOfNums acc)) (fun k => ?_) (by rw [if_neg hn]; exact Ev.now _)
        simp only [impl_Decimal.l0, if_true]
        rw [if_neg hn]
    · obtain ⟨j, rfl⟩ : ∃ i, j = i + 1 := by
        cases j with
        | zero => simp at hj; omega
        | succ i => exact ⟨i, rfl⟩
      have hj' : x.natAbs / 10 < 10 ^ j := by
        rw [Nat.pow_succ] at hj
        omega
      have ih := impl_dec_loop j (Int.tdiv x 10) n ([48 + ((x.natAbs % 10 : Nat) : Int)] ++ acc) (by rw [e2]; exact hj') (by rw [e2]; omega) (by simp; omega)
      rw [e2] at ih
      rw [decd_pos _ (by omega), List.append_assoc (decd _)]
      refine Ev.step (fun k => ?_) ih
      simp only [impl_Decimal.l0]
      have hm : mx (Int.tmod x 10) (wrap64 (-(Int.tmod x 10))) = ((x.natAbs % 10 : Nat) : Int) := by
        rw [w64 (by omega) (by omega)]
        unfold mx
        split <;> omega
      rw [if_neg h0, hm, w64 (x := Int.tdiv x 10) (by omega) (by omega), w64 (by omega) (by omega), if_pos (by omega), if_pos (by omega), if_pos (by omega)]
      have hc := cut_figure ⟨x.natAbs % 10, by omega⟩
      simp only at hc
      rw [show (((x.natAbs % 10 : Nat) : Int) + 1).toNat = x.natAbs % 10 + 1 by omega, Int.toNat_natCast, hc, if_pos (by rw [str_size, str_size]; simp; omega), str_append]
theorem impl_dec_ev (x : Int) (h0 : -9223372036854775808 ≤ x) (h1 : x ≤ 9223372036854775807) : Ev (fun k => impl_Decimal.f k x) (strOfNums (deci x)) := by
  by_cases h : x = 0
  · refine ev_now (fun k => ?_)
    unfold impl_Decimal.f deci
    rw [if_pos h, if_pos h]
    rfl
  · have hl := impl_dec_loop 20 x x [] (by omega) (by omega) (by simp)
    unfold deci
    rw [if_neg h]
    rw [List.append_nil] at hl
    refine Ev.congr (fun k => ?_) hl
    unfold impl_Decimal.f
    rw [if_neg h]
    rfl
theorem FnExactDecimal : laws_FnExactDecimal.Pure := by
  intro n hn
  have hb := i64_bounds hn
  refine Ev.rounds ?_
  unfold laws_FnExactDecimal.f
  exact exact_s (spec_dec_ev n hb.1 hb.2) (impl_dec_ev n hb.1 hb.2)

end Go.Proofs.Ytibnnodjockcbaa.Pure
