/- The program's ReadDecimal returns what the reference's returns, for every text. -/
import Derived.Test.YtaohobbpbcecbaaQFnExactReadDecimalx1
set_option linter.unusedVariables false
set_option linter.unusedSimpArgs false
namespace Go.Proofs.Ytaohobbpbcecbaa.Pure
open Go.RowKit Go.Proofs.Ytaohobbpbcecbaa.QFnExactReadDecimal Go.Proofs.YtaohobbpbcecbaaW.PrintWords Go.Proofs.YtaohobbpbcecbaaW.PrintLast Go.Proofs.YtaohobbpbcecbaaW.PrintMore

/-! ### Bytes as lists of numbers, and some plain facts -/
theorem w64 {x : Int} (h0 : -9223372036854775808 ≤ x) (h1 : x ≤ 9223372036854775807) : wrap64 x = x := by
  unfold wrap64
  omega
theorem i64_bounds {x : Int} (h : (Lit.int .i64 x).wf = true) : -9223372036854775808 ≤ x ∧ x ≤ 9223372036854775807 := by
  have e := h
  simp [Lit.wf, IntKind.min, IntKind.max, IntKind.signed, IntKind.bits] at e
  omega
/-- All numbers of the list are bytes. -/
def Bys (l : List Int) : Prop := ∀ x, x ∈ l → 0 ≤ x ∧ x < 256
theorem Bys.nil : Bys [] := fun _ h => by cases h
theorem Bys.cons {x : Int} {l : List Int} (h0 : 0 ≤ x) (h1 : x < 256) (h : Bys l) : Bys (x :: l) := fun y hy => by
  rcases List.mem_cons.1 hy with rfl | hy
  · exact ⟨h0, h1⟩
  · exact h y hy
theorem Bys.append {l m : List Int} (h : Bys l) (h' : Bys m) : Bys (l ++ m) := fun y hy => by
  rcases List.mem_append.1 hy with hy | hy
  · exact h y hy
  · exact h' y hy
theorem Bys.left {l m : List Int} (h : Bys (l ++ m)) : Bys l := fun y hy => h y (List.mem_append_left _ hy)
theorem Bys.right {l m : List Int} (h : Bys (l ++ m)) : Bys m := fun y hy => h y (List.mem_append_right _ hy)
theorem Bys.take {l : List Int} (h : Bys l) (n : Nat) : Bys (l.take n) := fun y hy => h y (List.mem_of_mem_take hy)
theorem Bys.drop {l : List Int} (h : Bys l) (n : Nat) : Bys (l.drop n) := fun y hy => h y (List.mem_of_mem_drop hy)
theorem Bys.getD {l : List Int} (h : Bys l) (i : Nat) : 0 ≤ l.getD i 0 ∧ l.getD i 0 < 256 := by
  rw [List.getD_eq_getElem?_getD]
  by_cases hi : i < l.length
  · rw [List.getElem?_eq_getElem hi]
    exact h _ (List.getElem_mem hi)
  · rw [List.getElem?_eq_none (by omega)]
    exact ⟨by decide, by decide⟩
theorem nums_of (a : ByteArray) : ∃ l, Bys l ∧ a = strOfNums l := by
  refine ⟨a.data.toList.map fun u => (u.toNat : Int), ?_, ?_⟩
  · intro x hx
    obtain ⟨u, _, rfl⟩ := List.mem_map.1 hx
    have := u.toNat_lt
    omega
  · unfold strOfNums
    rw [List.map_map]
    have e : ((fun n : Int => UInt8.ofNat n.toNat) ∘ fun u : UInt8 => (u.toNat : Int)) = id := by
      funext u
      simp
    rw [e, List.map_id]
theorem str_size (l : List Int) : (strOfNums l).size = l.length := strOfNums_size l
theorem bt_str {l : List Int} (h : Bys l) (i : Int) : bt (strOfNums l) i = l.getD i.toNat 0 := by
  unfold bt
  rw [List.getD_eq_getElem?_getD]
  split
  · rename_i hi
    have hi' : i.toNat < l.length := by rw [← str_size]; exact hi
    rw [List.getElem?_eq_getElem hi']
    have hb := h _ (List.getElem_mem hi')
    have e : (strOfNums l)[i.toNat]'hi = UInt8.ofNat (l[i.toNat]).toNat := by
      simp [strOfNums, ByteArray.getElem_eq_getElem_data]
    rw [e, UInt8.toNat_ofNat']
    simp only [Option.getD_some]
    omega
  · rename_i hi
    rw [List.getElem?_eq_none (by rw [← str_size]; omega)]
    rfl
theorem bt_get {l : List Int} (h : Bys l) {i : Int} {n : Nat} (hi : i = (n : Int)) : bt (strOfNums l) i = l.getD n 0 := by
  rw [bt_str h, hi, Int.toNat_natCast]
theorem str_append (l m : List Int) : strOfNums l ++ strOfNums m = strOfNums (l ++ m) := by
  apply ByteArray.ext
  rw [ByteArray.data_append]
  unfold strOfNums
  simp
theorem str_empty : (⟨#[]⟩ : ByteArray) = strOfNums [] := rfl
theorem str_inj {l m : List Int} (hl : Bys l) (hm : Bys m) (h : strOfNums l = strOfNums m) : l = m := by
  have hs : l.length = m.length := by rw [← str_size l, ← str_size m, h]
  apply List.ext_getElem hs
  intro i h1 h2
  have e1 := bt_get hl (i := (i : Int)) rfl
  have e2 := bt_get hm (i := (i : Int)) rfl
  rw [h, e2] at e1
  simp [List.getD_eq_getElem?_getD, h1, h2] at e1
  exact e1.symm
theorem str_extract (l : List Int) (i j : Nat) : (strOfNums l).extract i j = strOfNums ((l.take j).drop i) := by
  apply ByteArray.ext
  rw [ByteArray.data_extract]
  unfold strOfNums
  apply Array.ext'
  simp [List.extract_eq_take_drop, List.drop_take, List.map_drop, List.map_take]
theorem getD_mid (pre suf : List Int) (x : Int) : (pre ++ x :: suf).getD pre.length 0 = x := by
  rw [List.getD_eq_getElem?_getD, List.getElem?_append_right (Nat.le_refl _)]
  simp
theorem bt_mid {pre suf : List Int} {x : Int} (h : Bys (pre ++ x :: suf)) : bt (strOfNums (pre ++ x :: suf)) (pre.length : Int) = x := by
  rw [bt_get h rfl, getD_mid]
theorem rd_mid (pre suf : List Int) (x : Int) : rd (pre ++ x :: suf) (pre.length : Int) = x := by
  unfold rd
  rw [Int.toNat_natCast, getD_mid]
theorem snoc_cons (pre suf : List Int) (x : Int) : pre ++ x :: suf = (pre ++ [x]) ++ suf := by simp
theorem next_len (pre : List Int) (x : Int) (h : pre.length < 4611686018427387904) : wrap64 ((pre.length : Int) + 1) = ((pre ++ [x]).length : Int) := by
  rw [w64 (by omega) (by omega)]
  simp
theorem lt_mid (pre suf : List Int) (x : Int) : (pre.length : Int) < ((strOfNums (pre ++ x :: suf)).size : Int) := by
  rw [str_size]
  simp
  omega
theorem ge_end (pre : List Int) : ¬ ((pre.length : Int) < ((strOfNums pre).size : Int)) := by
  rw [str_size]
  omega
theorem mid_byte {pre suf : List Int} {x : Int} (h : Bys (pre ++ x :: suf)) : 0 ≤ x ∧ x < 256 := h x (by simp)
/-- The decimal figures of a number above 0. -/
def decd (n : Nat) : List Int := if h : n = 0 then [] else decd (n / 10) ++ [48 + ((n % 10 : Nat) : Int)]
termination_by n
decreasing_by omega
theorem decd_zero : decd 0 = [] := by rw [decd]; simp
theorem decd_pos (n : Nat) (h : n ≠ 0) : decd n = decd (n / 10) ++ [48 + ((n % 10 : Nat) : Int)] := by rw [decd]; simp [h]
/-- Decimal. -/
def deci (n : Int) : List Int := if n = 0 then [48] else (if n < 0 then [45] else []) ++ decd n.natAbs
theorem abs_facts (x : Int) : ((Int.tmod x 10).natAbs = x.natAbs % 10) ∧ ((Int.tdiv x 10).natAbs = x.natAbs / 10) := ⟨Int.natAbs_tmod _ _, Int.natAbs_tdiv _ _⟩
theorem exact_sb {g h : Nat → Option (ByteArray × Bool)} {v : ByteArray × Bool} (hg : Ev g v) (hh : Ev h v) :
    Ev (fun k => (g k).bind fun b1 => (h k).bind fun b2 => if b2.1.toList = b1.1.toList then (if (b2.2 != b1.2) = true then some false else some true) else some false) true := by
  refine Ev.bind hg (Ev.bind hh ?_)
  simp only [if_true, bne_self_eq_false, Bool.false_eq_true, if_false]
  exact Ev.now _
theorem exact_i {g h : Nat → Option Int} {v : Int} (hg : Ev g v) (hh : Ev h v) :
    Ev (fun k => (g k).bind fun b1 => (h k).bind fun b2 => if b2 = b1 then some true else some false) true := by
  refine Ev.bind hg (Ev.bind hh ?_)
  simp only [if_true]
  exact Ev.now _
theorem exact_s {g h : Nat → Option ByteArray} {v : ByteArray} (hg : Ev g v) (hh : Ev h v) :
    Ev (fun k => (g k).bind fun b1 => (h k).bind fun b2 => if b2.toList = b1.toList then some true else some false) true := by
  refine Ev.bind hg (Ev.bind hh ?_)
  simp only [if_true]
  exact Ev.now _
theorem exact_ib {g h : Nat → Option (Int × Bool)} {v : Int × Bool} (hg : Ev g v) (hh : Ev h v) :
    Ev (fun k => (g k).bind fun b1 => (h k).bind fun b2 => if b2.1 = b1.1 then (if (b2.2 != b1.2) = true then some false else some true) else some false) true := by
  refine Ev.bind hg (Ev.bind hh ?_)
  simp only [if_true, bne_self_eq_false, Bool.false_eq_true, if_false]
  exact Ev.now _
theorem exact_iib {g h : Nat → Option (Int × Int × Bool)} {v : Int × Int × Bool} (hg : Ev g v) (hh : Ev h v) :
    Ev (fun k => (g k).bind fun b1 => (h k).bind fun b2 => if b2.1 = b1.1 then (if b2.2.1 = b1.2.1 then (if (b2.2.2 != b1.2.2) = true then some false else some true) else some false) else some false) true := by
  refine Ev.bind hg (Ev.bind hh ?_)
  simp only [if_true, bne_self_eq_false, Bool.false_eq_true, if_false]
  exact Ev.now _
theorem exact_b {g h : Nat → Option Bool} {v : Bool} (hg : Ev g v) (hh : Ev h v) :
    Ev (fun k => (g k).bind fun b1 => (h k).bind fun b2 => if (b2 != b1) = true then some false else some true) true := by
  refine Ev.bind hg (Ev.bind hh ?_)
  simp only [bne_self_eq_false, Bool.false_eq_true, if_false]
  exact Ev.now _
theorem ev_now {α : Type} {g : Nat → Option α} {v : α} (h : ∀ k, g k = some v) : Ev g v := Ev.congr h (Ev.now v)
def fg (x : Int) : Int := if x < 10 then 48 + x else 87 + x
theorem figure_val (x : Int) (h0 : 0 ≤ x) (h1 : x < 16) : spec_l01Figure.f x = some (fg x) := by
  unfold spec_l01Figure.f fg
  by_cases h : x < 10
  · rw [if_pos h, if_pos h, w64 (by omega) (by omega), Int.emod_eq_of_lt (by omega) (by omega)]
  · rw [if_neg h, if_neg h, w64 (x := 97 + x) (by omega) (by omega), w64 (by omega) (by omega), Int.emod_eq_of_lt (by omega) (by omega)]
    congr 1
    omega
theorem spec_dec_loop : ∀ (j : Nat) (x : Int) (neg : Bool) (acc : List Int), x.natAbs < 10 ^ j → x.natAbs ≤ 9223372036854775808 → acc.length + j ≤ 1000 →
    Ev (fun k => spec_Decimal.l0 k x neg (strOfNums acc)) (strOfNums ((if neg = true then [45] else []) ++ (decd x.natAbs ++ acc)))
  | j, x, neg, acc, hj, hx, ha => by
    obtain ⟨e1, e2⟩ := abs_facts x
    by_cases h0 : x = 0
    · subst h0
      rw [show (0 : Int).natAbs = 0 from rfl, decd_zero, List.nil_append]
      cases neg
      · refine Ev.step (f := fun _ => some (strOfNums acc)) (fun k => ?_) (Ev.now _)
        simp only [spec_Decimal.l0, if_true, Bool.false_eq_true, if_false]
      · refine Ev.step (f := fun _ => some (strOfNums ([45] ++ acc))) (fun k => ?_) (Ev.now _)
        simp only [spec_Decimal.l0, if_true]
        rw [if_pos (by rw [str_size]; omega), ← str_append]
        rfl
    · obtain ⟨j, rfl⟩ : ∃ i, j = i + 1 := by
        cases j with
        | zero => simp at hj; omega
        | succ i => exact ⟨i, rfl⟩
      have hj' : x.natAbs / 10 < 10 ^ j := by
        rw [Nat.pow_succ] at hj
        omega
      have ih := spec_dec_loop j (Int.tdiv x 10) neg ([48 + ((x.natAbs % 10 : Nat) : Int)] ++ acc) (by rw [e2]; exact hj') (by rw [e2]; omega) (by simp; omega)
      rw [e2] at ih
      rw [decd_pos _ (by omega), List.append_assoc (decd _)]
      refine Ev.step (fun k => ?_) ih
      simp only [spec_Decimal.l0]
      rw [if_neg h0, w64 (x := Int.tdiv x 10) (by omega) (by omega)]
      have hs : (strOfNums [48 + ((x.natAbs % 10 : Nat) : Int)]).size + (strOfNums acc).size ≤ 9223372036854775807 := by
        rw [str_size, str_size]
        simp
        omega
      by_cases hn : Int.tmod x 10 < 0
      · rw [if_pos hn, w64 (by omega) (by omega), figure_val _ (by omega) (by omega), show fg (-(Int.tmod x 10)) = 48 + ((x.natAbs % 10 : Nat) : Int) by unfold fg; rw [if_pos (by omega)]; omega]
        simp only [Option.bind_some]
        rw [if_pos hs, str_append]
      · rw [if_neg hn, figure_val _ (by omega) (by omega), show fg (Int.tmod x 10) = 48 + ((x.natAbs % 10 : Nat) : Int) by unfold fg; rw [if_pos (by omega)]; omega]
        simp only [Option.bind_some]
        rw [if_pos hs, str_append]
theorem spec_dec_ev (x : Int) (h0 : -9223372036854775808 ≤ x) (h1 : x ≤ 9223372036854775807) : Ev (fun k => spec_Decimal.f k x) (strOfNums (deci x)) := by
  by_cases h : x = 0
  · refine ev_now (fun k => ?_)
    unfold spec_Decimal.f deci
    rw [if_pos h, if_pos h]
    rfl
  · have hl := spec_dec_loop 20 x (decide (x < 0)) [] (by omega) (by omega) (by simp)
    unfold deci
    rw [if_neg h]
    rw [List.append_nil] at hl
    simp only [decide_eq_true_eq] at hl
    refine Ev.congr (fun k => ?_) hl
    unfold spec_Decimal.f
    rw [if_neg h]
    rfl
theorem cut_figure : ∀ m : Fin 10, ((⟨#[48, 49, 50, 51, 52, 53, 54, 55, 56, 57, 97, 98, 99, 100, 101, 102]⟩ : ByteArray).extract (m : Nat) ((m : Nat) + 1)) = strOfNums [48 + ((m : Nat) : Int)] := by decide +kernel
theorem impl_dec_loop : ∀ (j : Nat) (x n : Int) (acc : List Int), x.natAbs < 10 ^ j → x.natAbs ≤ 9223372036854775808 → acc.length + j ≤ 1000 →
    Ev (fun k => impl_Decimal.l0 k n (strOfNums acc) x) (strOfNums ((if n < 0 then [45] else []) ++ (decd x.natAbs ++ acc)))
  | j, x, n, acc, hj, hx, ha => by
    obtain ⟨e1, e2⟩ := abs_facts x
    by_cases h0 : x = 0
    · subst h0
      rw [show (0 : Int).natAbs = 0 from rfl, decd_zero, List.nil_append]
      by_cases hn : n < 0
      · refine Ev.step (f := fun _ => some (strOfNums ([45] ++ acc))) (fun k => ?_) (by rw [if_pos hn]; exact Ev.now _)
        simp only [impl_Decimal.l0, if_true]
        rw [if_pos hn, if_pos (by rw [str_size]; omega), ← str_append]
        rfl
      · refine Ev.step (f := fun _ => some (strOfNums acc)) (fun k => ?_) (by rw [if_neg hn]; exact Ev.now _)
        simp only [impl_Decimal.l0, if_true]
        rw [if_neg hn]
    · obtain ⟨j, rfl⟩ : ∃ i, j = i + 1 := by
        cases j with
        | zero => simp at hj; omega
        | succ i => exact ⟨i, rfl⟩
      have hj' : x.natAbs / 10 < 10 ^ j := by
        rw [Nat.pow_succ] at hj
        omega
      have ih := impl_dec_loop j (Int.tdiv x 10) n ([48 + ((x.natAbs % 10 : Nat) : Int)] ++ acc) (by rw [e2]; exact hj') (by rw [e2]; omega) (by simp; omega)
      rw [e2] at ih
      rw [decd_pos _ (by omega), List.append_assoc (decd _)]
      refine Ev.step (fun k => ?_) ih
      simp only [impl_Decimal.l0]
      have hm : mx (Int.tmod x 10) (wrap64 (-(Int.tmod x 10))) = ((x.natAbs % 10 : Nat) : Int) := by
        rw [w64 (by omega) (by omega)]
        unfold mx
        split <;> omega
      rw [if_neg h0, hm, w64 (x := Int.tdiv x 10) (by omega) (by omega), w64 (by omega) (by omega), if_pos (by omega), if_pos (by omega), if_pos (by omega)]
      have hc := cut_figure ⟨x.natAbs % 10, by omega⟩
      simp only at hc
      rw [show (((x.natAbs % 10 : Nat) : Int) + 1).toNat = x.natAbs % 10 + 1 by omega, Int.toNat_natCast, hc, if_pos (by rw [str_size, str_size]; simp; omega), str_append]
theorem impl_dec_ev (x : Int) (h0 : -9223372036854775808 ≤ x) (h1 : x ≤ 9223372036854775807) : Ev (fun k => impl_Decimal.f k x) (strOfNums (deci x)) := by
  by_cases h : x = 0
  · refine ev_now (fun k => ?_)
    unfold impl_Decimal.f deci
    rw [if_pos h, if_pos h]
    rfl
  · have hl := impl_dec_loop 20 x x [] (by omega) (by omega) (by simp)
    unfold deci
    rw [if_neg h]
    rw [List.append_nil] at hl
    refine Ev.congr (fun k => ?_) hl
    unfold impl_Decimal.f
    rw [if_neg h]
    rfl
theorem str_toList (l : List Int) : (strOfNums l).toList = l.map fun n => UInt8.ofNat n.toNat := by
  rw [Go.ByteArray.toList_eq, strOfNums_data]
theorem str_toList_nil {l : List Int} : (strOfNums l).toList = ([] : List UInt8) ↔ l = [] := by
  rw [str_toList, List.map_eq_nil_iff]
theorem str_toList_inj {l m : List Int} (hl : Bys l) (hm : Bys m) : (strOfNums l).toList = (strOfNums m).toList ↔ l = m := by
  constructor
  · intro h
    apply str_inj hl hm
    apply ByteArray.ext
    apply Array.ext'
    rw [← Go.ByteArray.toList_eq, ← Go.ByteArray.toList_eq, h]
  · intro h
    rw [h]
theorem within_yes {x lo hi : Int} (h0 : lo ≤ x) (h1 : x ≤ hi) : impl_within.f x lo hi = some true := by
  unfold impl_within.f
  rw [if_pos h0, decide_eq_true h1]
theorem within_no {x lo hi : Int} (h : ¬ (lo ≤ x ∧ x ≤ hi)) : impl_within.f x lo hi = some false := by
  unfold impl_within.f
  by_cases h0 : lo ≤ x
  · rw [if_pos h0, decide_eq_false (fun h1 => h ⟨h0, h1⟩)]
  · rw [if_neg h0]
theorem within_any (x lo hi : Int) : impl_within.f x lo hi = some (decide (lo ≤ x ∧ x ≤ hi)) := by
  by_cases h : lo ≤ x ∧ x ≤ hi
  · rw [within_yes h.1 h.2, decide_eq_true h]
  · rw [within_no h, decide_eq_false h]
theorem deci_bys (n : Int) : Bys (deci n) := by
  have hd : ∀ j m : Nat, m < j → Bys (decd m) := by
    intro j
    induction j with
    | zero => intro m hm; omega
    | succ j ih =>
      intro m hm
      by_cases h0 : m = 0
      · subst h0
        rw [decd_zero]
        exact Bys.nil
      · rw [decd_pos m h0]
        exact Bys.append (ih _ (by omega)) (Bys.cons (by omega) (by omega) Bys.nil)
  unfold deci
  split
  · exact Bys.cons (by decide) (by decide) Bys.nil
  · refine Bys.append ?_ (hd _ _ (Nat.lt_succ_self _))
    split
    · exact Bys.cons (by decide) (by decide) Bys.nil
    · exact Bys.nil
theorem both_loops : ∀ (suf pre : List Int) (n : Int), Bys (pre ++ suf) → (pre ++ suf).length ≤ 10 → 0 ≤ n → n < 10 ^ pre.length →
    ∃ r, Ev (fun k => spec_ReadDecimal.l0 k (strOfNums (pre ++ suf)) n (pre.length : Int)) r ∧ Ev (fun k => impl_ReadDecimal.l0 k (strOfNums (pre ++ suf)) n (pre.length : Int)) r
  | [], pre, n, hb, hl, h0, h1 => by
    rw [List.append_nil] at hb hl ⊢
    by_cases hm : n > 1000000000
    · refine ⟨(0, false), Ev.step (f := fun _ => some (0, false)) (fun k => ?_) (Ev.now _), Ev.step (f := fun _ => some (0, false)) (fun k => ?_) (Ev.now _)⟩
      · simp only [spec_ReadDecimal.l0]
        rw [if_neg (ge_end pre), if_pos hm]
      · simp only [impl_ReadDecimal.l0]
        rw [if_neg (ge_end pre), if_pos hm]
    · by_cases he : (strOfNums (deci n)).toList = (strOfNums pre).toList
      · refine ⟨(n, true), Ev.step (f := fun k => (spec_Decimal.f k n).bind fun t => (if t.toList = (strOfNums pre).toList then (some (n, true)) else (some (0, false)))) (fun k => ?_) (Ev.bind (spec_dec_ev n (by omega) (by omega)) ?_), Ev.step (f := fun k => (impl_Decimal.f k n).bind fun t => (if t.toList = (strOfNums pre).toList then (some (n, true)) else (some (0, false)))) (fun k => ?_) (Ev.bind (impl_dec_ev n (by omega) (by omega)) ?_)⟩
        · simp only [spec_ReadDecimal.l0]
          rw [if_neg (ge_end pre), if_neg hm]
        · simp only [if_pos he]
          exact Ev.now _
        · simp only [impl_ReadDecimal.l0]
          rw [if_neg (ge_end pre), if_neg hm]
        · simp only [if_pos he]
          exact Ev.now _
      · refine ⟨(0, false), Ev.step (f := fun k => (spec_Decimal.f k n).bind fun t => (if t.toList = (strOfNums pre).toList then (some (n, true)) else (some (0, false)))) (fun k => ?_) (Ev.bind (spec_dec_ev n (by omega) (by omega)) ?_), Ev.step (f := fun k => (impl_Decimal.f k n).bind fun t => (if t.toList = (strOfNums pre).toList then (some (n, true)) else (some (0, false)))) (fun k => ?_) (Ev.bind (impl_dec_ev n (by omega) (by omega)) ?_)⟩
        · simp only [spec_ReadDecimal.l0]
          rw [if_neg (ge_end pre), if_neg hm]
        · simp only [if_neg he]
          exact Ev.now _
        · simp only [impl_ReadDecimal.l0]
          rw [if_neg (ge_end pre), if_neg hm]
        · simp only [if_neg he]
          exact Ev.now _
  | x :: suf, pre, n, hb, hl, h0, h1 => by
    have hx1 := mid_byte hb
    have hl' : pre.length + (suf.length + 1) ≤ 10 := by simpa using hl
    have hlt := lt_mid pre suf x
    have hnext := next_len pre x (by omega)
    have hpow : (10 : Int) ^ pre.length ≤ 10 ^ 9 := by
      have : (10 : Nat) ^ pre.length ≤ 10 ^ 9 := Nat.pow_le_pow_right (by decide) (by omega)
      exact_mod_cast this
    by_cases hd : x < 48
    · refine ⟨(0, false), Ev.step (f := fun _ => some (0, false)) (fun k => ?_) (Ev.now _), Ev.step (f := fun _ => some (0, false)) (fun k => ?_) (Ev.now _)⟩
      · simp only [spec_ReadDecimal.l0]
        rw [if_pos hlt, if_pos (by omega), bt_mid hb, if_pos hd]
      · simp only [impl_ReadDecimal.l0]
        rw [if_pos hlt, if_pos (by omega), bt_mid hb, if_pos hd]
    · by_cases hu : x > 57
      · refine ⟨(0, false), Ev.step (f := fun _ => some (0, false)) (fun k => ?_) (Ev.now _), Ev.step (f := fun _ => some (0, false)) (fun k => ?_) (Ev.now _)⟩
        · simp only [spec_ReadDecimal.l0]
          rw [if_pos hlt, if_pos (by omega), bt_mid hb, if_neg hd, if_pos hu]
        · simp only [impl_ReadDecimal.l0]
          rw [if_pos hlt, if_pos (by omega), bt_mid hb, if_neg hd, if_pos hu]
      · have hn2 : 10 * n + (x - 48) < 10 ^ (pre ++ [x]).length := by
          simp only [List.length_append, List.length_cons, List.length_nil]
          rw [Int.pow_succ]
          omega
        obtain ⟨r, hr1, hr2⟩ := both_loops suf (pre ++ [x]) (10 * n + (x - 48)) (by rw [← snoc_cons]; exact hb) (by rw [← snoc_cons]; exact hl) (by omega) hn2
        simp only [← snoc_cons] at hr1 hr2
        refine ⟨r, Ev.step (fun k => ?_) hr1, Ev.step (fun k => ?_) hr2⟩
        · simp only [spec_ReadDecimal.l0]
          rw [if_pos hlt, if_pos (by omega), bt_mid hb, if_neg hd, if_neg hu, hnext, w64 (x := 10 * n) (by omega) (by omega), w64 (x := x) (by omega) (by omega), w64 (x := 10 * n + x) (by omega) (by omega), w64 (by omega) (by omega), show 10 * n + x - 48 = 10 * n + (x - 48) by omega]
        · simp only [impl_ReadDecimal.l0]
          rw [if_pos hlt, if_pos (by omega), bt_mid hb, if_neg hd, if_neg hu, hnext, w64 (x := 10 * n) (by omega) (by omega), Int.emod_eq_of_lt (a := x - 48) (by omega) (by omega), w64 (by omega) (by omega)]
theorem FnExactReadDecimal : laws_FnExactReadDecimal.Pure := by
  intro a _
  obtain ⟨l, hb, rfl⟩ := nums_of a
  by_cases hbig : ((strOfNums l).size : Int) > 1048576
  · exact ⟨0, by unfold laws_FnExactReadDecimal.f; rw [if_pos hbig]⟩
  · refine Ev.rounds ?_
    unfold laws_FnExactReadDecimal.f
    simp only [if_neg hbig]
    by_cases hc : ((strOfNums l).size : Int) > 10
    · refine exact_ib (v := (0, false)) (ev_now fun k => ?_) (ev_now fun k => ?_)
      · unfold spec_ReadDecimal.f
        rw [if_pos hc]
      · unfold impl_ReadDecimal.f
        rw [within_no (by omega)]
        rfl
    · have hl : l.length ≤ 10 := by rw [str_size] at hc; omega
      obtain ⟨r, hr1, hr2⟩ := both_loops l [] 0 hb hl (by decide) (by decide)
      simp only [List.nil_append] at hr1 hr2
      have hs : Ev (fun k => spec_ReadDecimal.f k (strOfNums l)) r := by
        refine Ev.congr (fun k => ?_) hr1
        unfold spec_ReadDecimal.f
        rw [if_neg hc]
        rfl
      by_cases he : l = []
      · subst he
        have h2 : Ev (fun k => spec_ReadDecimal.l0 k (strOfNums []) 0 0) (0, false) := by
          refine Ev.step (f := fun k => (spec_Decimal.f k 0).bind fun t => (if t.toList = (strOfNums []).toList then (some (0, true)) else (some (0, false)))) (fun k => ?_) (Ev.bind (spec_dec_ev 0 (by decide) (by decide)) ?_)
          · simp only [spec_ReadDecimal.l0]
            rw [if_neg (by rw [str_size]; simp), if_neg (by decide)]
          · have : ¬ (strOfNums (deci 0)).toList = (strOfNums []).toList := by
              rw [str_toList_inj (deci_bys 0) Bys.nil]
              unfold deci
              simp
            simp only [if_neg this]
            exact Ev.now _
        refine exact_ib (v := (0, false)) (Ev.congr (fun k => ?_) h2) (ev_now fun k => ?_)
        · unfold spec_ReadDecimal.f
          rw [if_neg hc]
        · unfold impl_ReadDecimal.f
          rw [within_no (by rw [str_size]; simp)]
          rfl
      · have hpos := List.length_pos_iff.2 he
        have hi : Ev (fun k => impl_ReadDecimal.f k (strOfNums l)) r := by
          refine Ev.congr (fun k => ?_) hr2
          unfold impl_ReadDecimal.f
          rw [within_yes (by rw [str_size]; omega) (by omega)]
          rfl
        exact exact_ib hs hi

end Go.Proofs.Ytaohobbpbcecbaa.Pure
