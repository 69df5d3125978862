/- The program's Hex returns what the reference's returns, for every text. -/
import Derived.Test.YtkbehnnnfiakgaaQFnExactHexx1
set_option linter.unusedVariables false
set_option linter.unusedSimpArgs false
namespace Go.Proofs.Ytkbehnnnfiakgaa.Pure
open Go.RowKit Go.Proofs.Ytkbehnnnfiakgaa.QFnExactHex Go.Proofs.YtkbehnnnfiakgaaW.PrintWords Go.Proofs.YtkbehnnnfiakgaaW.PrintLast Go.Proofs.YtkbehnnnfiakgaaW.PrintMore

/-! ### Bytes as lists of numbers, and some plain facts -/
theorem w64 {x : Int} (h0 : -9223372036854775808 ≤ x) (h1 : x ≤ 9223372036854775807) : wrap64 x = x := by
  unfold wrap64
  omega
theorem i64_bounds {x : Int} (h : (Lit.int .i64 x).wf = true) : -9223372036854775808 ≤ x ∧ x ≤ 9223372036854775807 := by
  have e := h
  simp [Lit.wf, IntKind.min, IntKind.max, IntKind.signed, IntKind.bits] at e
  omega
/-- All numbers of the list are bytes. -/
def Bys (l : List Int) : Prop := ∀ x, x ∈ l → 0 ≤ x ∧ x < 256
theorem Bys.nil : Bys [] := fun _ h => by cases h
theorem Bys.cons {x : Int} {l : List Int} (h0 : 0 ≤ x) (h1 : x < 256) (h : Bys l) : Bys (x :: l) := fun y hy => by
  rcases List.mem_cons.1 hy with rfl | hy
  · exact ⟨h0, h1⟩
  · exact h y hy
theorem Bys.append {l m : List Int} (h : Bys l) (h' : Bys m) : Bys (l ++ m) := fun y hy => by
  rcases List.mem_append.1 hy with hy | hy
  · exact h y hy
  · exact h' y hy
theorem Bys.left {l m : List Int} (h : Bys (l ++ m)) : Bys l := fun y hy => h y (List.mem_append_left _ hy)
theorem Bys.right {l m : List Int} (h : Bys (l ++ m)) : Bys m := fun y hy => h y (List.mem_append_right _ hy)
theorem Bys.take {l : List Int} (h : Bys l) (n : Nat) : Bys (l.take n) := fun y hy => h y (List.mem_of_mem_take hy)
theorem Bys.drop {l : List Int} (h : Bys l) (n : Nat) : Bys (l.drop n) := fun y hy => h y (List.mem_of_mem_drop hy)
theorem Bys.getD {l : List Int} (h : Bys l) (i : Nat) : 0 ≤ l.getD i 0 ∧ l.getD i 0 < 256 := by
  rw [List.getD_eq_getElem?_getD]
  by_cases hi : i < l.length
  · rw [List.getElem?_eq_getElem hi]
    exact h _ (List.getElem_mem hi)
  · rw [List.getElem?_eq_none (by omega)]
    exact ⟨by decide, by decide⟩
theorem nums_of (a : ByteArray) : ∃ l, Bys l ∧ a = strOfNums l := by
  refine ⟨a.data.toList.map fun u => (u.toNat : Int), ?_, ?_⟩
  · intro x hx
    obtain ⟨u, _, rfl⟩ := List.mem_map.1 hx
    have := u.toNat_lt
    omega
  · unfold strOfNums
    rw [List.map_map]
    have e : ((fun n : Int => UInt8.ofNat n.toNat) ∘ fun u : UInt8 => (u.toNat : Int)) = id := by
      funext u
      simp
    rw [e, List.map_id]
theorem str_size (l : List Int) : (strOfNums l).size = l.length := strOfNums_size l
theorem bt_str {l : List Int} (h : Bys l) (i : Int) : bt (strOfNums l) i = l.getD i.toNat 0 := by
  unfold bt
  rw [List.getD_eq_getElem?_getD]
  split
  · rename_i hi
    have hi' : i.toNat < l.length := by rw [← str_size]; exact hi
    rw [List.getElem?_eq_getElem hi']
    have hb := h _ (List.getElem_mem hi')
    have e : (strOfNums l)[i.toNat]'hi = UInt8.ofNat (l[i.toNat]).toNat := by
      simp [strOfNums, ByteArray.getElem_eq_getElem_data]
    rw [e, UInt8.toNat_ofNat']
    simp only [Option.getD_some]
    omega
  · rename_i hi
    rw [List.getElem?_eq_none (by rw [← str_size]; omega)]
    rfl
theorem bt_get {l : List Int} (h : Bys l) {i : Int} {n : Nat} (hi : i = (n : Int)) : bt (strOfNums l) i = l.getD n 0 := by
  rw [bt_str h, hi, Int.toNat_natCast]
theorem str_append (l m : List Int) : strOfNums l ++ strOfNums m = strOfNums (l ++ m) := by
  apply ByteArray.ext
  rw [ByteArray.data_append]
  unfold strOfNums
  simp
theorem str_empty : (⟨#[]⟩ : ByteArray) = strOfNums [] := rfl
theorem str_inj {l m : List Int} (hl : Bys l) (hm : Bys m) (h : strOfNums l = strOfNums m) : l = m := by
  have hs : l.length = m.length := by rw [← str_size l, ← str_size m, h]
  apply List.ext_getElem hs
  intro i h1 h2
  have e1 := bt_get hl (i := (i : Int)) rfl
  have e2 := bt_get hm (i := (i : Int)) rfl
  rw [h, e2] at e1
  simp [List.getD_eq_getElem?_getD, h1, h2] at e1
  exact e1.symm
theorem str_extract (l : List Int) (i j : Nat) : (strOfNums l).extract i j = strOfNums ((l.take j).drop i) := by
  apply ByteArray.ext
  rw [ByteArray.data_extract]
  unfold strOfNums
  apply Array.ext'
  simp [List.extract_eq_take_drop, List.drop_take, List.map_drop, List.map_take]
theorem getD_mid (pre suf : List Int) (x : Int) : (pre ++ x :: suf).getD pre.length 0 = x := by
  rw [List.getD_eq_getElem?_getD, List.getElem?_append_right (Nat.le_refl _)]
  simp
theorem bt_mid {pre suf : List Int} {x : Int} (h : Bys (pre ++ x :: suf)) : bt (strOfNums (pre ++ x :: suf)) (pre.length : Int) = x := by
  rw [bt_get h rfl, getD_mid]
theorem rd_mid (pre suf : List Int) (x : Int) : rd (pre ++ x :: suf) (pre.length : Int) = x := by
  unfold rd
  rw [Int.toNat_natCast, getD_mid]
theorem snoc_cons (pre suf : List Int) (x : Int) : pre ++ x :: suf = (pre ++ [x]) ++ suf := by simp
theorem next_len (pre : List Int) (x : Int) (h : pre.length < 4611686018427387904) : wrap64 ((pre.length : Int) + 1) = ((pre ++ [x]).length : Int) := by
  rw [w64 (by omega) (by omega)]
  simp
theorem lt_mid (pre suf : List Int) (x : Int) : (pre.length : Int) < ((strOfNums (pre ++ x :: suf)).size : Int) := by
  rw [str_size]
  simp
  omega
theorem ge_end (pre : List Int) : ¬ ((pre.length : Int) < ((strOfNums pre).size : Int)) := by
  rw [str_size]
  omega
theorem mid_byte {pre suf : List Int} {x : Int} (h : Bys (pre ++ x :: suf)) : 0 ≤ x ∧ x < 256 := h x (by simp)
def fg (x : Int) : Int := if x < 10 then 48 + x else 87 + x
def hx : List Int → List Int
  | [] => []
  | x :: l => fg (x / 16) :: fg (x % 16) :: hx l
theorem hx_len : ∀ l : List Int, (hx l).length = 2 * l.length
  | [] => rfl
  | x :: l => by simp only [hx, List.length_cons, hx_len l]; omega
theorem figure_val (x : Int) (h0 : 0 ≤ x) (h1 : x < 16) : spec_l01Figure.f x = some (fg x) := by
  unfold spec_l01Figure.f fg
  by_cases h : x < 10
  · rw [if_pos h, if_pos h, w64 (by omega) (by omega), Int.emod_eq_of_lt (by omega) (by omega)]
  · rw [if_neg h, if_neg h, w64 (x := 97 + x) (by omega) (by omega), w64 (by omega) (by omega), Int.emod_eq_of_lt (by omega) (by omega)]
    congr 1
    omega
theorem spec_loop : ∀ (suf pre acc : List Int), Bys (pre ++ suf) → (pre ++ suf).length ≤ 20000 → acc.length ≤ 2 * pre.length →
    Ev (fun k => spec_Hex.l0 k (strOfNums (pre ++ suf)) acc (pre.length : Int)) (strOfNums (acc ++ hx suf), true)
  | [], pre, acc, hb, hl, ha => by
    refine Ev.step (f := fun _ => some (strOfNums acc, true)) (fun k => ?_) (by simp only [hx, List.append_nil]; exact Ev.now _)
    simp only [spec_Hex.l0, List.append_nil]
    rw [if_neg (ge_end pre)]
  | x :: suf, pre, acc, hb, hl, ha => by
    have hx1 := mid_byte hb
    have hl' : pre.length + (suf.length + 1) ≤ 20000 := by simpa using hl
    have ih := spec_loop suf (pre ++ [x]) (acc ++ [fg (x / 16), fg (x % 16)]) (by rw [← snoc_cons]; exact hb) (by rw [← snoc_cons]; exact hl) (by simp; omega)
    rw [← snoc_cons, List.append_assoc] at ih
    refine Ev.step (fun k => ?_) ih
    simp only [spec_Hex.l0]
    rw [if_pos (lt_mid pre suf x), if_pos (by omega), bt_mid hb, w64 (x := x) (by omega) (by omega)]
    rw [Int.tdiv_eq_ediv_of_nonneg hx1.1, Int.tmod_eq_emod_of_nonneg hx1.1, w64 (x := x / 16) (by omega) (by omega)]
    rw [figure_val _ (by omega) (by omega), figure_val _ (by omega) (by omega)]
    simp only [Option.bind_some]
    rw [if_pos (by simp; omega), next_len pre x (by omega)]
theorem table : ∀ m : Fin 16, bt (⟨#[48, 49, 50, 51, 52, 53, 54, 55, 56, 57, 97, 98, 99, 100, 101, 102]⟩ : ByteArray) ((m : Nat) : Int) = fg ((m : Nat) : Int) := by decide +kernel
theorem table_val (x : Int) (h0 : 0 ≤ x) (h1 : x < 16) : bt (⟨#[48, 49, 50, 51, 52, 53, 54, 55, 56, 57, 97, 98, 99, 100, 101, 102]⟩ : ByteArray) x = fg x := by
  obtain ⟨n, rfl⟩ := Int.eq_ofNat_of_zero_le h0
  exact table ⟨n, by omega⟩
theorem and15 : ∀ m : Fin 256, Go.bits .and .u8 ((m : Nat) : Int) 15 = ((m : Nat) : Int) % 16 := by decide +kernel
theorem and15_val (x : Int) (h0 : 0 ≤ x) (h1 : x < 256) : Go.bits .and .u8 x 15 = x % 16 := by
  obtain ⟨n, rfl⟩ := Int.eq_ofNat_of_zero_le h0
  exact and15 ⟨n, by omega⟩
theorem impl_loop : ∀ (suf pre acc : List Int), Bys (pre ++ suf) → (pre ++ suf).length ≤ 20000 → acc.length ≤ 2 * pre.length →
    Ev (fun k => impl_Hex.l0 k (strOfNums (pre ++ suf)) acc (pre.length : Int)) (strOfNums (acc ++ hx suf), true)
  | [], pre, acc, hb, hl, ha => by
    refine Ev.step (f := fun _ => some (strOfNums acc, true)) (fun k => ?_) (by simp only [hx, List.append_nil]; exact Ev.now _)
    simp only [impl_Hex.l0, List.append_nil]
    rw [if_neg (ge_end pre)]
  | x :: suf, pre, acc, hb, hl, ha => by
    have hx1 := mid_byte hb
    have hl' : pre.length + (suf.length + 1) ≤ 20000 := by simpa using hl
    have ih := impl_loop suf (pre ++ [x]) (acc ++ [fg (x / 16), fg (x % 16)]) (by rw [← snoc_cons]; exact hb) (by rw [← snoc_cons]; exact hl) (by simp; omega)
    rw [← snoc_cons, List.append_assoc] at ih
    refine Ev.step (fun k => ?_) ih
    simp only [impl_Hex.l0]
    rw [if_pos (lt_mid pre suf x), if_pos (by omega), bt_mid hb, and15_val _ hx1.1 hx1.2]
    rw [if_pos (by omega), if_pos (by omega), if_pos (by omega), if_pos (by omega), table_val _ (by omega) (by omega), table_val _ (by omega) (by omega)]
    simp only [Option.bind_some]
    rw [if_pos (by simp; omega), next_len pre x (by omega)]
theorem FnExactHex : laws_FnExactHex.Pure := by
  intro a _
  obtain ⟨l, hb, rfl⟩ := nums_of a
  by_cases hbig : ((strOfNums l).size : Int) > 1048576
  · exact ⟨0, by unfold laws_FnExactHex.f; rw [if_pos hbig]⟩
  · by_cases hc : ((strOfNums l).size : Int) > 20000
    · refine ⟨0, ?_⟩
      unfold laws_FnExactHex.f spec_Hex.f impl_Hex.f
      rw [if_neg hbig, if_pos hc, if_pos hc]
      simp
    · have hl : l.length ≤ 20000 := by rw [str_size] at hc; omega
      have h1 := spec_loop l [] [] hb hl (Nat.zero_le _)
      have h2 := impl_loop l [] [] hb hl (Nat.zero_le _)
      refine Ev.rounds ?_
      unfold laws_FnExactHex.f spec_Hex.f impl_Hex.f
      simp only [if_neg hbig, if_neg hc]
      have hw : wrap64 (2 * ((strOfNums l).size : Int)) = 2 * (l.length : Int) := by rw [str_size, w64 (by omega) (by omega)]
      rw [hw]
      simp only [if_pos (show (0 : Int) ≤ 2 * (l.length : Int) by omega), if_pos (show (2 * (l.length : Int)).toNat ≤ 281474976710656 by omega)]
      refine Ev.bind h1 (Ev.bind h2 ?_)
      simp only [if_true, bne_self_eq_false, Bool.false_eq_true, if_false]
      exact Ev.now _

end Go.Proofs.Ytkbehnnnfiakgaa.Pure
