/- The program's Escaped returns what the reference's returns, for every text. -/
import Derived.Test.YtibnnodjockcbaaQFnExactEscapedx2
set_option linter.unusedVariables false
set_option linter.unusedSimpArgs false
namespace Go.Proofs.Ytibnnodjockcbaa.Pure
open Go.RowKit Go.Proofs.Ytibnnodjockcbaa.QFnExactEscaped Go.Proofs.YtibnnodjockcbaaW.PrintWords Go.Proofs.YtibnnodjockcbaaW.PrintLast Go.Proofs.YtibnnodjockcbaaW.PrintMore

/-! ### Bytes as lists of numbers, and some plain facts -/
theorem w64 {x : Int} (h0 : -9223372036854775808 ≤ x) (h1 : x ≤ 9223372036854775807) : wrap64 x = x := by
  unfold wrap64
  omega
theorem i64_bounds {x : Int} (h : (Lit.int .i64 x).wf = true) : -9223372036854775808 ≤ x ∧ x ≤ 9223372036854775807 := by
  have e := h
  simp [Lit.wf, IntKind.min, IntKind.max, IntKind.signed, IntKind.bits] at e
  omega
/-- All numbers of the list are bytes. -/
def Bys (l : List Int) : Prop := ∀ x, x ∈ l → 0 ≤ x ∧ x < 256
theorem Bys.nil : Bys [] := fun _ h => by cases h
theorem Bys.cons {x : Int} {l : List Int} (h0 : 0 ≤ x) (h1 : x < 256) (h : Bys l) : Bys (x :: l) := fun y hy => by
  rcases List.mem_cons.1 hy with rfl | hy
  · exact ⟨h0, h1⟩
  · exact h y hy
theorem Bys.append {l m : List Int} (h : Bys l) (h' : Bys m) : Bys (l ++ m) := fun y hy => by
  rcases List.mem_append.1 hy with hy | hy
  · exact h y hy
  · exact h' y hy
theorem Bys.left {l m : List Int} (h : Bys (l ++ m)) : Bys l := fun y hy => h y (List.mem_append_left _ hy)
theorem Bys.right {l m : List Int} (h : Bys (l ++ m)) : Bys m := fun y hy => h y (List.mem_append_right _ hy)
theorem Bys.take {l : List Int} (h : Bys l) (n : Nat) : Bys (l.take n) := fun y hy => h y (List.mem_of_mem_take hy)
theorem Bys.drop {l : List Int} (h : Bys l) (n : Nat) : Bys (l.drop n) := fun y hy => h y (List.mem_of_mem_drop hy)
theorem Bys.getD {l : List Int} (h : Bys l) (i : Nat) : 0 ≤ l.getD i 0 ∧ l.getD i 0 < 256 := by
  rw [List.getD_eq_getElem?_getD]
  by_cases hi : i < l.length
  · rw [List.getElem?_eq_getElem hi]
    exact h _ (List.getElem_mem hi)
  · rw [List.getElem?_eq_none (by omega)]
    exact ⟨by decide, by decide⟩
theorem nums_of (a : ByteArray) : ∃ l, Bys l ∧ a = strOfNums l := by
  refine ⟨a.data.toList.map fun u => (u.toNat : Int), ?_, ?_⟩
  · intro x hx
    obtain ⟨u, _, rfl⟩ := List.mem_map.1 hx
    have := u.toNat_lt
    omega
  · unfold strOfNums
    rw [List.map_map]
    have e : ((fun n : Int => UInt8.ofNat n.toNat) ∘ fun u : UInt8 => (u.toNat : Int)) = id := by
      funext u
      simp
    rw [e, List.map_id]
theorem str_size (l : List Int) : (strOfNums l).size = l.length := strOfNums_size l
theorem bt_str {l : List Int} (h : Bys l) (i : Int) : bt (strOfNums l) i = l.getD i.toNat 0 := by
  unfold bt
  rw [List.getD_eq_getElem?_getD]
  split
  · rename_i hi
    have hi' : i.toNat < l.length := by rw [← str_size]; exact hi
    rw [List.getElem?_eq_getElem hi']
    have hb := h _ (List.getElem_mem hi')
    have e : (strOfNums l)[i.toNat]'hi = UInt8.ofNat (l[i.toNat]).toNat := by
      simp [strOfNums, ByteArray.getElem_eq_getElem_data]
    rw [e, UInt8.toNat_ofNat']
    simp only [Option.getD_some]
    omega
  · rename_i hi
    rw [List.getElem?_eq_none (by rw [← str_size]; omega)]
    rfl
theorem bt_get {l : List Int} (h : Bys l) {i : Int} {n : Nat} (hi : i = (n : Int)) : bt (strOfNums l) i = l.getD n 0 := by
  rw [bt_str h, hi, Int.toNat_natCast]
theorem str_append (l m : List Int) : strOfNums l ++ strOfNums m = strOfNums (l ++ m) := by
  apply ByteArray.ext
  rw [ByteArray.data_append]
  unfold strOfNums
  simp
theorem str_empty : (⟨#[]⟩ : ByteArray) = strOfNums [] := rfl
theorem str_inj {l m : List Int} (hl : Bys l) (hm : Bys m) (h : strOfNums l = strOfNums m) : l = m := by
  have hs : l.length = m.length := by rw [← str_size l, ← str_size m, h]
  apply List.ext_getElem hs
  intro i h1 h2
  have e1 := bt_get hl (i := (i : Int)) rfl
  have e2 := bt_get hm (i := (i : Int)) rfl
  rw [h, e2] at e1
  simp [List.getD_eq_getElem?_getD, h1, h2] at e1
  exact e1.symm
theorem str_extract (l : List Int) (i j : Nat) : (strOfNums l).extract i j = strOfNums ((l.take j).drop i) := by
  apply ByteArray.ext
  rw [ByteArray.data_extract]
  unfold strOfNums
  apply Array.ext'
  simp [List.extract_eq_take_drop, List.drop_take, List.map_drop, List.map_take]
theorem getD_mid (pre suf : List Int) (x : Int) : (pre ++ x :: suf).getD pre.length 0 = x := by
  rw [List.getD_eq_getElem?_getD, List.getElem?_append_right (Nat.le_refl _)]
  simp
theorem bt_mid {pre suf : List Int} {x : Int} (h : Bys (pre ++ x :: suf)) : bt (strOfNums (pre ++ x :: suf)) (pre.length : Int) = x := by
  rw [bt_get h rfl, getD_mid]
theorem rd_mid (pre suf : List Int) (x : Int) : rd (pre ++ x :: suf) (pre.length : Int) = x := by
  unfold rd
  rw [Int.toNat_natCast, getD_mid]
theorem snoc_cons (pre suf : List Int) (x : Int) : pre ++ x :: suf = (pre ++ [x]) ++ suf := by simp
theorem next_len (pre : List Int) (x : Int) (h : pre.length < 4611686018427387904) : wrap64 ((pre.length : Int) + 1) = ((pre ++ [x]).length : Int) := by
  rw [w64 (by omega) (by omega)]
  simp
theorem lt_mid (pre suf : List Int) (x : Int) : (pre.length : Int) < ((strOfNums (pre ++ x :: suf)).size : Int) := by
  rw [str_size]
  simp
  omega
theorem ge_end (pre : List Int) : ¬ ((pre.length : Int) < ((strOfNums pre).size : Int)) := by
  rw [str_size]
  omega
theorem mid_byte {pre suf : List Int} {x : Int} (h : Bys (pre ++ x :: suf)) : 0 ≤ x ∧ x < 256 := h x (by simp)
/-- A text, escaped, behind z zeros. -/
def esc : Nat → List Int → List Int
  | _, [] => []
  | z, x :: l => if x < 4 ∧ 2 ≤ z then 3 :: x :: esc (if x = 0 then 1 else 0) l else x :: esc (if x = 0 then z + 1 else 0) l
/-- Whether Escaped takes the text. -/
def escOk (l : List Int) : Bool := decide (l ≠ [] ∧ l.length ≤ 60000 ∧ l.getLast? ≠ some 0)
theorem esc_bys : ∀ (l : List Int) (z : Nat), Bys l → Bys (esc z l)
  | [], _, _ => Bys.nil
  | x :: l, z, h => by
    have hx := h x (by simp)
    have hl : Bys l := fun y hy => h y (by simp [hy])
    unfold esc
    split
    · exact Bys.cons (by decide) (by decide) (Bys.cons hx.1 hx.2 (esc_bys l _ hl))
    · exact Bys.cons hx.1 hx.2 (esc_bys l _ hl)
theorem esc_len : ∀ (l : List Int) (z : Nat), l.length ≤ (esc z l).length ∧ (esc z l).length ≤ 2 * l.length
  | [], _ => ⟨Nat.le_refl _, Nat.le_refl _⟩
  | x :: l, z => by
    unfold esc
    split
    · have := esc_len l (if x = 0 then 1 else 0)
      simp only [List.length_cons]
      omega
    · have := esc_len l (if x = 0 then z + 1 else 0)
      simp only [List.length_cons]
      omega
theorem last_get (l : List Int) (h : l ≠ []) : l.getLast? = some (l.getD (l.length - 1) 0) := by
  rw [List.getLast?_eq_getElem?, List.getD_eq_getElem?_getD]
  have : l.length - 1 < l.length := by
    have := List.length_pos_iff.2 h
    omega
  rw [List.getElem?_eq_getElem this]
  rfl
theorem bt_last {l : List Int} (hb : Bys l) (h : l ≠ []) (hl : l.length ≤ 1048576) : bt (strOfNums l) (wrap64 (((strOfNums l).size : Int) - 1)) = l.getD (l.length - 1) 0 := by
  have := List.length_pos_iff.2 h
  rw [str_size, w64 (by omega) (by omega)]
  exact bt_get hb (by omega)
theorem str_toList (l : List Int) : (strOfNums l).toList = l.map fun n => UInt8.ofNat n.toNat := by
  rw [Go.ByteArray.toList_eq, strOfNums_data]
theorem str_toList_nil {l : List Int} : (strOfNums l).toList = ([] : List UInt8) ↔ l = [] := by
  rw [str_toList, List.map_eq_nil_iff]
theorem str_toList_inj {l m : List Int} (hl : Bys l) (hm : Bys m) : (strOfNums l).toList = (strOfNums m).toList ↔ l = m := by
  constructor
  · intro h
    apply str_inj hl hm
    apply ByteArray.ext
    apply Array.ext'
    rw [← Go.ByteArray.toList_eq, ← Go.ByteArray.toList_eq, h]
  · intro h
    rw [h]
theorem exact_sb {g h : Nat → Option (ByteArray × Bool)} {v : ByteArray × Bool} (hg : Ev g v) (hh : Ev h v) :
    Ev (fun k => (g k).bind fun b1 => (h k).bind fun b2 => if b2.1.toList = b1.1.toList then (if (b2.2 != b1.2) = true then some false else some true) else some false) true := by
  refine Ev.bind hg (Ev.bind hh ?_)
  simp only [if_true, bne_self_eq_false, Bool.false_eq_true, if_false]
  exact Ev.now _
theorem exact_i {g h : Nat → Option Int} {v : Int} (hg : Ev g v) (hh : Ev h v) :
    Ev (fun k => (g k).bind fun b1 => (h k).bind fun b2 => if b2 = b1 then some true else some false) true := by
  refine Ev.bind hg (Ev.bind hh ?_)
  simp only [if_true]
  exact Ev.now _
theorem exact_s {g h : Nat → Option ByteArray} {v : ByteArray} (hg : Ev g v) (hh : Ev h v) :
    Ev (fun k => (g k).bind fun b1 => (h k).bind fun b2 => if b2.toList = b1.toList then some true else some false) true := by
  refine Ev.bind hg (Ev.bind hh ?_)
  simp only [if_true]
  exact Ev.now _
theorem exact_ib {g h : Nat → Option (Int × Bool)} {v : Int × Bool} (hg : Ev g v) (hh : Ev h v) :
    Ev (fun k => (g k).bind fun b1 => (h k).bind fun b2 => if b2.1 = b1.1 then (if (b2.2 != b1.2) = true then some false else some true) else some false) true := by
  refine Ev.bind hg (Ev.bind hh ?_)
  simp only [if_true, bne_self_eq_false, Bool.false_eq_true, if_false]
  exact Ev.now _
theorem exact_iib {g h : Nat → Option (Int × Int × Bool)} {v : Int × Int × Bool} (hg : Ev g v) (hh : Ev h v) :
    Ev (fun k => (g k).bind fun b1 => (h k).bind fun b2 => if b2.1 = b1.1 then (if b2.2.1 = b1.2.1 then (if (b2.2.2 != b1.2.2) = true then some false else some true) else some false) else some false) true := by
  refine Ev.bind hg (Ev.bind hh ?_)
  simp only [if_true, bne_self_eq_false, Bool.false_eq_true, if_false]
  exact Ev.now _
theorem exact_b {g h : Nat → Option Bool} {v : Bool} (hg : Ev g v) (hh : Ev h v) :
    Ev (fun k => (g k).bind fun b1 => (h k).bind fun b2 => if (b2 != b1) = true then some false else some true) true := by
  refine Ev.bind hg (Ev.bind hh ?_)
  simp only [bne_self_eq_false, Bool.false_eq_true, if_false]
  exact Ev.now _
theorem ev_now {α : Type} {g : Nat → Option α} {v : α} (h : ∀ k, g k = some v) : Ev g v := Ev.congr h (Ev.now v)
/-- How many zeros a list ends with (told from its back). -/
def tz : List Int → Nat
  | [] => 0
  | x :: l => if x = 0 then tz l + 1 else 0
theorem two_zeros (acc : List Int) : (2 ≤ tz acc.reverse) ↔ (2 ≤ acc.length ∧ acc.getD (acc.length - 1) 0 = 0 ∧ acc.getD (acc.length - 2) 0 = 0) := by
  obtain ⟨r, rfl⟩ : ∃ r : List Int, acc = r.reverse := ⟨acc.reverse, (List.reverse_reverse acc).symm⟩
  rw [List.reverse_reverse]
  match r with
  | [] => simp [tz]
  | [x] => 
    constructor
    · intro h
      unfold tz at h
      split at h <;> simp [tz] at h
    · intro h
      simp at h
  | x :: y :: l =>
    have e1 : (x :: y :: l).reverse.getD ((x :: y :: l).reverse.length - 1) 0 = x := by
      rw [List.getD_eq_getElem?_getD]
      simp
    have e2 : (x :: y :: l).reverse.getD ((x :: y :: l).reverse.length - 2) 0 = y := by
      rw [List.getD_eq_getElem?_getD]
      simp
    rw [e1, e2]
    constructor
    · intro h
      unfold tz at h
      split at h
      · rename_i hx
        refine ⟨by simp, hx, ?_⟩
        unfold tz at h
        split at h
        · assumption
        · omega
      · omega
    · rintro ⟨_, rfl, rfl⟩
      simp [tz]
theorem spec_esc_loop : ∀ (suf pre acc : List Int), Bys (pre ++ suf) → (pre ++ suf).length ≤ 60000 → acc.length ≤ 2 * pre.length →
    Ev (fun k => spec_l04Escaped.l0 k (strOfNums (pre ++ suf)) acc (pre.length : Int)) (strOfNums (acc ++ esc (tz acc.reverse) suf))
  | [], pre, acc, hb, hl, ha => by
    refine Ev.step (f := fun _ => some (strOfNums acc)) (fun k => ?_) (by simp only [esc, List.append_nil]; exact Ev.now _)
    simp only [spec_l04Escaped.l0, List.append_nil]
    rw [if_neg (ge_end pre)]
  | x :: suf, pre, acc, hb, hl, ha => by
    have hx1 := mid_byte hb
    have hl' : pre.length + (suf.length + 1) ≤ 60000 := by simpa using hl
    have hp : (pre ++ [x]).length = pre.length + 1 := by simp
    have ih := fun (acc' : List Int) (h1 : acc'.length ≤ 2 * (pre ++ [x]).length) => spec_esc_loop suf (pre ++ [x]) acc' (by rw [← snoc_cons]; exact hb) (by rw [← snoc_cons]; exact hl) h1
    simp only [← snoc_cons] at ih
    have hlt := lt_mid pre suf x
    have hnext := next_len pre x (by omega)
    have ht := two_zeros acc
    by_cases hc : x < 4 ∧ 2 ≤ tz acc.reverse
    · obtain ⟨g1, g2, g3⟩ := ht.1 hc.2
      have e : acc ++ esc (tz acc.reverse) (x :: suf) = (acc ++ [3] ++ [x]) ++ esc (tz (acc ++ [3] ++ [x]).reverse) suf := by
        rw [esc, if_pos hc]
        have : tz (acc ++ [3] ++ [x]).reverse = if x = 0 then 1 else 0 := by simp [tz]
        rw [this]
        simp
      rw [e]
      refine Ev.step (fun k => ?_) (ih (acc ++ [3] ++ [x]) (by simp; omega))
      simp only [spec_l04Escaped.l0]
      rw [if_pos hlt, if_pos (by omega), w64 (x := (acc.length : Int) - 1) (by omega) (by omega), w64 (x := (acc.length : Int) - 2) (by omega) (by omega), if_pos (by omega), if_pos (by omega)]
      unfold rd
      rw [show ((acc.length : Int) - 1).toNat = acc.length - 1 by omega, show ((acc.length : Int) - 2).toNat = acc.length - 2 by omega, if_pos g2, if_pos (by omega), if_pos (by omega), if_pos g3, if_pos (by omega), bt_mid hb, if_pos hc.1, if_pos (by omega)]
      simp only [Option.bind_some]
      rw [if_pos (by simp; omega), hnext]
    · have e : acc ++ esc (tz acc.reverse) (x :: suf) = (acc ++ [x]) ++ esc (tz (acc ++ [x]).reverse) suf := by
        rw [esc, if_neg hc]
        have : tz (acc ++ [x]).reverse = if x = 0 then tz acc.reverse + 1 else 0 := by simp [tz]
        rw [this]
        simp
      rw [e]
      refine Ev.step (fun k => ?_) (ih (acc ++ [x]) (by simp; omega))
      simp only [spec_l04Escaped.l0]
      rw [if_pos hlt]
      by_cases h1 : 2 ≤ acc.length
      · rw [if_pos (by omega), w64 (x := (acc.length : Int) - 1) (by omega) (by omega), w64 (x := (acc.length : Int) - 2) (by omega) (by omega), if_pos (by omega), if_pos (by omega)]
        unfold rd
        rw [show ((acc.length : Int) - 1).toNat = acc.length - 1 by omega, show ((acc.length : Int) - 2).toNat = acc.length - 2 by omega]
        by_cases h2 : acc.getD (acc.length - 1) 0 = 0
        · rw [if_pos h2, if_pos (by omega), if_pos (by omega)]
          by_cases h3 : acc.getD (acc.length - 2) 0 = 0
          · have : ¬ x < 4 := fun h4 => hc ⟨h4, ht.2 ⟨h1, h2, h3⟩⟩
            rw [if_pos h3, if_pos (by omega), bt_mid hb, if_neg this, if_pos (by omega), hnext]
          · rw [if_neg h3, if_pos (by omega), if_pos (by omega), bt_mid hb, hnext]
        · rw [if_neg h2, if_pos (by omega), if_pos (by omega), bt_mid hb, hnext]
      · rw [if_neg (by omega), if_pos (by omega), if_pos (by omega), bt_mid hb, hnext]
theorem spec_esc_yes {l : List Int} (hb : Bys l) (h : escOk l = true) : Ev (fun k => spec_Escaped.f k (strOfNums l)) (strOfNums (esc 0 l), true) := by
  have h' : l ≠ [] ∧ l.length ≤ 60000 ∧ l.getLast? ≠ some 0 := of_decide_eq_true h
  obtain ⟨h1, h2, h3⟩ := h'
  have hpos := List.length_pos_iff.2 h1
  have hlast := bt_last hb h1 (by omega)
  have hne : l.getD (l.length - 1) 0 ≠ 0 := by
    intro e
    rw [last_get l h1, e] at h3
    exact h3 rfl
  have hl := spec_esc_loop l [] [] hb h2 (Nat.zero_le _)
  simp only [List.nil_append, List.reverse_nil, tz] at hl
  have hw : wrap64 (((strOfNums l).size : Int) - 1) = (l.length : Int) - 1 := by rw [str_size, w64 (by omega) (by omega)]
  unfold spec_Escaped.f spec_l04Escaped.f
  rw [hlast]
  simp only [hw, if_neg hne, if_neg (show ¬ ((strOfNums l).size : Int) = 0 by rw [str_size]; omega), if_neg (show ¬ ((strOfNums l).size : Int) > 60000 by rw [str_size]; omega), if_pos (show (0 : Int) ≤ (l.length : Int) - 1 by omega), if_pos (show (l.length : Int) - 1 < ((strOfNums l).size : Int) by rw [str_size]; omega)]
  exact Ev.bind hl (Ev.now _)
theorem spec_esc_no {l : List Int} (hb : Bys l) (hl : l.length ≤ 1048576) (h : escOk l = false) : Ev (fun k => spec_Escaped.f k (strOfNums l)) (strOfNums [], false) := by
  have h' : ¬ (l ≠ [] ∧ l.length ≤ 60000 ∧ l.getLast? ≠ some 0) := of_decide_eq_false h
  refine ev_now (fun k => ?_)
  unfold spec_Escaped.f
  by_cases h1 : l = []
  · rw [if_pos (by rw [str_size, h1]; rfl)]
    rfl
  · have hpos := List.length_pos_iff.2 h1
    rw [if_neg (by rw [str_size]; omega)]
    by_cases h2 : ((strOfNums l).size : Int) > 60000
    · rw [if_pos h2]
      rfl
    · rw [if_neg h2]
      rw [str_size] at h2
      have hlast := bt_last hb h1 (by omega)
      have he : l.getD (l.length - 1) 0 = 0 := by
        have := last_get l h1
        by_cases e : l.getD (l.length - 1) 0 = 0
        · exact e
        · exact absurd ⟨h1, by omega, by rw [this]; intro e2; exact e (Option.some.inj e2)⟩ h'
      have hw : wrap64 (((strOfNums l).size : Int) - 1) = (l.length : Int) - 1 := by rw [str_size, w64 (by omega) (by omega)]
      rw [hlast, he, hw, if_pos (by omega), if_pos (by rw [str_size]; omega), if_pos rfl]
      rfl
theorem impl_esc_loop : ∀ (suf pre acc : List Int) (z : Nat), Bys (pre ++ suf) → (pre ++ suf).length ≤ 60000 → acc.length ≤ 2 * pre.length → z ≤ pre.length →
    Ev (fun k => impl_Escaped.l0 k (strOfNums (pre ++ suf)) acc (z : Int) (pre.length : Int)) (strOfNums (acc ++ esc z suf), true)
  | [], pre, acc, z, hb, hl, ha, hz => by
    refine Ev.step (f := fun _ => some (strOfNums acc, true)) (fun k => ?_) (by simp only [esc, List.append_nil]; exact Ev.now _)
    simp only [impl_Escaped.l0, List.append_nil]
    rw [if_neg (ge_end pre)]
  | x :: suf, pre, acc, z, hb, hl, ha, hz => by
    have hx1 := mid_byte hb
    have hl' : pre.length + (suf.length + 1) ≤ 60000 := by simpa using hl
    have hp : (pre ++ [x]).length = pre.length + 1 := by simp
    have ih := fun (acc' : List Int) (z' : Nat) (h1 : acc'.length ≤ 2 * (pre ++ [x]).length) (h2 : z' ≤ (pre ++ [x]).length) => impl_esc_loop suf (pre ++ [x]) acc' z' (by rw [← snoc_cons]; exact hb) (by rw [← snoc_cons]; exact hl) h1 h2
    simp only [← snoc_cons] at ih
    have hlt := lt_mid pre suf x
    have hnext := next_len pre x (by omega)
    by_cases hc : x < 4 ∧ 2 ≤ z
    · have e : acc ++ esc z (x :: suf) = (acc ++ [3] ++ [x]) ++ esc (if x = 0 then 1 else 0) suf := by
        rw [esc, if_pos hc]
        simp
      rw [e]
      refine Ev.step (f := fun k => impl_Escaped.j2 k (strOfNums (pre ++ x :: suf)) acc (z : Int) (pre.length : Int) true) (fun k => ?_) ?_
      · simp only [impl_Escaped.l0]
        rw [if_pos hlt, if_pos (by omega), bt_mid hb, if_pos hc.1, decide_eq_true (by omega)]
      · by_cases h0 : x = 0
        · have := ih (acc ++ [3] ++ [x]) 1 (by simp; omega) (by omega)
          rw [if_pos h0]
          refine Ev.step (fun k => ?_) this
          simp only [impl_Escaped.j2, if_true]
          rw [if_pos (by omega)]
          try simp only [Option.bind_some]
          rw [if_pos (by omega), if_pos hlt, if_pos (by simp; omega)]
          try simp only [Option.bind_some]
          rw [bt_mid hb, if_pos h0, hnext]
          rfl
        · have := ih (acc ++ [3] ++ [x]) 0 (by simp; omega) (by omega)
          rw [if_neg h0]
          refine Ev.step (fun k => ?_) this
          simp only [impl_Escaped.j2, if_true]
          rw [if_pos (by omega)]
          try simp only [Option.bind_some]
          rw [if_pos (by omega), if_pos hlt, if_pos (by simp; omega)]
          try simp only [Option.bind_some]
          rw [bt_mid hb, if_neg h0, hnext]
          rfl
    · have e : acc ++ esc z (x :: suf) = (acc ++ [x]) ++ esc (if x = 0 then z + 1 else 0) suf := by
        rw [esc, if_neg hc]
        simp
      rw [e]
      refine Ev.step (f := fun k => impl_Escaped.j2 k (strOfNums (pre ++ x :: suf)) acc (z : Int) (pre.length : Int) false) (fun k => ?_) ?_
      · simp only [impl_Escaped.l0]
        rw [if_pos hlt, if_pos (by omega), bt_mid hb]
        by_cases h4 : x < 4
        · rw [if_pos h4, decide_eq_false (by omega)]
        · rw [if_neg h4]
      · by_cases h0 : x = 0
        · have := ih (acc ++ [x]) (z + 1) (by simp; omega) (by omega)
          rw [if_pos h0]
          refine Ev.step (fun k => ?_) this
          simp only [impl_Escaped.j2, Bool.false_eq_true, if_false]
          rw [if_pos (by omega), if_pos hlt, if_pos (by omega)]
          try simp only [Option.bind_some]
          rw [bt_mid hb, if_pos h0, hnext, w64 (x := (z : Int) + 1) (by omega) (by omega)]
          rfl
        · have := ih (acc ++ [x]) 0 (by simp; omega) (by omega)
          rw [if_neg h0]
          refine Ev.step (fun k => ?_) this
          simp only [impl_Escaped.j2, Bool.false_eq_true, if_false]
          rw [if_pos (by omega), if_pos hlt, if_pos (by omega)]
          try simp only [Option.bind_some]
          rw [bt_mid hb, if_neg h0, hnext]
          rfl
theorem impl_esc_yes {l : List Int} (hb : Bys l) (h : escOk l = true) : Ev (fun k => impl_Escaped.f k (strOfNums l)) (strOfNums (esc 0 l), true) := by
  have h' : l ≠ [] ∧ l.length ≤ 60000 ∧ l.getLast? ≠ some 0 := of_decide_eq_true h
  obtain ⟨h1, h2, h3⟩ := h'
  have hpos := List.length_pos_iff.2 h1
  have hlast := bt_last hb h1 (by omega)
  have hne : l.getD (l.length - 1) 0 ≠ 0 := by
    intro e
    rw [last_get l h1, e] at h3
    exact h3 rfl
  have hl := impl_esc_loop l [] [] 0 hb h2 (Nat.zero_le _) (Nat.zero_le _)
  simp only [List.nil_append] at hl
  have hj : Ev (fun k => impl_Escaped.j0 k (strOfNums l) false) (strOfNums (esc 0 l), true) := by
    refine Ev.step (fun k => ?_) hl
    simp only [impl_Escaped.j0, Bool.false_eq_true, if_false]
    rw [str_size, w64 (x := (l.length : Int) / 2) (by omega) (by omega), w64 (by omega) (by omega), if_pos (by omega), if_pos (by omega)]
    rfl
  refine Ev.congr (fun k => ?_) hj
  unfold impl_Escaped.f
  rw [if_neg (fun e => h1 (str_toList_nil.1 e)), if_neg (by rw [str_size]; omega), hlast]
  have hw : wrap64 (((strOfNums l).size : Int) - 1) = (l.length : Int) - 1 := by rw [str_size, w64 (by omega) (by omega)]
  rw [hw, if_pos (by omega), if_pos (by rw [str_size]; omega), beq_eq_false_iff_ne.2 hne]
theorem impl_esc_no {l : List Int} (hb : Bys l) (hl : l.length ≤ 1048576) (h : escOk l = false) : Ev (fun k => impl_Escaped.f k (strOfNums l)) (strOfNums [], false) := by
  have h' : ¬ (l ≠ [] ∧ l.length ≤ 60000 ∧ l.getLast? ≠ some 0) := of_decide_eq_false h
  have hj : Ev (fun k => impl_Escaped.j0 k (strOfNums l) true) (strOfNums [], false) := by
    refine Ev.step (f := fun _ => some (strOfNums [], false)) (fun k => ?_) (Ev.now _)
    simp only [impl_Escaped.j0, if_true]
    rfl
  refine Ev.congr (fun k => ?_) hj
  unfold impl_Escaped.f
  by_cases h1 : l = []
  · rw [if_pos (str_toList_nil.2 h1)]
  · rw [if_neg (fun e => h1 (str_toList_nil.1 e))]
    have hpos := List.length_pos_iff.2 h1
    by_cases h2 : ((strOfNums l).size : Int) > 60000
    · rw [if_pos h2]
    · rw [if_neg h2]
      rw [str_size] at h2
      have hlast := bt_last hb h1 (by omega)
      have he : l.getD (l.length - 1) 0 = 0 := by
        have := last_get l h1
        by_cases e : l.getD (l.length - 1) 0 = 0
        · exact e
        · exact absurd ⟨h1, by omega, by rw [this]; intro e2; exact e (Option.some.inj e2)⟩ h'
      rw [hlast, he]
      have hw : wrap64 (((strOfNums l).size : Int) - 1) = (l.length : Int) - 1 := by rw [str_size, w64 (by omega) (by omega)]
      rw [hw, if_pos (by omega), if_pos (by rw [str_size]; omega)]
      rfl
theorem FnExactEscaped : laws_FnExactEscaped.Pure := by
  intro a _
  obtain ⟨l, hb, rfl⟩ := nums_of a
  by_cases hbig : ((strOfNums l).size : Int) > 1048576
  · exact ⟨0, by unfold laws_FnExactEscaped.f; rw [if_pos hbig]⟩
  · have hl : l.length ≤ 1048576 := by rw [str_size] at hbig; omega
    refine Ev.rounds ?_
    unfold laws_FnExactEscaped.f
    simp only [if_neg hbig]
    cases h : escOk l
    · exact exact_sb (spec_esc_no hb hl h) (impl_esc_no hb hl h)
    · exact exact_sb (spec_esc_yes hb h) (impl_esc_yes hb h)

end Go.Proofs.Ytibnnodjockcbaa.Pure
