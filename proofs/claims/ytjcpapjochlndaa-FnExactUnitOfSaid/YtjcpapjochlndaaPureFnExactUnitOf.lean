/- The program's UnitOf returns what the reference's returns, for every kind and row. -/
import Derived.Test.YtjcpapjochlndaaQFnExactUnitOfx2
set_option linter.unusedVariables false
set_option linter.unusedSimpArgs false
namespace Go.Proofs.Ytjcpapjochlndaa.Pure
open Go.RowKit Go.Proofs.Ytjcpapjochlndaa.QFnExactUnitOf Go.Proofs.YtjcpapjochlndaaW.PrintWords Go.Proofs.YtjcpapjochlndaaW.PrintLast Go.Proofs.YtjcpapjochlndaaW.PrintMore

/-! ### Bytes as lists of numbers, and some plain facts -/
theorem w64 {x : Int} (h0 : -9223372036854775808 ≤ x) (h1 : x ≤ 9223372036854775807) : wrap64 x = x := by
  unfold wrap64
  omega
theorem i64_bounds {x : Int} (h : (Lit.int .i64 x).wf = true) : -9223372036854775808 ≤ x ∧ x ≤ 9223372036854775807 := by
  have e := h
  simp [Lit.wf, IntKind.min, IntKind.max, IntKind.signed, IntKind.bits] at e
  omega
/-- All numbers of the list are bytes. -/
def Bys (l : List Int) : Prop := ∀ x, x ∈ l → 0 ≤ x ∧ x < 256
theorem Bys.nil : Bys [] := fun _ h => by cases h
theorem Bys.cons {x : Int} {l : List Int} (h0 : 0 ≤ x) (h1 : x < 256) (h : Bys l) : Bys (x :: l) := fun y hy => by
  rcases List.mem_cons.1 hy with rfl | hy
  · exact ⟨h0, h1⟩
  · exact h y hy
theorem Bys.append {l m : List Int} (h : Bys l) (h' : Bys m) : Bys (l ++ m) := fun y hy => by
  rcases List.mem_append.1 hy with hy | hy
  · exact h y hy
  · exact h' y hy
theorem Bys.left {l m : List Int} (h : Bys (l ++ m)) : Bys l := fun y hy => h y (List.mem_append_left _ hy)
theorem Bys.right {l m : List Int} (h : Bys (l ++ m)) : Bys m := fun y hy => h y (List.mem_append_right _ hy)
theorem Bys.take {l : List Int} (h : Bys l) (n : Nat) : Bys (l.take n) := fun y hy => h y (List.mem_of_mem_take hy)
theorem Bys.drop {l : List Int} (h : Bys l) (n : Nat) : Bys (l.drop n) := fun y hy => h y (List.mem_of_mem_drop hy)
theorem Bys.getD {l : List Int} (h : Bys l) (i : Nat) : 0 ≤ l.getD i 0 ∧ l.getD i 0 < 256 := by
  rw [List.getD_eq_getElem?_getD]
  by_cases hi : i < l.length
  · rw [List.getElem?_eq_getElem hi]
    exact h _ (List.getElem_mem hi)
  · rw [List.getElem?_eq_none (by omega)]
    exact ⟨by decide, by decide⟩
theorem nums_of (a : ByteArray) : ∃ l, Bys l ∧ a = strOfNums l := by
  refine ⟨a.data.toList.map fun u => (u.toNat : Int), ?_, ?_⟩
  · intro x hx
    obtain ⟨u, _, rfl⟩ := List.mem_map.1 hx
    have := u.toNat_lt
    omega
  · unfold strOfNums
    rw [List.map_map]
    have e : ((fun n : Int => UInt8.ofNat n.toNat) ∘ fun u : UInt8 => (u.toNat : Int)) = id := by
      funext u
      simp
    rw [e, List.map_id]
theorem str_size (l : List Int) : (strOfNums l).size = l.length := strOfNums_size l
theorem bt_str {l : List Int} (h : Bys l) (i : Int) : bt (strOfNums l) i = l.getD i.toNat 0 := by
  unfold bt
  rw [List.getD_eq_getElem?_getD]
  split
  · rename_i hi
    have hi' : i.toNat < l.length := by rw [← str_size]; exact hi
    rw [List.getElem?_eq_getElem hi']
    have hb := h _ (List.getElem_mem hi')
    have e : (strOfNums l)[i.toNat]'hi = UInt8.ofNat (l[i.toNat]).toNat := by
      simp [strOfNums, ByteArray.getElem_eq_getElem_data]
    rw [e, UInt8.toNat_ofNat']
    simp only [Option.getD_some]
    omega
  · rename_i hi
    rw [List.getElem?_eq_none (by rw [← str_size]; omega)]
    rfl
theorem bt_get {l : List Int} (h : Bys l) {i : Int} {n : Nat} (hi : i = (n : Int)) : bt (strOfNums l) i = l.getD n 0 := by
  rw [bt_str h, hi, Int.toNat_natCast]
theorem str_append (l m : List Int) : strOfNums l ++ strOfNums m = strOfNums (l ++ m) := by
  apply ByteArray.ext
  rw [ByteArray.data_append]
  unfold strOfNums
  simp
theorem str_empty : (⟨#[]⟩ : ByteArray) = strOfNums [] := rfl
theorem str_inj {l m : List Int} (hl : Bys l) (hm : Bys m) (h : strOfNums l = strOfNums m) : l = m := by
  have hs : l.length = m.length := by rw [← str_size l, ← str_size m, h]
  apply List.ext_getElem hs
  intro i h1 h2
  have e1 := bt_get hl (i := (i : Int)) rfl
  have e2 := bt_get hm (i := (i : Int)) rfl
  rw [h, e2] at e1
  simp [List.getD_eq_getElem?_getD, h1, h2] at e1
  exact e1.symm
theorem str_extract (l : List Int) (i j : Nat) : (strOfNums l).extract i j = strOfNums ((l.take j).drop i) := by
  apply ByteArray.ext
  rw [ByteArray.data_extract]
  unfold strOfNums
  apply Array.ext'
  simp [List.extract_eq_take_drop, List.drop_take, List.map_drop, List.map_take]
theorem getD_mid (pre suf : List Int) (x : Int) : (pre ++ x :: suf).getD pre.length 0 = x := by
  rw [List.getD_eq_getElem?_getD, List.getElem?_append_right (Nat.le_refl _)]
  simp
theorem bt_mid {pre suf : List Int} {x : Int} (h : Bys (pre ++ x :: suf)) : bt (strOfNums (pre ++ x :: suf)) (pre.length : Int) = x := by
  rw [bt_get h rfl, getD_mid]
theorem rd_mid (pre suf : List Int) (x : Int) : rd (pre ++ x :: suf) (pre.length : Int) = x := by
  unfold rd
  rw [Int.toNat_natCast, getD_mid]
theorem snoc_cons (pre suf : List Int) (x : Int) : pre ++ x :: suf = (pre ++ [x]) ++ suf := by simp
theorem next_len (pre : List Int) (x : Int) (h : pre.length < 4611686018427387904) : wrap64 ((pre.length : Int) + 1) = ((pre ++ [x]).length : Int) := by
  rw [w64 (by omega) (by omega)]
  simp
theorem lt_mid (pre suf : List Int) (x : Int) : (pre.length : Int) < ((strOfNums (pre ++ x :: suf)).size : Int) := by
  rw [str_size]
  simp
  omega
theorem ge_end (pre : List Int) : ¬ ((pre.length : Int) < ((strOfNums pre).size : Int)) := by
  rw [str_size]
  omega
theorem mid_byte {pre suf : List Int} {x : Int} (h : Bys (pre ++ x :: suf)) : 0 ≤ x ∧ x < 256 := h x (by simp)
/-- The signs of a number, so many. -/
def sg : Nat → Int → List Int
  | 0, _ => []
  | w + 1, n => sg w (n / 2) ++ [48 + n % 2]
theorem sg_len : ∀ (w : Nat) (n : Int), (sg w n).length = w
  | 0, _ => rfl
  | w + 1, n => by simp [sg, sg_len w]
theorem sg_row : ∀ (w : Nat) (n : Int), ∀ x, x ∈ sg w n → x = 48 ∨ x = 49
  | 0, _ => fun _ h => by cases h
  | w + 1, n => fun x hx => by
    rcases List.mem_append.1 hx with h | h
    · exact sg_row w _ x h
    · have : x = 48 + n % 2 := by simpa using h
      omega
theorem sg_bys (w : Nat) (n : Int) : Bys (sg w n) := fun x hx => by
  rcases sg_row w n x hx with h | h <;> omega
theorem set_rep (j : Nat) (v : Int) (tl : List Int) : (List.replicate (j + 1) (0 : Int) ++ tl).set j v = List.replicate j 0 ++ v :: tl := by
  rw [List.replicate_succ', List.append_assoc, List.set_append_right _ _ (by simp)]
  simp
theorem str_toList (l : List Int) : (strOfNums l).toList = l.map fun n => UInt8.ofNat n.toNat := by
  rw [Go.ByteArray.toList_eq, strOfNums_data]
theorem str_toList_nil {l : List Int} : (strOfNums l).toList = ([] : List UInt8) ↔ l = [] := by
  rw [str_toList, List.map_eq_nil_iff]
theorem str_toList_inj {l m : List Int} (hl : Bys l) (hm : Bys m) : (strOfNums l).toList = (strOfNums m).toList ↔ l = m := by
  constructor
  · intro h
    apply str_inj hl hm
    apply ByteArray.ext
    apply Array.ext'
    rw [← Go.ByteArray.toList_eq, ← Go.ByteArray.toList_eq, h]
  · intro h
    rw [h]
theorem bytesOf_str {l : List Int} (h : Bys l) : bytesOf (strOfNums l) = l := by
  unfold bytesOf
  rw [strOfNums_data, List.map_map]
  have : ∀ m : List Int, Bys m → m.map ((fun b : UInt8 => (b.toNat : Int)) ∘ fun n : Int => UInt8.ofNat n.toNat) = m := by
    intro m
    induction m with
    | nil => intro _; rfl
    | cons x m ih =>
      intro hm
      have hx := hm x (List.mem_cons_self ..)
      rw [List.map_cons, ih (fun y hy => hm y (List.mem_cons_of_mem _ hy))]
      congr 1
      simp only [Function.comp, UInt8.toNat_ofNat']
      omega
  exact this l h
/-- The bits of bytes, the highest first. -/
def bitsL : List Int → List Int
  | [] => []
  | x :: l => sg 8 x ++ bitsL l
theorem bitsL_len : ∀ l : List Int, (bitsL l).length = 8 * l.length
  | [] => rfl
  | x :: l => by rw [bitsL, List.length_append, sg_len, bitsL_len l, List.length_cons]; omega
theorem bitsL_row : ∀ (l : List Int), ∀ x, x ∈ bitsL l → x = 48 ∨ x = 49
  | [] => fun _ h => by cases h
  | y :: l => fun x hx => by
    rcases List.mem_append.1 hx with h | h
    · exact sg_row 8 y x h
    · exact bitsL_row l x h
theorem bitsL_append : ∀ (l m : List Int), bitsL (l ++ m) = bitsL l ++ bitsL m
  | [], m => rfl
  | x :: l, m => by rw [List.cons_append, bitsL, bitsL, bitsL_append l m, List.append_assoc]
theorem has_one : ∀ m : Fin 256, (m : Nat) ≠ 0 → (49 : Int) ∈ sg 8 ((m : Nat) : Int) := by decide +kernel
/-- A row with a one in it: what stands ahead of its last one, and the noughts behind it. -/
theorem last_one : ∀ M : List Int, (∀ x, x ∈ M → x = 48 ∨ x = 49) → (49 : Int) ∈ M → ∃ A z, M = A ++ 49 :: List.replicate z 48
  | [], _, h => by cases h
  | x :: M, hm, h => by
    by_cases h1 : (49 : Int) ∈ M
    · obtain ⟨A, z, e⟩ := last_one M (fun y hy => hm y (List.mem_cons_of_mem _ hy)) h1
      exact ⟨x :: A, z, by rw [e]; rfl⟩
    · have hx : x = 49 := by
        rcases List.mem_cons.1 h with h2 | h2
        · exact h2.symm
        · exact absurd h2 h1
      refine ⟨[], M.length, ?_⟩
      rw [List.nil_append, hx]
      congr 1
      refine List.eq_replicate_iff.2 ⟨rfl, fun y hy => ?_⟩
      rcases hm y (List.mem_cons_of_mem _ hy) with h2 | h2
      · exact h2
      · exact absurd (h2 ▸ hy) h1
theorem bits_last {l : List Int} (hb : Bys l) (h0 : l ≠ []) (h1 : l.getD (l.length - 1) 0 ≠ 0) : ∃ A z, bitsL l = A ++ 49 :: List.replicate z 48 := by
  refine last_one _ (bitsL_row l) ?_
  obtain ⟨m, x, rfl⟩ : ∃ m x, l = m ++ [x] := ⟨l.dropLast, l.getLast h0, (List.dropLast_concat_getLast h0).symm⟩
  have hx := hb x (List.mem_append_right _ (List.mem_singleton.2 rfl))
  rw [bitsL_append, bitsL, bitsL, List.append_nil]
  refine List.mem_append_right _ ?_
  obtain ⟨n, rfl⟩ := Int.eq_ofNat_of_zero_le hx.1
  have hn : n ≠ 0 := by
    intro h
    apply h1
    subst h
    simp
  exact has_one ⟨n, by omega⟩ hn
/-- BytesRow, told over numbers. -/
def rowOfBytes (A : List Int) : ByteArray × Bool := if 400000 < A.length then (⟨#[]⟩, false) else (strOfNums A, true)
theorem rd_pad {A : List Int} {z j : Nat} (hj : j ≤ z) : rd (A ++ 49 :: List.replicate z 48) ((A.length + j : Nat) : Int) = if j = 0 then 49 else 48 := by
  unfold rd
  rw [Int.toNat_natCast, List.getD_eq_getElem?_getD, List.getElem?_append_right (by omega), show A.length + j - A.length = j by omega]
  cases j with
  | zero => rfl
  | succ j => rw [List.getElem?_cons_succ, List.getElem?_replicate_of_lt (by omega)]; rfl
theorem take_pad (A : List Int) (z : Nat) : (A ++ 49 :: List.replicate z 48).take A.length = A := by
  rw [List.take_append_of_le_length (Nat.le_refl _), List.take_length]
/-- BytesRow of any bytes. -/
def bytesRow (l : List Int) (v : ByteArray × Bool) : Prop := (l = [] ∨ 50001 < l.length ∨ l.getD (l.length - 1) 0 = 0) ∧ v = (⟨#[]⟩, false) ∨ (l ≠ [] ∧ l.length ≤ 50001 ∧ l.getD (l.length - 1) 0 ≠ 0) ∧ ∃ A z, bitsL l = A ++ 49 :: List.replicate z 48 ∧ v = rowOfBytes A
theorem bytesRow_some {l : List Int} (hb : Bys l) : ∃ v, bytesRow l v := by
  by_cases h : l = [] ∨ 50001 < l.length ∨ l.getD (l.length - 1) 0 = 0
  · exact ⟨_, Or.inl ⟨h, rfl⟩⟩
  · have h1 : l ≠ [] ∧ l.length ≤ 50001 ∧ l.getD (l.length - 1) 0 ≠ 0 := ⟨fun e => h (Or.inl e), by omega, fun e => h (Or.inr (Or.inr e))⟩
    obtain ⟨A, z, e⟩ := bits_last hb h1.1 h1.2.2
    exact ⟨_, Or.inr ⟨h1, A, z, e, rfl⟩⟩
theorem exact_sb {g h : Nat → Option (ByteArray × Bool)} {v : ByteArray × Bool} (hg : Ev g v) (hh : Ev h v) :
    Ev (fun k => (g k).bind fun b1 => (h k).bind fun b2 => if b2.1.toList = b1.1.toList then (if (b2.2 != b1.2) = true then some false else some true) else some false) true := by
  refine Ev.bind hg (Ev.bind hh ?_)
  simp only [if_true, bne_self_eq_false, Bool.false_eq_true, if_false]
  exact Ev.now _
theorem exact_i {g h : Nat → Option Int} {v : Int} (hg : Ev g v) (hh : Ev h v) :
    Ev (fun k => (g k).bind fun b1 => (h k).bind fun b2 => if b2 = b1 then some true else some false) true := by
  refine Ev.bind hg (Ev.bind hh ?_)
  simp only [if_true]
  exact Ev.now _
theorem exact_s {g h : Nat → Option ByteArray} {v : ByteArray} (hg : Ev g v) (hh : Ev h v) :
    Ev (fun k => (g k).bind fun b1 => (h k).bind fun b2 => if b2.toList = b1.toList then some true else some false) true := by
  refine Ev.bind hg (Ev.bind hh ?_)
  simp only [if_true]
  exact Ev.now _
theorem exact_ib {g h : Nat → Option (Int × Bool)} {v : Int × Bool} (hg : Ev g v) (hh : Ev h v) :
    Ev (fun k => (g k).bind fun b1 => (h k).bind fun b2 => if b2.1 = b1.1 then (if (b2.2 != b1.2) = true then some false else some true) else some false) true := by
  refine Ev.bind hg (Ev.bind hh ?_)
  simp only [if_true, bne_self_eq_false, Bool.false_eq_true, if_false]
  exact Ev.now _
theorem exact_iib {g h : Nat → Option (Int × Int × Bool)} {v : Int × Int × Bool} (hg : Ev g v) (hh : Ev h v) :
    Ev (fun k => (g k).bind fun b1 => (h k).bind fun b2 => if b2.1 = b1.1 then (if b2.2.1 = b1.2.1 then (if (b2.2.2 != b1.2.2) = true then some false else some true) else some false) else some false) true := by
  refine Ev.bind hg (Ev.bind hh ?_)
  simp only [if_true, bne_self_eq_false, Bool.false_eq_true, if_false]
  exact Ev.now _
theorem exact_b {g h : Nat → Option Bool} {v : Bool} (hg : Ev g v) (hh : Ev h v) :
    Ev (fun k => (g k).bind fun b1 => (h k).bind fun b2 => if (b2 != b1) = true then some false else some true) true := by
  refine Ev.bind hg (Ev.bind hh ?_)
  simp only [bne_self_eq_false, Bool.false_eq_true, if_false]
  exact Ev.now _
theorem ev_now {α : Type} {g : Nat → Option α} {v : α} (h : ∀ k, g k = some v) : Ev g v := Ev.congr h (Ev.now v)
/-- A row: signs alone, not too many. -/
def isRow (l : List Int) : Bool := l.all fun x => x == 48 || x == 49
def rowOk (l : List Int) : Bool := decide (l.length ≤ 400000) && isRow l
theorem impl_row_loop : ∀ (suf pre : List Int), Bys (pre ++ suf) → (pre ++ suf).length ≤ 1048576 → Ev (fun k => impl_RowOk.l0 k (strOfNums (pre ++ suf)) (pre.length : Int)) (isRow suf)
  | [], pre, hb, hl => by
    refine Ev.step (f := fun _ => some true) (fun k => ?_) (Ev.now _)
    simp only [impl_RowOk.l0, List.append_nil]
    rw [if_neg (ge_end pre)]
  | x :: suf, pre, hb, hl => by
    have hl' : pre.length + (suf.length + 1) ≤ 1048576 := by simpa using hl
    have ih := impl_row_loop suf (pre ++ [x]) (by rw [← snoc_cons]; exact hb) (by rw [← snoc_cons]; exact hl)
    rw [← snoc_cons] at ih
    have hlt := lt_mid pre suf x
    have hn := next_len pre x (by omega)
    have e : isRow (x :: suf) = ((x == 48 || x == 49) && isRow suf) := rfl
    by_cases h0 : x = 48
    · rw [e, beq_iff_eq.2 h0, Bool.true_or, Bool.true_and]
      refine Ev.step (fun k => ?_) ih
      simp only [impl_RowOk.l0]
      rw [if_pos hlt, if_pos (by omega), bt_mid hb, if_pos h0, hn]
    · by_cases h1 : x = 49
      · rw [e, beq_iff_eq.2 h1, Bool.or_true, Bool.true_and]
        refine Ev.step (fun k => ?_) ih
        simp only [impl_RowOk.l0]
        rw [if_pos hlt, if_pos (by omega), bt_mid hb, if_neg h0, if_pos h1, hn]
      · rw [e, beq_eq_false_iff_ne.2 h0, beq_eq_false_iff_ne.2 h1, Bool.or_false, Bool.false_and]
        refine Ev.step (f := fun _ => some false) (fun k => ?_) (Ev.now _)
        simp only [impl_RowOk.l0]
        rw [if_pos hlt, if_pos (by omega), bt_mid hb, if_neg h0, if_neg h1]
theorem impl_rowok_ev {l : List Int} (hb : Bys l) (hl : l.length ≤ 1048576) : Ev (fun k => impl_RowOk.f k (strOfNums l)) (rowOk l) := by
  unfold impl_RowOk.f rowOk
  by_cases h : l.length ≤ 400000
  · simp only [if_neg (show ¬ ((strOfNums l).size : Int) > 400000 by rw [str_size]; omega), decide_eq_true h, Bool.true_and]
    exact impl_row_loop l [] hb hl
  · simp only [if_pos (show ((strOfNums l).size : Int) > 400000 by rw [str_size]; omega), decide_eq_false h, Bool.false_and]
    exact Ev.now _
theorem rowOk_len {l : List Int} (h : rowOk l = true) : l.length ≤ 400000 := by
  unfold rowOk at h
  rw [Bool.and_eq_true] at h
  exact of_decide_eq_true h.1
theorem rowOk_mem {l : List Int} (h : rowOk l = true) : ∀ x, x ∈ l → x = 48 ∨ x = 49 := by
  unfold rowOk isRow at h
  rw [Bool.and_eq_true, List.all_eq_true] at h
  intro x hx
  have := h.2 x hx
  rw [Bool.or_eq_true, beq_iff_eq, beq_iff_eq] at this
  exact this
theorem rowOk_mk {l : List Int} (h : l.length ≤ 400000) (hm : ∀ x, x ∈ l → x = 48 ∨ x = 49) : rowOk l = true := by
  unfold rowOk isRow
  rw [decide_eq_true h, Bool.true_and, List.all_eq_true]
  intro x hx
  rw [Bool.or_eq_true, beq_iff_eq, beq_iff_eq]
  exact hm x hx
theorem or_bits : ∀ (m : Fin 256) (r : Fin 8), sg 8 (Go.bits .or .u8 ((m : Nat) : Int) (shr .u8 128 ((r : Nat) : Int))) = (sg 8 ((m : Nat) : Int)).set (r : Nat) 49 ∧ 0 ≤ Go.bits .or .u8 ((m : Nat) : Int) (shr .u8 128 ((r : Nat) : Int)) ∧ Go.bits .or .u8 ((m : Nat) : Int) (shr .u8 128 ((r : Nat) : Int)) < 256 := by decide +kernel
theorem shr_pow : ∀ r : Fin 8, (128 : Int) / 2 ^ (r : Nat) = shr .u8 128 ((r : Nat) : Int) := by decide +kernel
theorem or_sg {x : Int} {r : Nat} (h0 : 0 ≤ x) (h1 : x < 256) (hr : r < 8) : sg 8 (Go.bits .or .u8 x (shr .u8 128 (r : Int))) = (sg 8 x).set r 49 ∧ 0 ≤ Go.bits .or .u8 x (shr .u8 128 (r : Int)) ∧ Go.bits .or .u8 x (shr .u8 128 (r : Int)) < 256 := by
  obtain ⟨n, rfl⟩ := Int.eq_ofNat_of_zero_le h0
  exact or_bits ⟨n, by omega⟩ ⟨r, hr⟩
/-- A bit is set. -/
theorem set_bit : ∀ (B : List Int) (q r : Nat), Bys B → q < B.length → r < 8 → bitsL (B.set q (Go.bits .or .u8 (rd B (q : Int)) (shr .u8 128 (r : Int)))) = (bitsL B).set (8 * q + r) 49 ∧ Bys (B.set q (Go.bits .or .u8 (rd B (q : Int)) (shr .u8 128 (r : Int))))
  | [], q, r, _, hq, _ => absurd hq (Nat.not_lt_zero _)
  | x :: B, 0, r, hb, _, hr => by
    have hx := hb x (List.mem_cons_self ..)
    have hs := sg_len 8 x
    have e : rd (x :: B) ((0 : Nat) : Int) = x := rfl
    obtain ⟨h1, h2, h3⟩ := or_sg hx.1 hx.2 hr
    rw [e, List.set_cons_zero, bitsL, h1, bitsL, Nat.mul_zero, Nat.zero_add, List.set_append_left _ _ (by omega)]
    exact ⟨rfl, Bys.cons h2 h3 (fun y hy => hb y (List.mem_cons_of_mem _ hy))⟩
  | x :: B, q + 1, r, hb, hq, hr => by
    have hx := hb x (List.mem_cons_self ..)
    have hs := sg_len 8 x
    have hb' : Bys B := fun y hy => hb y (List.mem_cons_of_mem _ hy)
    have e : rd (x :: B) ((q + 1 : Nat) : Int) = rd B (q : Int) := by
      unfold rd
      rw [Int.toNat_natCast, Int.toNat_natCast, List.getD_cons_succ]
    obtain ⟨i1, i2⟩ := set_bit B q r hb' (by simpa using hq) hr
    rw [e, List.set_cons_succ, bitsL, i1, bitsL, List.set_append_right _ _ (by omega), show 8 * (q + 1) + r - (sg 8 x).length = 8 * q + r by omega]
    exact ⟨rfl, Bys.cons hx.1 hx.2 i2⟩
theorem set_pad (p : List Int) (n : Nat) (h : 0 < n) : (p ++ List.replicate n (48 : Int)).set p.length 49 = p ++ 49 :: List.replicate (n - 1) 48 := by
  obtain ⟨n, rfl⟩ : ∃ j, n = j + 1 := ⟨n - 1, by omega⟩
  rw [List.set_append_right _ _ (Nat.le_refl _), Nat.sub_self, List.replicate_succ, List.set_cons_zero, Nat.add_sub_cancel]
/-- RowBytes: the bits of what it writes. -/
theorem rowbytes_loop {L : Nat} : ∀ (suf pre B : List Int), (∀ x, x ∈ pre ++ suf → x = 48 ∨ x = 49) → (pre ++ suf).length ≤ 400000 → L = (pre ++ suf).length / 8 + 1 → B.length = L → Bys B → bitsL B = pre ++ List.replicate (8 * L - pre.length) 48 →
    ∃ B', Ev (fun k => impl_RowBytes.l0 k (strOfNums (pre ++ suf)) B (pre.length : Int)) (strOfNums B', true) ∧ bitsL B' = (pre ++ suf) ++ 49 :: List.replicate (8 * L - (pre ++ suf).length - 1) 48 ∧ Bys B' ∧ B'.length = L
  | [], pre, B, hm, hl, hL, hB, hbb, he => by
    rw [List.append_nil] at hm hl hL ⊢
    have hq : pre.length / 8 < B.length := by omega
    obtain ⟨s1, s2⟩ := set_bit B (pre.length / 8) (pre.length % 8) hbb hq (by omega)
    rw [he, show 8 * (pre.length / 8) + pre.length % 8 = pre.length by omega, set_pad _ _ (by omega)] at s1
    refine ⟨_, Ev.step (f := fun _ => some (strOfNums (B.set (pre.length / 8) (Go.bits .or .u8 (rd B ((pre.length / 8 : Nat) : Int)) (shr .u8 128 ((pre.length % 8 : Nat) : Int)))), true)) (fun k => ?_) (Ev.now _), s1, s2, by rw [List.length_set, hB]⟩
    simp only [impl_RowBytes.l0, str_size]
    rw [if_neg (by omega), show (pre.length : Int) / 8 = ((pre.length / 8 : Nat) : Int) by omega, w64 (by omega) (by omega), if_pos (by omega), if_pos (by omega), show ((pre.length : Int) % 8).toNat = pre.length % 8 by omega, Int.toNat_natCast]
    have hs := shr_pow ⟨pre.length % 8, by omega⟩
    dsimp only at hs
    rw [hs]
  | x :: suf, pre, B, hm, hl, hL, hB, hbb, he => by
    have hb : Bys (pre ++ x :: suf) := fun y hy => by rcases hm y hy with h | h <;> omega
    have hx := hm x (List.mem_append_right _ (List.mem_cons_self ..))
    have hll : (pre ++ x :: suf).length = pre.length + (suf.length + 1) := by simp
    have hq : pre.length / 8 < B.length := by omega
    rcases hx with rfl | rfl
    · obtain ⟨B', h1, h2, h3, h4⟩ := rowbytes_loop (L := L) suf (pre ++ [48]) B (by rw [← snoc_cons]; exact hm) (by rw [← snoc_cons]; exact hl) (by rw [← snoc_cons]; exact hL) hB hbb (by
        rw [he, List.append_assoc, List.length_append, List.length_singleton, List.singleton_append, ← List.replicate_succ]
        congr 2
        omega)
      rw [← snoc_cons] at h1 h2
      refine ⟨B', Ev.step (fun k => ?_) h1, h2, h3, h4⟩
      simp only [impl_RowBytes.l0]
      rw [if_pos (lt_mid pre suf 48), if_pos (by omega), bt_mid hb, if_neg (by decide), next_len pre 48 (by omega)]
    · obtain ⟨s1, s2⟩ := set_bit B (pre.length / 8) (pre.length % 8) hbb hq (by omega)
      rw [he, show 8 * (pre.length / 8) + pre.length % 8 = pre.length by omega, set_pad _ _ (by omega)] at s1
      obtain ⟨B', h1, h2, h3, h4⟩ := rowbytes_loop (L := L) suf (pre ++ [49]) (B.set (pre.length / 8) (Go.bits .or .u8 (rd B ((pre.length / 8 : Nat) : Int)) (shr .u8 128 ((pre.length % 8 : Nat) : Int)))) (by rw [← snoc_cons]; exact hm) (by rw [← snoc_cons]; exact hl) (by rw [← snoc_cons]; exact hL) (by rw [List.length_set, hB]) s2 (by
        rw [s1, show (pre ++ [(49 : Int)]).length = pre.length + 1 by simp, Nat.sub_add_eq, List.append_assoc]
        rfl)
      rw [← snoc_cons] at h1 h2
      refine ⟨B', Ev.step (fun k => ?_) h1, h2, h3, h4⟩
      simp only [impl_RowBytes.l0]
      rw [if_pos (lt_mid pre suf 49), if_pos (by omega), bt_mid hb, if_pos rfl, Int.tdiv_eq_ediv_of_nonneg (by omega), Int.tmod_eq_emod_of_nonneg (by omega), show (pre.length : Int) / 8 = ((pre.length / 8 : Nat) : Int) by omega, show (pre.length : Int) % 8 = ((pre.length % 8 : Nat) : Int) by omega, w64 (x := ((pre.length / 8 : Nat) : Int)) (by omega) (by omega), if_pos (by omega), if_pos (by omega), if_pos (by omega), Int.toNat_natCast, next_len pre 49 (by omega)]
theorem bitsL_zeros : ∀ n : Nat, bitsL (List.replicate n 0) = List.replicate (8 * n) 48
  | 0 => rfl
  | n + 1 => by
    rw [List.replicate_succ, bitsL, bitsL_zeros n, show 8 * (n + 1) = 8 + 8 * n by omega, show sg 8 0 = List.replicate 8 48 from rfl, List.replicate_append_replicate]
theorem impl_rowbytes_ev {m : List Int} (hm : ∀ x, x ∈ m → x = 48 ∨ x = 49) (hl : m.length ≤ 400000) : ∃ B, Ev (fun k => impl_RowBytes.f k (strOfNums m)) (strOfNums B, true) ∧ bitsL B = m ++ 49 :: List.replicate (8 * (m.length / 8 + 1) - m.length - 1) 48 ∧ Bys B ∧ B.length = m.length / 8 + 1 := by
  have hb : Bys m := fun y hy => by rcases hm y hy with h | h <;> omega
  obtain ⟨B, h1, h2, h3, h4⟩ := rowbytes_loop (L := m.length / 8 + 1) m [] (List.replicate (m.length / 8 + 1) 0) hm hl rfl (by rw [List.length_replicate]) (fun y hy => by rw [List.eq_of_mem_replicate hy]; decide) (by rw [bitsL_zeros, List.nil_append]; rfl)
  refine ⟨B, ?_, h2, h3, h4⟩
  unfold impl_RowBytes.f
  refine Ev.bind (impl_rowok_ev hb (by omega)) ?_
  rw [rowOk_mk hl hm]
  have e : wrap64 (wrap64 (((strOfNums m).size : Int) / 8) + 1) = ((m.length / 8 + 1 : Nat) : Int) := by
    rw [str_size, w64 (x := (m.length : Int) / 8) (by omega) (by omega), w64 (by omega) (by omega)]
    omega
  simp only [if_true, e, if_pos (show (0 : Int) ≤ ((m.length / 8 + 1 : Nat) : Int) by omega), Int.toNat_natCast, if_pos (show m.length / 8 + 1 ≤ 281474976710656 by omega)]
  exact h1
/-- What RowBytes wrote is in BytesRow's reach. -/
theorem bytesRow_back {m B : List Int} (hl : m.length ≤ 400000) (hB : bitsL B = m ++ 49 :: List.replicate (8 * (m.length / 8 + 1) - m.length - 1) 48) (hlen : B.length = m.length / 8 + 1) : bytesRow B (strOfNums m, true) := by
  have hne : B ≠ [] := by
    intro h
    rw [h] at hlen
    simp at hlen
  refine Or.inr ⟨⟨hne, by omega, ?_⟩, m, _, hB, ?_⟩
  · obtain ⟨C, x, rfl⟩ : ∃ C x, B = C ++ [x] := ⟨B.dropLast, B.getLast hne, (List.dropLast_concat_getLast hne).symm⟩
    have hC : C.length = m.length / 8 := by simpa using hlen
    have hg : (C ++ [x]).getD ((C ++ [x]).length - 1) 0 = x := by simp
    rw [hg]
    rintro rfl
    have h1 := congrArg (fun l => l.getD m.length 0) hB
    rw [bitsL_append, bitsL, bitsL, List.append_nil] at h1
    have hbl := bitsL_len C
    rw [List.getD_eq_getElem?_getD, List.getD_eq_getElem?_getD, List.getElem?_append_right (by omega), List.getElem?_append_right (Nat.le_refl _), Nat.sub_self, show sg 8 0 = List.replicate 8 48 from rfl, List.getElem?_replicate_of_lt (by omega), List.getElem?_cons_zero] at h1
    exact absurd h1 (by decide)
  · unfold rowOfBytes
    rw [if_neg (by omega)]
theorem last_uniq : ∀ (A A' : List Int) (z z' : Nat), A ++ 49 :: List.replicate z 48 = A' ++ 49 :: List.replicate z' 48 → A = A'
  | [], [], _, _, _ => rfl
  | [], a :: A', z, z', h => by
    rw [List.nil_append, List.cons_append] at h
    injection h with h1 h2
    have : (49 : Int) ∈ List.replicate z (48 : Int) := by rw [h2]; simp
    exact absurd (List.eq_of_mem_replicate this) (by decide)
  | a :: A, [], z, z', h => by
    rw [List.nil_append, List.cons_append] at h
    injection h with h1 h2
    have : (49 : Int) ∈ List.replicate z' (48 : Int) := by rw [← h2]; simp
    exact absurd (List.eq_of_mem_replicate this) (by decide)
  | a :: A, a' :: A', z, z', h => by
    rw [List.cons_append, List.cons_append] at h
    injection h with h1 h2
    rw [h1, last_uniq A A' z z' h2]
theorem spec_row_loop : ∀ (suf pre : List Int), Bys (pre ++ suf) → (pre ++ suf).length ≤ 1048576 → Ev (fun k => spec_l02Row.l0 k (strOfNums (pre ++ suf)) (pre.length : Int)) (isRow suf)
  | [], pre, hb, hl => by
    refine Ev.step (f := fun _ => some true) (fun k => ?_) (Ev.now _)
    simp only [spec_l02Row.l0, List.append_nil]
    rw [if_neg (ge_end pre)]
  | x :: suf, pre, hb, hl => by
    have hl' : pre.length + (suf.length + 1) ≤ 1048576 := by simpa using hl
    have ih := spec_row_loop suf (pre ++ [x]) (by rw [← snoc_cons]; exact hb) (by rw [← snoc_cons]; exact hl)
    rw [← snoc_cons] at ih
    have hlt := lt_mid pre suf x
    have hn := next_len pre x (by omega)
    have e : isRow (x :: suf) = ((x == 48 || x == 49) && isRow suf) := rfl
    by_cases h0 : x = 48
    · rw [e, beq_iff_eq.2 h0, Bool.true_or, Bool.true_and]
      refine Ev.step (fun k => ?_) ih
      simp only [spec_l02Row.l0]
      rw [if_pos hlt, if_pos (by omega), bt_mid hb, if_pos h0, hn]
    · by_cases h1 : x = 49
      · rw [e, beq_iff_eq.2 h1, Bool.or_true, Bool.true_and]
        refine Ev.step (fun k => ?_) ih
        simp only [spec_l02Row.l0]
        rw [if_pos hlt, if_pos (by omega), bt_mid hb, if_neg h0, if_pos h1, hn]
      · rw [e, beq_eq_false_iff_ne.2 h0, beq_eq_false_iff_ne.2 h1, Bool.or_false, Bool.false_and]
        refine Ev.step (f := fun _ => some false) (fun k => ?_) (Ev.now _)
        simp only [spec_l02Row.l0]
        rw [if_pos hlt, if_pos (by omega), bt_mid hb, if_neg h0, if_neg h1]
theorem spec_rowok_ev {l : List Int} (hb : Bys l) (hl : l.length ≤ 1048576) : Ev (fun k => spec_RowOk.f k (strOfNums l)) (rowOk l) := by
  unfold spec_RowOk.f rowOk spec_l02Row.f
  by_cases h : l.length ≤ 400000
  · simp only [if_pos (show ((strOfNums l).size : Int) ≤ 400000 by rw [str_size]; omega), decide_eq_true h, Bool.true_and]
    exact Ev.bind (spec_row_loop l [] hb hl) (Ev.now _)
  · simp only [if_neg (show ¬ ((strOfNums l).size : Int) ≤ 400000 by rw [str_size]; omega), decide_eq_false h, Bool.false_and]
    exact Ev.now _
/-- The number that signs tell, behind n. -/
def vb : Int → List Int → Int
  | n, [] => n
  | n, x :: l => vb (2 * n + (x - 48)) l
theorem vb_bounds : ∀ (l : List Int) (n : Int) (j : Nat), (∀ x, x ∈ l → x = 48 ∨ x = 49) → 0 ≤ n → n < 2 ^ j → 0 ≤ vb n l ∧ vb n l < 2 ^ (j + l.length)
  | [], n, j, _, h0, h1 => ⟨h0, by simpa [vb] using h1⟩
  | x :: l, n, j, hm, h0, h1 => by
    have hx := hm x (by simp)
    have h2 : 2 * n + (x - 48) < 2 ^ (j + 1) := by
      rw [Int.pow_succ]
      rcases hx with rfl | rfl <;> omega
    have := vb_bounds l (2 * n + (x - 48)) (j + 1) (fun y hy => hm y (by simp [hy])) (by rcases hx with rfl | rfl <;> omega) h2
    rw [show j + (x :: l).length = j + 1 + l.length by simp; omega]
    exact this
theorem vb_append : ∀ (l m : List Int) (n : Int), vb n (l ++ m) = vb (vb n l) m
  | [], _, _ => rfl
  | x :: l, m, n => by simp only [List.cons_append, vb, vb_append l m]
theorem vb_zeros : ∀ (j : Nat) (l : List Int), vb 0 (List.replicate j 48 ++ l) = vb 0 l
  | 0, _ => rfl
  | j + 1, l => by
    rw [List.replicate_succ, List.cons_append, vb]
    exact vb_zeros j l
theorem vb_sg : ∀ (w : Nat) (n : Int), 0 ≤ n → n < 2 ^ w → vb 0 (sg w n) = n
  | 0, n, h0, h1 => by
    simp only [Int.pow_zero] at h1
    simp only [sg, vb]
    omega
  | w + 1, n, h0, h1 => by
    rw [Int.pow_succ] at h1
    rw [sg, vb_append, vb_sg w (n / 2) (by omega) (by omega)]
    simp only [vb]
    omega
theorem chunk_loop {R : ByteArray} (acc S P : List Int) (hP : P.length ≤ 500000) (hacc : acc.length ≤ 500000) : ∀ (v u : List Int) (x : Int), u.length + v.length = 8 → (∀ y, y ∈ v → y = 48 ∨ y = 49) → 0 ≤ x → x < 2 ^ u.length →
    Ev (fun k => spec_l02Bytes.l1 k (P ++ (u ++ (v ++ S))) (acc ++ [vb x v % 256]) ((P.length + 8 : Nat) : Int)) R →
    Ev (fun k => spec_l02Bytes.l2 k (P ++ (u ++ (v ++ S))) acc (P.length : Int) x (u.length : Int)) R
  | [], u, x, hl, hv, h0, h1, hR => by
    simp only [List.length_nil, Nat.add_zero] at hl
    refine Ev.step (fun k => ?_) hR
    rw [spec_l02Bytes.l2, if_neg (by omega), if_pos (by omega), w64 (x := (P.length : Int) + 8) (by omega) (by omega)]
    rfl
  | y :: v, u, x, hl, hv, h0, h1, hR => by
    simp only [List.length_cons] at hl
    have hy := hv y (List.mem_cons_self ..)
    have hp : (2 : Int) ^ u.length ≤ 2 ^ 8 := by
      have : (2 : Nat) ^ u.length ≤ 2 ^ 8 := Nat.pow_le_pow_right (by decide) (by omega)
      exact_mod_cast this
    have h256 : (2 : Int) ^ 8 = 256 := by decide
    have e : P ++ (u ++ (y :: v ++ S)) = P ++ ((u ++ [y]) ++ (v ++ S)) := by simp
    have ih := chunk_loop acc S P hP hacc v (u ++ [y]) (2 * x + (y - 48)) (by rw [List.length_append, List.length_singleton]; omega) (fun z hz => hv z (List.mem_cons_of_mem _ hz)) (by omega) (by rw [List.length_append, List.length_singleton, Int.pow_succ]; omega)
      (by rw [← e]; exact hR)
    rw [← e] at ih
    refine Ev.step (fun k => ?_) ih
    have hg : rd (P ++ (u ++ (y :: v ++ S))) ((P.length : Int) + (u.length : Int)) = y := by
      have e2 : P ++ (u ++ (y :: v ++ S)) = (P ++ u) ++ y :: (v ++ S) := by simp
      rw [e2, show (P.length : Int) + (u.length : Int) = ((P ++ u).length : Int) by rw [List.length_append]; omega, rd_mid]
    have hl2 : (P ++ (u ++ (y :: v ++ S))).length = P.length + (u.length + (v.length + 1 + S.length)) := by
      simp only [List.length_append, List.length_cons]
    rw [spec_l02Bytes.l2, if_pos (by omega), w64 (x := (P.length : Int) + (u.length : Int)) (by omega) (by omega), if_pos (by omega), if_pos (by omega), hg, w64 (x := y) (by omega) (by omega), w64 (x := 2 * x) (by omega) (by omega), w64 (x := 2 * x + y) (by omega) (by omega), w64 (by omega) (by omega), w64 (by omega) (by omega), show 2 * x + y - 48 = 2 * x + (y - 48) by omega, List.length_append, List.length_singleton]
    rfl
theorem chunks_loop : ∀ (suf pre : List Int), Bys (pre ++ suf) → (pre ++ suf).length ≤ 60000 → Ev (fun k => spec_l02Bytes.l1 k (bitsL (pre ++ suf)) pre ((8 * pre.length : Nat) : Int)) (strOfNums (pre ++ suf))
  | [], pre, hb, hl => by
    refine Ev.step (f := fun _ => some (strOfNums pre)) (fun k => ?_) (by rw [List.append_nil]; exact Ev.now _)
    have h8 := bitsL_len pre
    rw [spec_l02Bytes.l1, List.append_nil, if_neg (by omega)]
  | y :: suf, pre, hb, hl => by
    have hy := mid_byte hb
    have hll : (pre ++ y :: suf).length = pre.length + (suf.length + 1) := by simp
    have h8 := bitsL_len pre
    have hs := sg_len 8 y
    have hv : vb 0 (sg 8 y) = y := vb_sg 8 y hy.1 (by have : (2 : Int) ^ 8 = 256 := by decide
                                                      omega)
    have e : bitsL (pre ++ y :: suf) = bitsL pre ++ ([] ++ (sg 8 y ++ bitsL suf)) := by rw [bitsL_append, bitsL, List.nil_append]
    have ih := chunks_loop suf (pre ++ [y]) (by rw [← snoc_cons]; exact hb) (by rw [← snoc_cons]; exact hl)
    rw [← snoc_cons] at ih
    have hc := chunk_loop (R := strOfNums (pre ++ y :: suf)) pre (bitsL suf) (bitsL pre) (by omega) (by omega) (sg 8 y) [] 0 (by rw [hs]; rfl) (sg_row 8 y) (by decide) (by decide) (by
      rw [← e, hv, Int.emod_eq_of_lt hy.1 hy.2, h8]
      have e3 : 8 * (pre ++ [y]).length = 8 * pre.length + 8 := by rw [List.length_append, List.length_singleton]; omega
      rw [e3] at ih
      exact ih)
    rw [← e, h8] at hc
    refine Ev.step (fun k => ?_) hc
    have hl2 := bitsL_len (pre ++ y :: suf)
    rw [spec_l02Bytes.l1, if_pos (by omega)]
    rfl
theorem pad_loop {R : ByteArray} : ∀ (z : Nat) (X : List Int), X.length ≤ 500000 → z < 8 → (X.length + z) % 8 = 0 → Ev (fun k => spec_l02Bytes.l1 k (X ++ List.replicate z 48) [] 0) R → Ev (fun k => spec_l02Bytes.l0 k X) R
  | 0, X, hX, hz, h, hR => by
    refine Ev.step (fun k => ?_) hR
    rw [spec_l02Bytes.l0, if_pos (by omega)]
    simp
  | z + 1, X, hX, hz, h, hR => by
    have ih := pad_loop (R := R) z (X ++ [48]) (by rw [List.length_append, List.length_singleton]; omega) (by omega) (by rw [List.length_append, List.length_singleton]; omega) (by
      rw [List.append_assoc, List.singleton_append, ← List.replicate_succ]
      exact hR)
    refine Ev.step (fun k => ?_) ih
    rw [spec_l02Bytes.l0, if_neg (by omega), if_pos (by omega)]
theorem spec_l02bytes_ev {m B : List Int} (hm : ∀ x, x ∈ m → x = 48 ∨ x = 49) (hl : m.length ≤ 400000) (hB : bitsL B = m ++ 49 :: List.replicate (8 * (m.length / 8 + 1) - m.length - 1) 48) (hb : Bys B) (hlen : B.length = m.length / 8 + 1) : Ev (fun k => spec_l02Bytes.f k (strOfNums m)) (strOfNums B) := by
  have hbm : Bys m := fun y hy => by rcases hm y hy with h | h <;> omega
  unfold spec_l02Bytes.f
  simp only [Option.bind_some, bytesOf_str hbm, if_pos (show m.length < 140737488355328 by omega)]
  refine pad_loop (8 * (m.length / 8 + 1) - m.length - 1) (m ++ [49]) (by rw [List.length_append, List.length_singleton]; omega) (by omega) (by rw [List.length_append, List.length_singleton]; omega) ?_
  have e : m ++ [49] ++ List.replicate (8 * (m.length / 8 + 1) - m.length - 1) 48 = bitsL B := by rw [hB]; simp
  rw [e]
  have h := chunks_loop B [] hb (by rw [List.nil_append]; omega)
  exact h
/-- The kinds of a unit. -/
def kindOk (x : Int) : Bool := if x = 1 then true else if x = 5 then true else if x = 7 then true else x == 8
theorem spec_kind (x : Int) : spec_l07Kind.f x = some (kindOk x) := by
  unfold spec_l07Kind.f kindOk
  split
  · rfl
  · split
    · rfl
    · split <;> rfl
theorem impl_kind (x : Int) : impl_isKind.f x = some (kindOk x) := by
  unfold impl_isKind.f kindOk
  split
  · rfl
  · split
    · rfl
    · split <;> rfl
theorem FnExactUnitOf : laws_FnExactUnitOf.Pure := by
  intro x a _ _
  obtain ⟨l, hb, rfl⟩ := nums_of a
  by_cases hbig : ((strOfNums l).size : Int) > 1048576
  · exact ⟨0, by unfold laws_FnExactUnitOf.f; rw [if_pos hbig]⟩
  · have hl : l.length ≤ 1048576 := by rw [str_size] at hbig; omega
    refine Ev.rounds ?_
    unfold laws_FnExactUnitOf.f
    simp only [if_neg hbig]
    by_cases hr : rowOk l = true
    · have hll := rowOk_len hr
      obtain ⟨B, h1, h2, h3, h4⟩ := impl_rowbytes_ev (rowOk_mem hr) (rowOk_len hr)
      have hsz : (strOfNums [x % 256]).size + (strOfNums B).size ≤ 9223372036854775807 := by
        rw [str_size, str_size, List.length_singleton]
        omega
      cases hk : kindOk x
      · refine exact_sb (v := ((⟨#[]⟩ : ByteArray), false)) ?_ ?_
        · unfold spec_UnitOf.f
          simp only [spec_kind, hk, Option.bind_some, Bool.false_eq_true, if_false]
          exact Ev.now _
        · unfold impl_UnitOf.f
          refine Ev.bind h1 ?_
          simp only [impl_kind, hk, Option.bind_some, Bool.false_eq_true, if_false, if_true]
          exact Ev.now _
      · refine exact_sb (v := (strOfNums [x % 256] ++ strOfNums B, true)) ?_ ?_
        · unfold spec_UnitOf.f
          simp only [spec_kind, hk, Option.bind_some, if_true]
          refine Ev.bind (spec_rowok_ev hb hl) ?_
          rw [hr]
          simp only [if_true]
          refine Ev.bind (spec_l02bytes_ev (rowOk_mem hr) (rowOk_len hr) h2 h3 h4) ?_
          simp only [if_pos hsz]
          exact Ev.now _
        · unfold impl_UnitOf.f
          refine Ev.bind h1 ?_
          simp only [impl_kind, hk, Option.bind_some, if_true, if_pos hsz]
          exact Ev.now _
    · have hr' : rowOk l = false := Bool.eq_false_iff.2 hr
      refine exact_sb (v := ((⟨#[]⟩ : ByteArray), false)) ?_ ?_
      · unfold spec_UnitOf.f
        simp only [spec_kind, Option.bind_some]
        cases hk : kindOk x
        · exact Ev.now _
        · simp only [if_true]
          refine Ev.bind (spec_rowok_ev hb hl) ?_
          rw [hr']
          exact Ev.now _
      · unfold impl_UnitOf.f impl_RowBytes.f
        refine Ev.bind (Ev.bind (impl_rowok_ev hb hl) (r := ((⟨#[]⟩ : ByteArray), false)) ?_) ?_
        · rw [hr']
          exact Ev.now _
        · exact Ev.now _

end Go.Proofs.Ytjcpapjochlndaa.Pure
