/- The program's ReadHead returns what the reference's returns, for every seq, par and text. -/
import Derived.Test.YtibnnodjockcbaaQFnExactReadHeadx11
import Derived.Test.YtibnnodjockcbaaStmtFnExactReadHead
set_option linter.unusedVariables false
set_option linter.unusedSimpArgs false
namespace Go.Proofs.Ytibnnodjockcbaa.Pure
open Go.RowKit Go.Proofs.Ytibnnodjockcbaa.QFnExactReadHead Go.Proofs.YtibnnodjockcbaaW.PrintWords Go.Proofs.YtibnnodjockcbaaW.PrintLast Go.Proofs.YtibnnodjockcbaaW.PrintMore

/-! ### Bytes as lists of numbers, and some plain facts -/
theorem w64 {x : Int} (h0 : -9223372036854775808 ≤ x) (h1 : x ≤ 9223372036854775807) : wrap64 x = x := by
  unfold wrap64
  omega
theorem i64_bounds {x : Int} (h : (Lit.int .i64 x).wf = true) : -9223372036854775808 ≤ x ∧ x ≤ 9223372036854775807 := by
  have e := h
  simp [Lit.wf, IntKind.min, IntKind.max, IntKind.signed, IntKind.bits] at e
  omega
/-- All numbers of the list are bytes. -/
def Bys (l : List Int) : Prop := ∀ x, x ∈ l → 0 ≤ x ∧ x < 256
theorem Bys.nil : Bys [] := fun _ h => by cases h
theorem Bys.cons {x : Int} {l : List Int} (h0 : 0 ≤ x) (h1 : x < 256) (h : Bys l) : Bys (x :: l) := fun y hy => by
  rcases List.mem_cons.1 hy with rfl | hy
  · exact ⟨h0, h1⟩
  · exact h y hy
theorem Bys.append {l m : List Int} (h : Bys l) (h' : Bys m) : Bys (l ++ m) := fun y hy => by
  rcases List.mem_append.1 hy with hy | hy
  · exact h y hy
  · exact h' y hy
theorem Bys.left {l m : List Int} (h : Bys (l ++ m)) : Bys l := fun y hy => h y (List.mem_append_left _ hy)
theorem Bys.right {l m : List Int} (h : Bys (l ++ m)) : Bys m := fun y hy => h y (List.mem_append_right _ hy)
theorem Bys.take {l : List Int} (h : Bys l) (n : Nat) : Bys (l.take n) := fun y hy => h y (List.mem_of_mem_take hy)
theorem Bys.drop {l : List Int} (h : Bys l) (n : Nat) : Bys (l.drop n) := fun y hy => h y (List.mem_of_mem_drop hy)
theorem Bys.getD {l : List Int} (h : Bys l) (i : Nat) : 0 ≤ l.getD i 0 ∧ l.getD i 0 < 256 := by
  rw [List.getD_eq_getElem?_getD]
  by_cases hi : i < l.length
  · rw [List.getElem?_eq_getElem hi]
    exact h _ (List.getElem_mem hi)
  · rw [List.getElem?_eq_none (by omega)]
    exact ⟨by decide, by decide⟩
theorem nums_of (a : ByteArray) : ∃ l, Bys l ∧ a = strOfNums l := by
  refine ⟨a.data.toList.map fun u => (u.toNat : Int), ?_, ?_⟩
  · intro x hx
    obtain ⟨u, _, rfl⟩ := List.mem_map.1 hx
    have := u.toNat_lt
    omega
  · unfold strOfNums
    rw [List.map_map]
    have e : ((fun n : Int => UInt8.ofNat n.toNat) ∘ fun u : UInt8 => (u.toNat : Int)) = id := by
      funext u
      simp
    rw [e, List.map_id]
theorem str_size (l : List Int) : (strOfNums l).size = l.length := strOfNums_size l
theorem bt_str {l : List Int} (h : Bys l) (i : Int) : bt (strOfNums l) i = l.getD i.toNat 0 := by
  unfold bt
  rw [List.getD_eq_getElem?_getD]
  split
  · rename_i hi
    have hi' : i.toNat < l.length := by rw [← str_size]; exact hi
    rw [List.getElem?_eq_getElem hi']
    have hb := h _ (List.getElem_mem hi')
    have e : (strOfNums l)[i.toNat]'hi = UInt8.ofNat (l[i.toNat]).toNat := by
      simp [strOfNums, ByteArray.getElem_eq_getElem_data]
    rw [e, UInt8.toNat_ofNat']
    simp only [Option.getD_some]
    omega
  · rename_i hi
    rw [List.getElem?_eq_none (by rw [← str_size]; omega)]
    rfl
theorem bt_get {l : List Int} (h : Bys l) {i : Int} {n : Nat} (hi : i = (n : Int)) : bt (strOfNums l) i = l.getD n 0 := by
  rw [bt_str h, hi, Int.toNat_natCast]
theorem str_append (l m : List Int) : strOfNums l ++ strOfNums m = strOfNums (l ++ m) := by
  apply ByteArray.ext
  rw [ByteArray.data_append]
  unfold strOfNums
  simp
theorem str_empty : (⟨#[]⟩ : ByteArray) = strOfNums [] := rfl
theorem str_inj {l m : List Int} (hl : Bys l) (hm : Bys m) (h : strOfNums l = strOfNums m) : l = m := by
  have hs : l.length = m.length := by rw [← str_size l, ← str_size m, h]
  apply List.ext_getElem hs
  intro i h1 h2
  have e1 := bt_get hl (i := (i : Int)) rfl
  have e2 := bt_get hm (i := (i : Int)) rfl
  rw [h, e2] at e1
  simp [List.getD_eq_getElem?_getD, h1, h2] at e1
  exact e1.symm
theorem str_extract (l : List Int) (i j : Nat) : (strOfNums l).extract i j = strOfNums ((l.take j).drop i) := by
  apply ByteArray.ext
  rw [ByteArray.data_extract]
  unfold strOfNums
  apply Array.ext'
  simp [List.extract_eq_take_drop, List.drop_take, List.map_drop, List.map_take]
theorem getD_mid (pre suf : List Int) (x : Int) : (pre ++ x :: suf).getD pre.length 0 = x := by
  rw [List.getD_eq_getElem?_getD, List.getElem?_append_right (Nat.le_refl _)]
  simp
theorem bt_mid {pre suf : List Int} {x : Int} (h : Bys (pre ++ x :: suf)) : bt (strOfNums (pre ++ x :: suf)) (pre.length : Int) = x := by
  rw [bt_get h rfl, getD_mid]
theorem rd_mid (pre suf : List Int) (x : Int) : rd (pre ++ x :: suf) (pre.length : Int) = x := by
  unfold rd
  rw [Int.toNat_natCast, getD_mid]
theorem snoc_cons (pre suf : List Int) (x : Int) : pre ++ x :: suf = (pre ++ [x]) ++ suf := by simp
theorem next_len (pre : List Int) (x : Int) (h : pre.length < 4611686018427387904) : wrap64 ((pre.length : Int) + 1) = ((pre ++ [x]).length : Int) := by
  rw [w64 (by omega) (by omega)]
  simp
theorem lt_mid (pre suf : List Int) (x : Int) : (pre.length : Int) < ((strOfNums (pre ++ x :: suf)).size : Int) := by
  rw [str_size]
  simp
  omega
theorem ge_end (pre : List Int) : ¬ ((pre.length : Int) < ((strOfNums pre).size : Int)) := by
  rw [str_size]
  omega
theorem mid_byte {pre suf : List Int} {x : Int} (h : Bys (pre ++ x :: suf)) : 0 ≤ x ∧ x < 256 := h x (by simp)
/-- The number that signs tell, behind n. -/
def vb : Int → List Int → Int
  | n, [] => n
  | n, x :: l => vb (2 * n + (x - 48)) l
theorem vb_bounds : ∀ (l : List Int) (n : Int) (j : Nat), (∀ x, x ∈ l → x = 48 ∨ x = 49) → 0 ≤ n → n < 2 ^ j → 0 ≤ vb n l ∧ vb n l < 2 ^ (j + l.length)
  | [], n, j, _, h0, h1 => ⟨h0, by simpa [vb] using h1⟩
  | x :: l, n, j, hm, h0, h1 => by
    have hx := hm x (by simp)
    have h2 : 2 * n + (x - 48) < 2 ^ (j + 1) := by
      rw [Int.pow_succ]
      rcases hx with rfl | rfl <;> omega
    have := vb_bounds l (2 * n + (x - 48)) (j + 1) (fun y hy => hm y (by simp [hy])) (by rcases hx with rfl | rfl <;> omega) h2
    rw [show j + (x :: l).length = j + 1 + l.length by simp; omega]
    exact this
theorem vb_append : ∀ (l m : List Int) (n : Int), vb n (l ++ m) = vb (vb n l) m
  | [], _, _ => rfl
  | x :: l, m, n => by simp only [List.cons_append, vb, vb_append l m]
theorem vb_zeros : ∀ (j : Nat) (l : List Int), vb 0 (List.replicate j 48 ++ l) = vb 0 l
  | 0, _ => rfl
  | j + 1, l => by
    rw [List.replicate_succ, List.cons_append, vb]
    exact vb_zeros j l
/-- How many noughts a list begins with. -/
def lz : List Int → Nat
  | [] => 0
  | x :: l => if x = 48 then lz l + 1 else 0
theorem lz_le : ∀ l : List Int, lz l ≤ l.length
  | [] => Nat.le_refl _
  | x :: l => by
    unfold lz
    split
    · have := lz_le l
      simp only [List.length_cons]
      omega
    · exact Nat.zero_le _
theorem lz_get : ∀ (l : List Int) (i : Nat), i < lz l → l.getD i 0 = 48
  | [], i, h => by simp [lz] at h
  | x :: l, i, h => by
    unfold lz at h
    split at h
    · rename_i hx
      cases i with
      | zero => simpa using hx
      | succ i =>
        have := lz_get l i (by omega)
        simpa using this
    · omega
theorem lz_stop : ∀ (l : List Int), lz l < l.length → l.getD (lz l) 0 ≠ 48
  | [], h => by simp [lz] at h
  | x :: l, h => by
    unfold lz at h ⊢
    split
    · rename_i hx
      rw [if_pos hx] at h
      have := lz_stop l (by simp only [List.length_cons] at h; omega)
      simpa using this
    · rename_i hx
      simpa using hx
theorem lz_split : ∀ (l : List Int), l = List.replicate (lz l) 48 ++ l.drop (lz l)
  | [] => rfl
  | x :: l => by
    unfold lz
    split
    · rename_i hx
      rw [List.replicate_succ, List.drop_succ_cons, List.cons_append, ← lz_split l, hx]
    · rfl
theorem getD_drop (l : List Int) (p i : Nat) : (l.drop p).getD i 0 = l.getD (p + i) 0 := by
  rw [List.getD_eq_getElem?_getD, List.getD_eq_getElem?_getD, List.getElem?_drop]
/-- ReadUe of a row, at a place in it. -/
def rdUe (l : List Int) (p : Nat) : Option (Nat × Nat) :=
  if lz (l.drop p) ≤ 20 ∧ p + (2 * lz (l.drop p) + 1) ≤ l.length ∧ vb 0 ((l.drop p).take (2 * lz (l.drop p) + 1)) - 1 ≤ 1000000 then some ((vb 0 ((l.drop p).take (2 * lz (l.drop p) + 1)) - 1).toNat, p + (2 * lz (l.drop p) + 1)) else none
theorem take_split (m : List Int) (w : Nat) : m.take (lz m + w) = List.replicate (lz m) 48 ++ (m.drop (lz m)).take w := by
  refine (congrArg (List.take (lz m + w)) (lz_split m)).trans ?_
  rw [List.take_append, List.take_of_length_le (by rw [List.length_replicate]; omega), List.length_replicate, Nat.add_sub_cancel_left]
theorem vb_big {m : List Int} (hm : ∀ x, x ∈ m → x = 48 ∨ x = 49) (w : Nat) (h : lz m + (w + 1) ≤ m.length) : 2 ^ w ≤ vb 0 ((m.drop (lz m)).take (w + 1)) ∧ vb 0 ((m.drop (lz m)).take (w + 1)) < 2 ^ (w + 1) := by
  have hlt : lz m < m.length := by omega
  have hx : m[lz m] = 49 := by
    have h1 := lz_stop m hlt
    rw [List.getD_eq_getElem?_getD, List.getElem?_eq_getElem hlt] at h1
    rcases hm _ (List.getElem_mem hlt) with h2 | h2
    · exact absurd h2 h1
    · exact h2
  have hd : (m.drop (lz m)).take (w + 1) = 49 :: (m.drop (lz m + 1)).take w := by
    rw [List.drop_eq_getElem_cons hlt, List.take_succ_cons, hx]
  have hmem : ∀ x, x ∈ (m.drop (lz m + 1)).take w → x = 48 ∨ x = 49 := fun x hx => hm x (List.mem_of_mem_drop (List.mem_of_mem_take hx))
  have hlen : ((m.drop (lz m + 1)).take w).length = w := by
    rw [List.length_take, List.length_drop]
    omega
  have lowb : ∀ (t : List Int) (n : Int), (∀ x, x ∈ t → x = 48 ∨ x = 49) → 1 ≤ n → 2 ^ t.length * n ≤ vb n t := by
    intro t
    induction t with
    | nil => intro n _ _; simp [vb]
    | cons y t ih =>
      intro n ht hn
      have hy := ht y (by simp)
      have := ih (2 * n + (y - 48)) (fun z hz => ht z (by simp [hz])) (by rcases hy with h | h <;> rw [h] <;> omega)
      rw [vb, List.length_cons, Int.pow_succ]
      have h2 : (2 : Int) ^ t.length * 2 * n ≤ 2 ^ t.length * (2 * n + (y - 48)) := by
        rw [Int.mul_assoc]
        apply Int.mul_le_mul_of_nonneg_left
        · rcases hy with h | h <;> rw [h] <;> omega
        · exact Int.pow_nonneg (by decide)
      omega
  rw [hd, vb, show (2 : Int) * 0 + (49 - 48) = 1 by decide]
  have h1 := lowb _ 1 hmem (by decide)
  have h2 := vb_bounds _ 1 1 hmem (by decide) (by decide)
  rw [hlen] at h1 h2
  rw [show w + 1 = 1 + w by omega]
  exact ⟨by omega, h2.2⟩
theorem exact_sb {g h : Nat → Option (ByteArray × Bool)} {v : ByteArray × Bool} (hg : Ev g v) (hh : Ev h v) :
    Ev (fun k => (g k).bind fun b1 => (h k).bind fun b2 => if b2.1.toList = b1.1.toList then (if (b2.2 != b1.2) = true then some false else some true) else some false) true := by
  refine Ev.bind hg (Ev.bind hh ?_)
  simp only [if_true, bne_self_eq_false, Bool.false_eq_true, if_false]
  exact Ev.now _
theorem exact_i {g h : Nat → Option Int} {v : Int} (hg : Ev g v) (hh : Ev h v) :
    Ev (fun k => (g k).bind fun b1 => (h k).bind fun b2 => if b2 = b1 then some true else some false) true := by
  refine Ev.bind hg (Ev.bind hh ?_)
  simp only [if_true]
  exact Ev.now _
theorem exact_s {g h : Nat → Option ByteArray} {v : ByteArray} (hg : Ev g v) (hh : Ev h v) :
    Ev (fun k => (g k).bind fun b1 => (h k).bind fun b2 => if b2.toList = b1.toList then some true else some false) true := by
  refine Ev.bind hg (Ev.bind hh ?_)
  simp only [if_true]
  exact Ev.now _
theorem exact_ib {g h : Nat → Option (Int × Bool)} {v : Int × Bool} (hg : Ev g v) (hh : Ev h v) :
    Ev (fun k => (g k).bind fun b1 => (h k).bind fun b2 => if b2.1 = b1.1 then (if (b2.2 != b1.2) = true then some false else some true) else some false) true := by
  refine Ev.bind hg (Ev.bind hh ?_)
  simp only [if_true, bne_self_eq_false, Bool.false_eq_true, if_false]
  exact Ev.now _
theorem exact_iib {g h : Nat → Option (Int × Int × Bool)} {v : Int × Int × Bool} (hg : Ev g v) (hh : Ev h v) :
    Ev (fun k => (g k).bind fun b1 => (h k).bind fun b2 => if b2.1 = b1.1 then (if b2.2.1 = b1.2.1 then (if (b2.2.2 != b1.2.2) = true then some false else some true) else some false) else some false) true := by
  refine Ev.bind hg (Ev.bind hh ?_)
  simp only [if_true, bne_self_eq_false, Bool.false_eq_true, if_false]
  exact Ev.now _
theorem exact_b {g h : Nat → Option Bool} {v : Bool} (hg : Ev g v) (hh : Ev h v) :
    Ev (fun k => (g k).bind fun b1 => (h k).bind fun b2 => if (b2 != b1) = true then some false else some true) true := by
  refine Ev.bind hg (Ev.bind hh ?_)
  simp only [bne_self_eq_false, Bool.false_eq_true, if_false]
  exact Ev.now _
theorem ev_now {α : Type} {g : Nat → Option α} {v : α} (h : ∀ k, g k = some v) : Ev g v := Ev.congr h (Ev.now v)
/-- A row: signs alone, not too many. -/
def isRow (l : List Int) : Bool := l.all fun x => x == 48 || x == 49
def rowOk (l : List Int) : Bool := decide (l.length ≤ 400000) && isRow l
theorem impl_row_loop : ∀ (suf pre : List Int), Bys (pre ++ suf) → (pre ++ suf).length ≤ 1048576 → Ev (fun k => impl_RowOk.l0 k (strOfNums (pre ++ suf)) (pre.length : Int)) (isRow suf)
  | [], pre, hb, hl => by
    refine Ev.step (f := fun _ => some true) (fun k => ?_) (Ev.now _)
    simp only [impl_RowOk.l0, List.append_nil]
    rw [if_neg (ge_end pre)]
  | x :: suf, pre, hb, hl => by
    have hl' : pre.length + (suf.length + 1) ≤ 1048576 := by simpa using hl
    have ih := impl_row_loop suf (pre ++ [x]) (by rw [← snoc_cons]; exact hb) (by rw [← snoc_cons]; exact hl)
    rw [← snoc_cons] at ih
    have hlt := lt_mid pre suf x
    have hn := next_len pre x (by omega)
    have e : isRow (x :: suf) = ((x == 48 || x == 49) && isRow suf) := rfl
    by_cases h0 : x = 48
    · rw [e, beq_iff_eq.2 h0, Bool.true_or, Bool.true_and]
      refine Ev.step (fun k => ?_) ih
      simp only [impl_RowOk.l0]
      rw [if_pos hlt, if_pos (by omega), bt_mid hb, if_pos h0, hn]
    · by_cases h1 : x = 49
      · rw [e, beq_iff_eq.2 h1, Bool.or_true, Bool.true_and]
        refine Ev.step (fun k => ?_) ih
        simp only [impl_RowOk.l0]
        rw [if_pos hlt, if_pos (by omega), bt_mid hb, if_neg h0, if_pos h1, hn]
      · rw [e, beq_eq_false_iff_ne.2 h0, beq_eq_false_iff_ne.2 h1, Bool.or_false, Bool.false_and]
        refine Ev.step (f := fun _ => some false) (fun k => ?_) (Ev.now _)
        simp only [impl_RowOk.l0]
        rw [if_pos hlt, if_pos (by omega), bt_mid hb, if_neg h0, if_neg h1]
theorem impl_rowok_ev {l : List Int} (hb : Bys l) (hl : l.length ≤ 1048576) : Ev (fun k => impl_RowOk.f k (strOfNums l)) (rowOk l) := by
  unfold impl_RowOk.f rowOk
  by_cases h : l.length ≤ 400000
  · simp only [if_neg (show ¬ ((strOfNums l).size : Int) > 400000 by rw [str_size]; omega), decide_eq_true h, Bool.true_and]
    exact impl_row_loop l [] hb hl
  · simp only [if_pos (show ((strOfNums l).size : Int) > 400000 by rw [str_size]; omega), decide_eq_false h, Bool.false_and]
    exact Ev.now _
theorem rowOk_len {l : List Int} (h : rowOk l = true) : l.length ≤ 400000 := by
  unfold rowOk at h
  rw [Bool.and_eq_true] at h
  exact of_decide_eq_true h.1
theorem rowOk_mem {l : List Int} (h : rowOk l = true) : ∀ x, x ∈ l → x = 48 ∨ x = 49 := by
  unfold rowOk isRow at h
  rw [Bool.and_eq_true, List.all_eq_true] at h
  intro x hx
  have := h.2 x hx
  rw [Bool.or_eq_true, beq_iff_eq, beq_iff_eq] at this
  exact this
theorem rowOk_mk {l : List Int} (h : l.length ≤ 400000) (hm : ∀ x, x ∈ l → x = 48 ∨ x = 49) : rowOk l = true := by
  unfold rowOk isRow
  rw [decide_eq_true h, Bool.true_and, List.all_eq_true]
  intro x hx
  rw [Bool.or_eq_true, beq_iff_eq, beq_iff_eq]
  exact hm x hx
theorem or_bit : ∀ (n : Int) (b : Int), 0 ≤ n → n < 1152921504606846976 → (b = 0 ∨ b = 1) → Go.bits .or .i64 (wrap64 (n * 2)) b = 2 * n + b := by
  intro n b h0 h1 hb
  rw [w64 (by omega) (by omega)]
  have h := Go.bits_join .i64 62 (by decide) (fun m hm0 hm1 => by rw [Go.IntKind.wrap_i64]; omega) 1 (n * 2) b (by omega) (by omega) (by omega) (by omega) (by omega) (by omega)
  rw [h]
  omega
/-- scan.fix: what is read at a place, so many signs. -/
theorem scan_fix_loop : ∀ (d : Nat) (l : List Int) (at_ i w : Nat) (n : Int) (b : Bool), Bys l → (∀ x, x ∈ l → x = 48 ∨ x = 49) → l.length ≤ 400000 → at_ + w ≤ l.length → w ≤ 60 → i + d = w → 0 ≤ n → n < 2 ^ i →
    Ev (fun k => impl_scan_fix.l0 k (w : Int) n (i : Int) (strOfNums l) (at_ : Int) b) (vb n ((l.drop (at_ + i)).take d), strOfNums l, ((at_ + w : Nat) : Int), b)
  | 0, l, at_, i, w, n, b, hb, hm, hl, ha, hw, hi, h0, h1 => by
    refine Ev.step (f := fun _ => some (n, strOfNums l, ((at_ + w : Nat) : Int), b)) (fun k => ?_) (by simp only [List.take_zero, vb]; exact Ev.now _)
    simp only [impl_scan_fix.l0]
    rw [if_neg (by omega), w64 (by omega) (by omega)]
    rfl
  | d + 1, l, at_, i, w, n, b, hb, hm, hl, ha, hw, hi, h0, h1 => by
    have hlt : at_ + i < l.length := by omega
    have hx := hm _ (List.getElem_mem hlt)
    have hd : (l.drop (at_ + i)).take (d + 1) = l[at_ + i] :: (l.drop (at_ + (i + 1))).take d := by
      rw [List.drop_eq_getElem_cons hlt, List.take_succ_cons]
      rfl
    have hg : bt (strOfNums l) ((at_ : Int) + (i : Int)) = l[at_ + i] := by
      rw [bt_get hb (n := at_ + i) (by omega), List.getD_eq_getElem?_getD, List.getElem?_eq_getElem hlt]
      rfl
    have hn59 : n < 2 ^ 59 := by
      have : (2 : Int) ^ i ≤ 2 ^ 59 := by
        have : (2 : Nat) ^ i ≤ 2 ^ 59 := Nat.pow_le_pow_right (by decide) (by omega)
        exact_mod_cast this
      omega
    have ih := scan_fix_loop d l at_ (i + 1) w (2 * n + (l[at_ + i] - 48)) b hb hm hl ha hw (by omega) (by rcases hx with h | h <;> rw [h] <;> omega) (by rw [Int.pow_succ]; rcases hx with h | h <;> rw [h] <;> omega)
    rw [hd, vb]
    refine Ev.step (fun k => ?_) ih
    simp only [impl_scan_fix.l0]
    rw [if_pos (by omega), w64 (x := (at_ : Int) + (i : Int)) (by omega) (by omega), if_pos (by omega), if_pos (by rw [str_size]; omega), hg, w64 (x := (i : Int) + 1) (by omega) (by omega)]
    rw [Int.emod_eq_of_lt (a := l[at_ + i] - 48) (by rcases hx with h | h <;> rw [h] <;> decide) (by rcases hx with h | h <;> rw [h] <;> decide)]
    rw [or_bit n _ h0 (by omega) (by rcases hx with h | h <;> rw [h] <;> decide)]
    rfl
theorem scan_fix_yes {l : List Int} {at_ w : Nat} (hb : Bys l) (hr : rowOk l = true) (ha : at_ + w ≤ l.length) (hw : w ≤ 60) :
    Ev (fun k => impl_scan_fix.f k (strOfNums l) (at_ : Int) false (w : Int)) (vb 0 ((l.drop at_).take w), strOfNums l, ((at_ + w : Nat) : Int), false) := by
  have hl := rowOk_len hr
  have h := scan_fix_loop w l at_ 0 w 0 false hb (rowOk_mem hr) hl ha hw (by omega) (by decide) (by decide)
  rw [Nat.add_zero] at h
  unfold impl_scan_fix.f
  simp only [Bool.false_eq_true, if_false]
  rw [decide_eq_false (by rw [str_size, w64 (by omega) (by omega)]; omega)]
  refine Ev.step (fun k => ?_) h
  simp only [impl_scan_fix.j0, Bool.false_eq_true, if_false]
  rfl
theorem scan_fix_short {l : List Int} {at_ : Nat} {w : Int} (hl : l.length ≤ 1048576) (hle : at_ ≤ l.length) (ha : ((l.length : Int) - (at_ : Int)) < w) :
    Ev (fun k => impl_scan_fix.f k (strOfNums l) (at_ : Int) false w) (0, strOfNums l, (at_ : Int), true) := by
  unfold impl_scan_fix.f
  simp only [Bool.false_eq_true, if_false]
  rw [decide_eq_true (by rw [str_size, w64 (by omega) (by omega)]; exact ha)]
  refine Ev.step (f := fun _ => some (0, strOfNums l, (at_ : Int), true)) (fun k => ?_) (Ev.now _)
  simp only [impl_scan_fix.j0, if_true]
theorem scan_fix_bad (s : ByteArray) (at_ w : Int) : Ev (fun k => impl_scan_fix.f k s at_ true w) (0, s, at_, true) := by
  unfold impl_scan_fix.f
  simp only [if_true]
  refine Ev.step (f := fun _ => some (0, s, at_, true)) (fun k => ?_) (Ev.now _)
  simp only [impl_scan_fix.j0, if_true]
theorem ue_count {l : List Int} {p : Nat} (hb : Bys l) (hl : l.length ≤ 1048576) (hp : p ≤ l.length) {R : Int × ByteArray × Int × Bool} (h : Ev (fun k => impl_scan_ue.j1 k (lz (l.drop p) : Int) (strOfNums l) (p : Int) false) R) :
    ∀ (d z : Nat), z + d = lz (l.drop p) → Ev (fun k => impl_scan_ue.l0 k (z : Int) (strOfNums l) (p : Int) false) R
  | 0, z, hz => by
    have hzz : z = lz (l.drop p) := by omega
    subst hzz
    refine Ev.step (fun k => ?_) h
    have hle := lz_le (l.drop p)
    rw [List.length_drop] at hle
    simp only [impl_scan_ue.l0, Bool.false_eq_true, if_false]
    rw [w64 (by omega) (by omega)]
    by_cases hlt : p + lz (l.drop p) < l.length
    · rw [if_pos (by rw [str_size]; omega), if_pos (by omega), bt_get hb (n := p + lz (l.drop p)) (by omega), ← getD_drop, if_neg (lz_stop _ (by rw [List.length_drop]; omega))]
    · rw [if_neg (by rw [str_size]; omega)]
  | d + 1, z, hz => by
    have ih := ue_count hb hl hp h d (z + 1) (by omega)
    refine Ev.step (fun k => ?_) ih
    have hle := lz_le (l.drop p)
    rw [List.length_drop] at hle
    simp only [impl_scan_ue.l0, Bool.false_eq_true, if_false]
    rw [w64 (by omega) (by omega), if_pos (by rw [str_size]; omega), if_pos (by omega), bt_get hb (n := p + z) (by omega), ← getD_drop, if_pos (lz_get _ z (by omega)), w64 (by omega) (by omega)]
    rfl
theorem scan_ue_some {l : List Int} {p v q : Nat} (hb : Bys l) (hr : rowOk l = true) (hp : p ≤ l.length) (h : rdUe l p = some (v, q)) :
    Ev (fun k => impl_scan_ue.f k (strOfNums l) (p : Int) false) ((v : Int), strOfNums l, (q : Int), false) := by
  have hl := rowOk_len hr
  unfold rdUe at h
  split at h
  · rename_i hc
    obtain ⟨h1, h2, h3⟩ := hc
    have hv := (Prod.mk.inj (Option.some.inj h))
    have hm : ∀ x, x ∈ l.drop p → x = 48 ∨ x = 49 := fun x hx => rowOk_mem hr x (List.mem_of_mem_drop hx)
    have hbig := vb_big hm (lz (l.drop p)) (by rw [List.length_drop]; omega)
    have hts := take_split (l.drop p) (lz (l.drop p) + 1)
    rw [show lz (l.drop p) + (lz (l.drop p) + 1) = 2 * lz (l.drop p) + 1 by omega] at hts
    have heq : vb 0 ((l.drop p).take (2 * lz (l.drop p) + 1)) = vb 0 (((l.drop p).drop (lz (l.drop p))).take (lz (l.drop p) + 1)) := by rw [hts, vb_zeros]
    have hpos : (0 : Int) < 2 ^ lz (l.drop p) := Int.pow_pos (by decide)
    refine ue_count hb (by omega) hp ?_ (lz (l.drop p)) 0 (by omega)
    refine Ev.step (fun k => ?_) (Ev.bind (scan_fix_yes hb hr (at_ := p) (w := 2 * lz (l.drop p) + 1) h2 (by omega)) (f := fun k b => if b.2.2.2 = true then (some (0, b.2.1, b.2.2.1, true)) else (if (wrap64 (b.1 - 1)) > 1000000 then (some (0, b.2.1, b.2.2.1, true)) else (some (wrap64 (b.1 - 1), b.2.1, b.2.2.1, b.2.2.2)))) ?_)
    · simp only [impl_scan_ue.j1]
      rw [if_neg (by omega), w64 (x := 2 * ((lz (l.drop p) : Nat) : Int)) (by omega) (by omega), w64 (by omega) (by omega)]
      rfl
    · simp only [Bool.false_eq_true, if_false]
      rw [w64 (by omega) (by omega), if_neg (by omega), ← hv.1, ← hv.2, Int.toNat_of_nonneg (by omega)]
      exact Ev.now _
  · cases h
theorem scan_ue_none {l : List Int} {p : Nat} (hb : Bys l) (hr : rowOk l = true) (hp : p ≤ l.length) (h : rdUe l p = none) :
    ∃ q, Ev (fun k => impl_scan_ue.f k (strOfNums l) (p : Int) false) (0, strOfNums l, q, true) := by
  have hl := rowOk_len hr
  have hle := lz_le (l.drop p)
  rw [List.length_drop] at hle
  by_cases h1 : lz (l.drop p) ≤ 20
  · by_cases h2 : p + (2 * lz (l.drop p) + 1) ≤ l.length
    · have h3 : ¬ vb 0 ((l.drop p).take (2 * lz (l.drop p) + 1)) - 1 ≤ 1000000 := by
        intro h3
        unfold rdUe at h
        rw [if_pos ⟨h1, h2, h3⟩] at h
        cases h
      have hb2 := vb_bounds ((l.drop p).take (2 * lz (l.drop p) + 1)) 0 1 (fun x hx => rowOk_mem hr x (List.mem_of_mem_drop (List.mem_of_mem_take hx))) (by decide) (by decide)
      have hp60 : (2 : Int) ^ (1 + ((l.drop p).take (2 * lz (l.drop p) + 1)).length) ≤ 2 ^ 60 := by
        have : (2 : Nat) ^ (1 + ((l.drop p).take (2 * lz (l.drop p) + 1)).length) ≤ 2 ^ 60 := Nat.pow_le_pow_right (by decide) (by rw [List.length_take, List.length_drop]; omega)
        exact_mod_cast this
      refine ⟨((p + (2 * lz (l.drop p) + 1) : Nat) : Int), ue_count hb (by omega) hp ?_ (lz (l.drop p)) 0 (by omega)⟩
      refine Ev.step (fun k => ?_) (Ev.bind (scan_fix_yes hb hr (at_ := p) (w := 2 * lz (l.drop p) + 1) h2 (by omega)) (f := fun k b => if b.2.2.2 = true then (some (0, b.2.1, b.2.2.1, true)) else (if (wrap64 (b.1 - 1)) > 1000000 then (some (0, b.2.1, b.2.2.1, true)) else (some (wrap64 (b.1 - 1), b.2.1, b.2.2.1, b.2.2.2)))) ?_)
      · simp only [impl_scan_ue.j1]
        rw [if_neg (by omega), w64 (x := 2 * ((lz (l.drop p) : Nat) : Int)) (by omega) (by omega), w64 (by omega) (by omega)]
        rfl
      · simp only [Bool.false_eq_true, if_false]
        rw [w64 (by omega) (by omega), if_pos (by omega)]
        exact Ev.now _
    · refine ⟨(p : Int), ue_count hb (by omega) hp ?_ (lz (l.drop p)) 0 (by omega)⟩
      refine Ev.step (fun k => ?_) (Ev.bind (scan_fix_short (l := l) (at_ := p) (w := ((2 * lz (l.drop p) + 1 : Nat) : Int)) (by omega) hp (by omega)) (f := fun k b => if b.2.2.2 = true then (some (0, b.2.1, b.2.2.1, true)) else (if (wrap64 (b.1 - 1)) > 1000000 then (some (0, b.2.1, b.2.2.1, true)) else (some (wrap64 (b.1 - 1), b.2.1, b.2.2.1, b.2.2.2)))) ?_)
      · simp only [impl_scan_ue.j1]
        rw [if_neg (by omega), w64 (x := 2 * ((lz (l.drop p) : Nat) : Int)) (by omega) (by omega), w64 (by omega) (by omega)]
        rfl
      · simp only [if_true]
        exact Ev.now _
  · refine ⟨(p : Int), ue_count hb (by omega) hp ?_ (lz (l.drop p)) 0 (by omega)⟩
    refine Ev.step (fun k => ?_) (Ev.bind (scan_fix_bad (strOfNums l) (p : Int) (wrap64 ((wrap64 (2 * ((lz (l.drop p) : Nat) : Int))) + 1))) (f := fun k b => if b.2.2.2 = true then (some (0, b.2.1, b.2.2.1, true)) else (if (wrap64 (b.1 - 1)) > 1000000 then (some (0, b.2.1, b.2.2.1, true)) else (some (wrap64 (b.1 - 1), b.2.1, b.2.2.1, b.2.2.2)))) ?_)
    · simp only [impl_scan_ue.j1]
      rw [if_pos (by omega)]
    · simp only [if_true]
      exact Ev.now _
theorem scan_ue_bad (s : ByteArray) (p : Int) : Ev (fun k => impl_scan_ue.f k s p true) (0, s, p, true) := by
  have hj : Ev (fun k => impl_scan_ue.j1 k 0 s p true) (0, s, p, true) := by
    refine Ev.step (fun k => ?_) (Ev.bind (scan_fix_bad s p (wrap64 ((wrap64 (2 * 0)) + 1))) (f := fun k b => if b.2.2.2 = true then (some (0, b.2.1, b.2.2.1, true)) else (if (wrap64 (b.1 - 1)) > 1000000 then (some (0, b.2.1, b.2.2.1, true)) else (some (wrap64 (b.1 - 1), b.2.1, b.2.2.1, b.2.2.2)))) ?_)
    · simp only [impl_scan_ue.j1]
      rw [if_neg (by decide)]
    · simp only [if_true]
      exact Ev.now _
  unfold impl_scan_ue.f
  refine Ev.step (fun k => ?_) hj
  simp only [impl_scan_ue.l0, if_true]
/-- OpenSe's number. -/
def opn (u : Int) : Int := if u % 2 = 1 then (u + 1) / 2 else -(u / 2)
theorem within_yes {x lo hi : Int} (h0 : lo ≤ x) (h1 : x ≤ hi) : impl_within.f x lo hi = some true := by
  unfold impl_within.f
  rw [if_pos h0, decide_eq_true h1]
theorem within_no {x lo hi : Int} (h : ¬ (lo ≤ x ∧ x ≤ hi)) : impl_within.f x lo hi = some false := by
  unfold impl_within.f
  by_cases h0 : lo ≤ x
  · rw [if_pos h0, decide_eq_false (fun h1 => h ⟨h0, h1⟩)]
  · rw [if_neg h0]
theorem within_any (x lo hi : Int) : impl_within.f x lo hi = some (decide (lo ≤ x ∧ x ≤ hi)) := by
  by_cases h : lo ≤ x ∧ x ≤ hi
  · rw [within_yes h.1 h.2, decide_eq_true h]
  · rw [within_no h, decide_eq_false h]
theorem impl_open_yes {u : Int} (h0 : 0 ≤ u) (h1 : u ≤ 1000000) : impl_OpenSe.f u = some (opn u, true) := by
  unfold impl_OpenSe.f opn
  rw [within_yes h0 h1, Int.tmod_eq_emod_of_nonneg h0]
  simp only [Option.bind_some, if_true]
  by_cases h : u % 2 = 1
  · rw [if_pos h, if_pos h, w64 (x := u + 1) (by omega) (by omega), Int.tdiv_eq_ediv_of_nonneg (by omega), w64 (by omega) (by omega)]
  · have e : Int.tdiv (-u) 2 = -(Int.tdiv u 2) := Int.neg_tdiv _ _
    rw [if_neg h, if_neg h, w64 (x := -u) (by omega) (by omega), e, Int.tdiv_eq_ediv_of_nonneg h0, w64 (by omega) (by omega)]
theorem impl_open_no {u : Int} (h : ¬ (0 ≤ u ∧ u ≤ 1000000)) : impl_OpenSe.f u = some (0, false) := by
  unfold impl_OpenSe.f
  rw [within_no h]
  rfl
theorem rdUe_bounds {l : List Int} {p v q : Nat} (h : rdUe l p = some (v, q)) : v ≤ 1000000 ∧ p < q ∧ q ≤ l.length := by
  unfold rdUe at h
  split at h
  · rename_i hc
    obtain ⟨h1, h2, h3⟩ := hc
    have hv := Prod.mk.inj (Option.some.inj h)
    omega
  · cases h
theorem scan_se_some {l : List Int} {p v q : Nat} (hb : Bys l) (hr : rowOk l = true) (hp : p ≤ l.length) (h : rdUe l p = some (v, q)) :
    Ev (fun k => impl_scan_se.f k (strOfNums l) (p : Int) false) (opn (v : Int), strOfNums l, (q : Int), false) := by
  have hv := rdUe_bounds h
  unfold impl_scan_se.f
  refine Ev.bind (scan_ue_some hb hr hp h) ?_
  simp only [impl_open_yes (show (0 : Int) ≤ (v : Int) by omega) (by omega), Option.bind_some, Bool.false_eq_true, if_false, Bool.not_true]
  exact Ev.now _
theorem scan_se_none {l : List Int} {p : Nat} (hb : Bys l) (hr : rowOk l = true) (hp : p ≤ l.length) (h : rdUe l p = none) :
    ∃ q, Ev (fun k => impl_scan_se.f k (strOfNums l) (p : Int) false) (0, strOfNums l, q, true) := by
  obtain ⟨q, hq⟩ := scan_ue_none hb hr hp h
  refine ⟨q, ?_⟩
  unfold impl_scan_se.f
  refine Ev.bind hq ?_
  simp only [impl_open_yes (show (0 : Int) ≤ 0 by omega) (by omega), Option.bind_some, if_true]
  exact Ev.now _
theorem scan_se_bad (s : ByteArray) (p : Int) : Ev (fun k => impl_scan_se.f k s p true) (0, s, p, true) := by
  unfold impl_scan_se.f
  refine Ev.bind (scan_ue_bad s p) ?_
  simp only [impl_open_yes (show (0 : Int) ≤ 0 by omega) (by omega), Option.bind_some, if_true]
  exact Ev.now _
theorem spec_row_loop : ∀ (suf pre : List Int), Bys (pre ++ suf) → (pre ++ suf).length ≤ 1048576 → Ev (fun k => spec_l02Row.l0 k (strOfNums (pre ++ suf)) (pre.length : Int)) (isRow suf)
  | [], pre, hb, hl => by
    refine Ev.step (f := fun _ => some true) (fun k => ?_) (Ev.now _)
    simp only [spec_l02Row.l0, List.append_nil]
    rw [if_neg (ge_end pre)]
  | x :: suf, pre, hb, hl => by
    have hl' : pre.length + (suf.length + 1) ≤ 1048576 := by simpa using hl
    have ih := spec_row_loop suf (pre ++ [x]) (by rw [← snoc_cons]; exact hb) (by rw [← snoc_cons]; exact hl)
    rw [← snoc_cons] at ih
    have hlt := lt_mid pre suf x
    have hn := next_len pre x (by omega)
    have e : isRow (x :: suf) = ((x == 48 || x == 49) && isRow suf) := rfl
    by_cases h0 : x = 48
    · rw [e, beq_iff_eq.2 h0, Bool.true_or, Bool.true_and]
      refine Ev.step (fun k => ?_) ih
      simp only [spec_l02Row.l0]
      rw [if_pos hlt, if_pos (by omega), bt_mid hb, if_pos h0, hn]
    · by_cases h1 : x = 49
      · rw [e, beq_iff_eq.2 h1, Bool.or_true, Bool.true_and]
        refine Ev.step (fun k => ?_) ih
        simp only [spec_l02Row.l0]
        rw [if_pos hlt, if_pos (by omega), bt_mid hb, if_neg h0, if_pos h1, hn]
      · rw [e, beq_eq_false_iff_ne.2 h0, beq_eq_false_iff_ne.2 h1, Bool.or_false, Bool.false_and]
        refine Ev.step (f := fun _ => some false) (fun k => ?_) (Ev.now _)
        simp only [spec_l02Row.l0]
        rw [if_pos hlt, if_pos (by omega), bt_mid hb, if_neg h0, if_neg h1]
theorem spec_rowok_ev {l : List Int} (hb : Bys l) (hl : l.length ≤ 1048576) : Ev (fun k => spec_RowOk.f k (strOfNums l)) (rowOk l) := by
  unfold spec_RowOk.f rowOk spec_l02Row.f
  by_cases h : l.length ≤ 400000
  · simp only [if_pos (show ((strOfNums l).size : Int) ≤ 400000 by rw [str_size]; omega), decide_eq_true h, Bool.true_and]
    exact Ev.bind (spec_row_loop l [] hb hl) (Ev.now _)
  · simp only [if_neg (show ¬ ((strOfNums l).size : Int) ≤ 400000 by rw [str_size]; omega), decide_eq_false h, Bool.false_and]
    exact Ev.now _
theorem read_loop : ∀ (d : Nat) (l : List Int) (at_ i w : Nat) (n : Int), Bys l → (∀ x, x ∈ l → x = 48 ∨ x = 49) → l.length ≤ 400000 → at_ + w ≤ l.length → w ≤ 60 → i + d = w → 0 ≤ n → n < 2 ^ i →
    Ev (fun k => spec_l02Read.l0 k (strOfNums l) (at_ : Int) (w : Int) n ((at_ + i : Nat) : Int)) (vb n ((l.drop (at_ + i)).take d), ((at_ + w : Nat) : Int), true)
  | 0, l, at_, i, w, n, hb, hm, hl, ha, hw, hi, h0, h1 => by
    refine Ev.step (f := fun _ => some (n, ((at_ + w : Nat) : Int), true)) (fun k => ?_) (by simp only [List.take_zero, vb]; exact Ev.now _)
    simp only [spec_l02Read.l0]
    rw [w64 (x := (at_ : Int) + (w : Int)) (by omega) (by omega), if_neg (by omega)]
    rfl
  | d + 1, l, at_, i, w, n, hb, hm, hl, ha, hw, hi, h0, h1 => by
    have hlt : at_ + i < l.length := by omega
    have hx := hm _ (List.getElem_mem hlt)
    have hd : (l.drop (at_ + i)).take (d + 1) = l[at_ + i] :: (l.drop (at_ + (i + 1))).take d := by
      rw [List.drop_eq_getElem_cons hlt, List.take_succ_cons]
      rfl
    have hg : bt (strOfNums l) ((at_ + i : Nat) : Int) = l[at_ + i] := by
      rw [bt_get hb rfl, List.getD_eq_getElem?_getD, List.getElem?_eq_getElem hlt]
      rfl
    have hn59 : n < 2 ^ 59 := by
      have : (2 : Int) ^ i ≤ 2 ^ 59 := by
        have : (2 : Nat) ^ i ≤ 2 ^ 59 := Nat.pow_le_pow_right (by decide) (by omega)
        exact_mod_cast this
      omega
    have ih := read_loop d l at_ (i + 1) w (2 * n + (l[at_ + i] - 48)) hb hm hl ha hw (by omega) (by rcases hx with h | h <;> rw [h] <;> omega) (by rw [Int.pow_succ]; rcases hx with h | h <;> rw [h] <;> omega)
    rw [hd, vb]
    refine Ev.step (fun k => ?_) ih
    simp only [spec_l02Read.l0]
    have hxb : 0 ≤ l[at_ + i] ∧ l[at_ + i] ≤ 49 := by rcases hx with h | h <;> rw [h] <;> decide
    rw [w64 (x := (at_ : Int) + (w : Int)) (by omega) (by omega), if_pos (by omega), if_pos (by omega), if_pos (by rw [str_size]; omega), hg, w64 (x := ((at_ + i : Nat) : Int) + 1) (by omega) (by omega)]
    rw [w64 (x := 2 * n) (by omega) (by omega), w64 (x := l[at_ + i]) (by omega) (by omega), w64 (x := 2 * n + l[at_ + i]) (by omega) (by omega), w64 (by omega) (by omega), show 2 * n + l[at_ + i] - 48 = 2 * n + (l[at_ + i] - 48) by omega]
    rfl
theorem read_yes {l : List Int} {at_ w : Nat} (hb : Bys l) (hr : rowOk l = true) (ha : at_ + w ≤ l.length) (hw : w ≤ 60) :
    Ev (fun k => spec_l02Read.f k (strOfNums l) (at_ : Int) (w : Int)) (vb 0 ((l.drop at_).take w), ((at_ + w : Nat) : Int), true) := by
  have hl := rowOk_len hr
  have h := read_loop w l at_ 0 w 0 hb (rowOk_mem hr) hl ha hw (by omega) (by decide) (by decide)
  rw [Nat.add_zero] at h
  refine Ev.congr (fun k => ?_) h
  unfold spec_l02Read.f
  rw [str_size, w64 (by omega) (by omega), if_neg (by omega)]
theorem read_short {l : List Int} {at_ : Nat} {w : Int} (hl : l.length ≤ 1048576) (hle : at_ ≤ l.length) (ha : ((l.length : Int) - (at_ : Int)) < w) :
    Ev (fun k => spec_l02Read.f k (strOfNums l) (at_ : Int) w) (0, 0, false) := by
  refine ev_now (fun k => ?_)
  unfold spec_l02Read.f
  rw [str_size, w64 (by omega) (by omega), if_pos (by omega)]
theorem shl_small_val : ∀ m : Fin 31, shl .i64 1 ((m : Nat) : Int) = 2 ^ (m : Nat) ∧ (2 : Int) ^ (m : Nat) ≤ 1073741824 ∧ (1 : Int) ≤ 2 ^ (m : Nat) ∧ IntKind.u64.wrap ((m : Nat) : Int) = ((m : Nat) : Int) := by decide +kernel
theorem shl_val (w : Nat) (h : w ≤ 30) : shl .i64 1 (w : Int) = 2 ^ w := (shl_small_val ⟨w, by omega⟩).1
theorem pow_le (w : Nat) (h : w ≤ 30) : (2 : Int) ^ w ≤ 1073741824 := (shl_small_val ⟨w, by omega⟩).2.1
theorem pow_pos (w : Nat) (h : w ≤ 30) : (1 : Int) ≤ 2 ^ w := (shl_small_val ⟨w, by omega⟩).2.2.1
theorem u64_val (w : Nat) (h : w ≤ 30) : IntKind.u64.wrap (w : Int) = (w : Int) := (shl_small_val ⟨w, by omega⟩).2.2.2
/-- What spec.l03ReadUe does when it has counted z noughts. -/
def fin (k : Nat) (s : ByteArray) (p z : Int) : Option (Int × Int × Bool) := (spec_l02Read.f k s (wrap64 (p + z)) (wrap64 (z + 1))).bind fun b => (if b.2.2 = true then (if 0 ≤ (IntKind.u64.wrap (z)) then (if b.1 < (shl .i64 1 (IntKind.u64.wrap (z))) then (some (0, 0, false)) else (if (wrap64 (b.1 - 1)) > 1000000 then (some (0, 0, false)) else (some (wrap64 (b.1 - 1), b.2.1, true)))) else (none)) else (some (0, 0, false)))
theorem ue_count_spec {l : List Int} {p : Nat} (hb : Bys l) (hl : l.length ≤ 1048576) (hp : p ≤ l.length) {R : Int × Int × Bool} {Z : Nat} (hZ : Z = min (lz (l.drop p)) 21) (h : Ev (fun k => fin k (strOfNums l) (p : Int) (Z : Int)) R) :
    ∀ (d z : Nat), z + d = Z → Ev (fun k => spec_l03ReadUe.l0 k (strOfNums l) (p : Int) (z : Int)) R
  | 0, z, hz => by
    have hzz : z = Z := by omega
    subst hzz
    refine Ev.step (fun k => ?_) h
    have hle := lz_le (l.drop p)
    rw [List.length_drop] at hle
    simp only [spec_l03ReadUe.l0]
    unfold fin
    rw [w64 (x := (p : Int) + (z : Int)) (by omega) (by omega)]
    by_cases hlt : p + z < l.length
    · rw [if_pos (by rw [str_size]; omega), if_pos (by omega), bt_get hb (n := p + z) (by omega), ← getD_drop]
      by_cases h48 : (l.drop p).getD z 0 = 48
      · have : ¬ z < 21 := by
          intro h21
          have : z = lz (l.drop p) := by omega
          rw [this] at h48
          exact lz_stop _ (by rw [List.length_drop]; omega) h48
        rw [if_pos h48, if_neg (by omega)]
      · rw [if_neg h48]
    · rw [if_neg (by rw [str_size]; omega)]
  | d + 1, z, hz => by
    have ih := ue_count_spec hb hl hp hZ h d (z + 1) (by omega)
    refine Ev.step (fun k => ?_) ih
    have hle := lz_le (l.drop p)
    rw [List.length_drop] at hle
    simp only [spec_l03ReadUe.l0]
    rw [w64 (x := (p : Int) + (z : Int)) (by omega) (by omega), if_pos (by rw [str_size]; omega), if_pos (by omega), bt_get hb (n := p + z) (by omega), ← getD_drop, if_pos (lz_get _ z (by omega)), if_pos (by omega), w64 (by omega) (by omega)]
    rfl
/-- What a reading of the reference tells. -/
def told (o : Option (Nat × Nat)) : Int × Int × Bool := match o with | some (v, q) => ((v : Int), (q : Int), true) | none => (0, 0, false)
theorem spec_readue_ev {l : List Int} {p : Nat} (hb : Bys l) (hr : rowOk l = true) (hp : p ≤ l.length) : Ev (fun k => spec_l03ReadUe.f k (strOfNums l) (p : Int)) (told (rdUe l p)) := by
  have hl := rowOk_len hr
  have hle := lz_le (l.drop p)
  rw [List.length_drop] at hle
  have hm : ∀ x, x ∈ l.drop p → x = 48 ∨ x = 49 := fun x hx => rowOk_mem hr x (List.mem_of_mem_drop hx)
  refine ue_count_spec hb (by omega) hp rfl ?_ (min (lz (l.drop p)) 21) 0 (by omega)
  unfold fin
  rw [u64_val _ (by omega), shl_val _ (by omega), w64 (by omega) (by omega), w64 (by omega) (by omega)]
  by_cases h1 : lz (l.drop p) ≤ 20
  · rw [Nat.min_eq_left (by omega)]
    by_cases h2 : p + (2 * lz (l.drop p) + 1) ≤ l.length
    · have hbig := vb_big hm (lz (l.drop p)) (by rw [List.length_drop]; omega)
      have hts := take_split (l.drop p) (lz (l.drop p) + 1)
      rw [show lz (l.drop p) + (lz (l.drop p) + 1) = 2 * lz (l.drop p) + 1 by omega] at hts
      have heq : vb 0 ((l.drop p).take (2 * lz (l.drop p) + 1)) = vb 0 (((l.drop p).drop (lz (l.drop p))).take (lz (l.drop p) + 1)) := by rw [hts, vb_zeros]
      have hpos : (0 : Int) < 2 ^ lz (l.drop p) := Int.pow_pos (by decide)
      have hup : (2 : Int) ^ (lz (l.drop p) + 1) ≤ 2 ^ 60 := by
        have : (2 : Nat) ^ (lz (l.drop p) + 1) ≤ 2 ^ 60 := Nat.pow_le_pow_right (by decide) (by omega)
        exact_mod_cast this
      have hrd := read_yes hb hr (at_ := p + lz (l.drop p)) (w := lz (l.drop p) + 1) (by omega) (by omega)
      rw [List.drop_drop] at hbig heq
      refine Ev.bind (g := fun k => spec_l02Read.f k (strOfNums l) ((p : Int) + ((lz (l.drop p) : Nat) : Int)) (((lz (l.drop p) : Nat) : Int) + 1)) hrd ?_
      simp only [if_true]
      rw [if_pos (by omega), if_neg (by omega), w64 (by omega) (by omega)]
      by_cases h3 : vb 0 ((l.drop p).take (2 * lz (l.drop p) + 1)) - 1 ≤ 1000000
      · have e : told (rdUe l p) = (vb 0 ((l.drop p).take (2 * lz (l.drop p) + 1)) - 1, ((p + (2 * lz (l.drop p) + 1) : Nat) : Int), true) := by
          unfold rdUe told
          rw [if_pos ⟨h1, h2, h3⟩]
          simp only
          rw [Int.toNat_of_nonneg (by omega)]
        rw [e, if_neg (by omega), heq, show p + lz (l.drop p) + (lz (l.drop p) + 1) = p + (2 * lz (l.drop p) + 1) by omega]
        exact Ev.now _
      · have e : told (rdUe l p) = (0, 0, false) := by
          unfold rdUe told
          rw [if_neg (fun h => h3 h.2.2)]
        rw [e, if_pos (by omega)]
        exact Ev.now _
    · unfold rdUe told
      rw [if_neg (fun h => h2 h.2.1)]
      refine Ev.bind (g := fun k => spec_l02Read.f k (strOfNums l) ((p : Int) + ((lz (l.drop p) : Nat) : Int)) (((lz (l.drop p) : Nat) : Int) + 1)) (read_short (l := l) (at_ := p + lz (l.drop p)) (w := ((lz (l.drop p) + 1 : Nat) : Int)) (by omega) (by omega) (by omega)) ?_
      exact Ev.now _
  · have e : rdUe l p = none := by
      unfold rdUe
      rw [if_neg (fun h => h1 h.1)]
    rw [e, Nat.min_eq_right (by omega)]
    unfold told
    by_cases h2 : p + 43 ≤ l.length
    · have hrd := read_yes hb hr (at_ := p + 21) (w := 22) (by omega) (by decide)
      refine Ev.bind (g := fun k => spec_l02Read.f k (strOfNums l) ((p : Int) + ((21 : Nat) : Int)) (((21 : Nat) : Int) + 1)) hrd ?_
      simp only [if_true]
      rw [if_pos (by decide)]
      have hb2 := vb_bounds ((l.drop (p + 21)).take 22) 0 0 (fun x hx => rowOk_mem hr x (List.mem_of_mem_drop (List.mem_of_mem_take hx))) (by decide) (by decide)
      have hl22 : ((l.drop (p + 21)).take 22).length = 22 := by
        rw [List.length_take, List.length_drop]
        omega
      rw [hl22] at hb2
      by_cases h3 : vb 0 ((l.drop (p + 21)).take 22) < 2 ^ 21
      · rw [if_pos h3]
        exact Ev.now _
      · rw [if_neg h3, w64 (by omega) (by omega), if_pos (by omega)]
        exact Ev.now _
    · refine Ev.bind (g := fun k => spec_l02Read.f k (strOfNums l) ((p : Int) + ((21 : Nat) : Int)) (((21 : Nat) : Int) + 1)) (read_short (l := l) (at_ := p + 21) (w := 22) (by omega) (by omega) (by omega)) ?_
      exact Ev.now _
theorem in_yes {x lo hi : Int} (h0 : lo ≤ x) (h1 : x ≤ hi) : spec_l01In.f x lo hi = some true := by
  unfold spec_l01In.f
  rw [if_pos h0, decide_eq_true h1]
theorem in_no {x lo hi : Int} (h : ¬ (lo ≤ x ∧ x ≤ hi)) : spec_l01In.f x lo hi = some false := by
  unfold spec_l01In.f
  by_cases h0 : lo ≤ x
  · rw [if_pos h0, decide_eq_false (fun h1 => h ⟨h0, h1⟩)]
  · rw [if_neg h0]
theorem in_any (x lo hi : Int) : spec_l01In.f x lo hi = some (decide (lo ≤ x ∧ x ≤ hi)) := by
  by_cases h : lo ≤ x ∧ x ≤ hi
  · rw [in_yes h.1 h.2, decide_eq_true h]
  · rw [in_no h, decide_eq_false h]
theorem spec_open_yes {u : Int} (h0 : 0 ≤ u) (h1 : u ≤ 1000000) : spec_OpenSe.f u = some (opn u, true) := by
  unfold spec_OpenSe.f opn
  rw [in_yes h0 h1, Int.tmod_eq_emod_of_nonneg h0]
  simp only [Option.bind_some, if_true]
  by_cases h : u % 2 = 1
  · rw [if_pos h, if_pos h, w64 (x := u + 1) (by omega) (by omega), Int.tdiv_eq_ediv_of_nonneg (by omega), w64 (by omega) (by omega)]
  · rw [if_neg h, if_neg h, Int.tdiv_eq_ediv_of_nonneg h0, w64 (x := u / 2) (by omega) (by omega), w64 (by omega) (by omega)]
/-- What a reading of a number with a sign tells. -/
def toldSe (o : Option (Nat × Nat)) : Int × Int × Bool := match o with | some (v, q) => (opn (v : Int), (q : Int), true) | none => (0, 0, false)
theorem spec_readse_ev {l : List Int} {p : Nat} (hb : Bys l) (hr : rowOk l = true) (hp : p ≤ l.length) : Ev (fun k => spec_l03ReadSe.f k (strOfNums l) (p : Int)) (toldSe (rdUe l p)) := by
  unfold spec_l03ReadSe.f
  refine Ev.bind (spec_readue_ev hb hr hp) ?_
  cases h : rdUe l p with
  | none =>
    simp only [told, toldSe, Bool.false_eq_true, if_false]
    exact Ev.now _
  | some r =>
    obtain ⟨v, q⟩ := r
    have hv := rdUe_bounds h
    simp only [told, toldSe, if_true, spec_open_yes (show (0 : Int) ≤ (v : Int) by omega) (by omega), Option.bind_some]
    exact Ev.now _
theorem opened_ev {l : List Int} (hb : Bys l) (hl : l.length ≤ 1048576) (a : Int) : Ev (fun k => impl_opened.f k (strOfNums l) a) (strOfNums l, a, !(rowOk l && decide (0 ≤ a ∧ a ≤ (l.length : Int)))) := by
  unfold impl_opened.f
  refine Ev.bind (impl_rowok_ev hb hl) ?_
  cases h : rowOk l
  · exact Ev.now _
  · simp only [if_true, within_any, Option.bind_some, str_size, Bool.true_and]
    exact Ev.now _
theorem set_mid (pre zs : List Int) (y x : Int) : (pre ++ y :: zs).set pre.length x = (pre ++ [x]) ++ zs := by
  rw [List.set_append_right _ _ (Nat.le_refl _)]
  simp
theorem toInts_loop : ∀ (suf pre : List Int), (pre ++ suf).length ≤ 1048576 → Ev (fun k => laws_toIntS.l0 k (pre ++ suf) (pre ++ List.replicate suf.length 0) (pre.length : Int)) (pre ++ suf)
  | [], pre, hl => by
    refine Ev.step (f := fun _ => some pre) (fun k => ?_) (by simp only [List.append_nil]; exact Ev.now _)
    simp only [laws_toIntS.l0, List.length_nil, List.replicate_zero, List.append_nil]
    rw [if_neg (by omega)]
  | x :: suf, pre, hl => by
    have hl' : pre.length + (suf.length + 1) ≤ 1048576 := by simpa using hl
    have ih := toInts_loop suf (pre ++ [x]) (by rw [← snoc_cons]; exact hl)
    rw [← snoc_cons] at ih
    refine Ev.step (fun k => ?_) ih
    simp only [laws_toIntS.l0]
    rw [if_pos (by simp; omega), if_pos (by omega), if_pos (by simp; omega), rd_mid, Int.toNat_natCast, next_len pre x (by omega)]
    rw [List.length_cons, List.replicate_succ, set_mid]
theorem toInts_ev {l : List Int} (hl : l.length ≤ 1048576) : Ev (fun k => laws_toIntS.f k l) l := by
  have h := toInts_loop l [] hl
  simp only [List.nil_append] at h
  refine Ev.congr (fun k => ?_) h
  unfold laws_toIntS.f
  rw [if_pos (by omega), if_pos (by omega), Int.toNat_natCast]
  rfl
theorem eqInts_loop : ∀ (suf pre : List Int), (pre ++ suf).length ≤ 1048576 → Ev (fun k => laws_eqIntS.l0 k (pre ++ suf) (pre ++ suf) (pre.length : Int)) true
  | [], pre, hl => by
    refine Ev.step (f := fun _ => some true) (fun k => ?_) (Ev.now _)
    simp only [laws_eqIntS.l0, List.append_nil]
    rw [if_neg (by omega)]
  | x :: suf, pre, hl => by
    have hl' : pre.length + (suf.length + 1) ≤ 1048576 := by simpa using hl
    have ih := eqInts_loop suf (pre ++ [x]) (by rw [← snoc_cons]; exact hl)
    rw [← snoc_cons] at ih
    refine Ev.step (fun k => ?_) ih
    simp only [laws_eqIntS.l0]
    rw [if_pos (by simp; omega), if_pos (by omega), if_pos (by simp; omega), next_len pre x (by omega)]
    exact if_pos trivial
theorem eqInts_ev {l : List Int} (hl : l.length ≤ 1048576) : Ev (fun k => laws_eqIntS.f k l l) true := by
  have h := eqInts_loop l [] hl
  simp only [List.nil_append] at h
  refine Ev.congr (fun k => ?_) h
  unfold laws_eqIntS.f
  rw [if_pos rfl]
  rfl
theorem toSeq_ev {a b : Int} {c r : List Int} (hc : c.length ≤ 1048576) (hr : r.length ≤ 1048576) : Ev (fun k => laws_toSeq.f k a b c r) (a, b, c, r) := by
  unfold laws_toSeq.f
  exact Ev.bind (toInts_ev hc) (Ev.bind (toInts_ev hr) (Ev.now _))
theorem eqSeq_ev {a b : Int} {c r : List Int} (hc : c.length ≤ 1048576) (hr : r.length ≤ 1048576) : Ev (fun k => laws_eqSeq.f k a b c r a b c r) true := by
  unfold laws_eqSeq.f
  simp only [if_true]
  refine Ev.bind (eqInts_ev hc) ?_
  simp only [if_true]
  refine Ev.bind (eqInts_ev hr) ?_
  simp only [if_true]
  exact Ev.now _
theorem szSeq_val (a b : Int) {c r : List Int} (hc : c.length ≤ maxLen) (hr : r.length ≤ maxLen) :
    (c.length + r.length ≤ 1048576 ∧ laws_szSeq.f a b c r 1048576 = some (1048576 - (c.length : Int) - (r.length : Int))) ∨ laws_szSeq.f a b c r 1048576 = some (-1) := by
  simp only [maxLen] at hc hr
  unfold laws_szSeq.f laws_szIntS.f
  rw [w64 (x := 1048576 - (c.length : Int)) (by omega) (by omega)]
  by_cases h1 : (1048576 : Int) - (c.length : Int) < 0
  · right
    rw [if_pos h1]
    rfl
  · rw [if_neg h1]
    simp only [Option.bind_some]
    rw [if_neg h1, w64 (x := 1048576 - (c.length : Int) - (r.length : Int)) (by omega) (by omega)]
    by_cases h2 : (1048576 : Int) - (c.length : Int) - (r.length : Int) < 0
    · right
      rw [if_pos h2]
      rfl
    · left
      rw [if_neg h2]
      simp only [Option.bind_some]
      rw [if_neg h2]
      exact ⟨by omega, rfl⟩
def inSide (x : Int) : Bool := decide (1 ≤ x ∧ x ≤ 8)
def sideOk (l : List Int) : Bool := decide (1 ≤ l.length ∧ l.length ≤ 4) && l.all inSide
def sumI : List Int → Int
  | [] => 0
  | x :: l => x + sumI l
/-- SquaresOf. -/
def sqv (c r : List Int) : Int := if sideOk c = true ∧ sideOk r = true then sumI c * sumI r else 0
def lvSq (n : Int) : Int := if n = 1 then 16 else if n = 2 then 64 else if n = 3 then 256 else 0
/-- SeqOk. -/
def seqOk (a b : Int) (c r : List Int) : Bool := decide (1 ≤ sqv c r ∧ sqv c r ≤ lvSq a) && decide (3 ≤ b ∧ b ≤ 8)
theorem sumI_bounds : ∀ l : List Int, l.all inSide = true → (l.length : Int) ≤ sumI l ∧ sumI l ≤ 8 * (l.length : Int)
  | [], _ => by simp [sumI]
  | x :: l, h => by
    rw [List.all_cons, Bool.and_eq_true] at h
    have hx : 1 ≤ x ∧ x ≤ 8 := of_decide_eq_true h.1
    have := sumI_bounds l h.2
    simp only [sumI, List.length_cons]
    omega
theorem sideOk_facts {l : List Int} (h : sideOk l = true) : 1 ≤ l.length ∧ l.length ≤ 4 ∧ l.all inSide = true ∧ 1 ≤ sumI l ∧ sumI l ≤ 32 := by
  unfold sideOk at h
  rw [Bool.and_eq_true] at h
  have h1 : 1 ≤ l.length ∧ l.length ≤ 4 := of_decide_eq_true h.1
  have := sumI_bounds l h.2
  exact ⟨h1.1, h1.2, h.2, by omega, by omega⟩
theorem sqv_bounds (c r : List Int) : 0 ≤ sqv c r ∧ sqv c r ≤ 1024 := by
  unfold sqv
  split
  · rename_i h
    obtain ⟨_, _, _, h1, h2⟩ := sideOk_facts h.1
    obtain ⟨_, _, _, h3, h4⟩ := sideOk_facts h.2
    have e1 : 0 ≤ sumI c * sumI r := Int.mul_nonneg (by omega) (by omega)
    have e2 : sumI c * sumI r ≤ 32 * 32 := Int.mul_le_mul h2 h4 (by omega) (by decide)
    exact ⟨e1, by omega⟩
  · exact ⟨by decide, by decide⟩
theorem seqOk_facts {a b : Int} {c r : List Int} (h : seqOk a b c r = true) : sideOk c = true ∧ sideOk r = true ∧ 1 ≤ a ∧ a ≤ 3 ∧ 3 ≤ b ∧ b ≤ 8 ∧ sqv c r = sumI c * sumI r := by
  unfold seqOk at h
  rw [Bool.and_eq_true] at h
  have h1 : 1 ≤ sqv c r ∧ sqv c r ≤ lvSq a := of_decide_eq_true h.1
  have h2 : 3 ≤ b ∧ b ≤ 8 := of_decide_eq_true h.2
  have h3 : 1 ≤ a ∧ a ≤ 3 := by
    have := h1.2
    unfold lvSq at this
    split at this
    · omega
    · split at this
      · omega
      · split at this <;> omega
  have h4 : sideOk c = true ∧ sideOk r = true := by
    by_cases h5 : sideOk c = true ∧ sideOk r = true
    · exact h5
    · have e : sqv c r = 0 := by unfold sqv; rw [if_neg h5]
      omega
  exact ⟨h4.1, h4.2, h3.1, h3.2, h2.1, h2.2, by unfold sqv; rw [if_pos h4]⟩
/-- TilesOf. -/
def tilesV (a b : Int) (c r : List Int) : Int := if seqOk a b c r = true then (c.length : Int) * (r.length : Int) else 0
theorem tiles_bounds {a b : Int} {c r : List Int} (h : seqOk a b c r = true) : 1 ≤ (c.length : Int) * (r.length : Int) ∧ (c.length : Int) * (r.length : Int) ≤ 16 := by
  obtain ⟨h1, h2, _⟩ := seqOk_facts h
  obtain ⟨g1, g2, _⟩ := sideOk_facts h1
  obtain ⟨g3, g4, _⟩ := sideOk_facts h2
  have e1 : (1 : Int) * 1 ≤ (c.length : Int) * (r.length : Int) := Int.mul_le_mul (by omega) (by omega) (by decide) (by omega)
  have e2 : (c.length : Int) * (r.length : Int) ≤ 4 * 4 := Int.mul_le_mul (by omega) (by omega) (by omega) (by decide)
  exact ⟨by omega, by omega⟩
/-- ParOk. -/
def parOkV (q : Int) (a b c : Bool) : Bool := decide (0 ≤ q ∧ q ≤ 40) && !(a && b)
/-- HeadOk. -/
def headOk (a b : Int) (c r : List Int) (q : Int) (x y z : Bool) (t f h : Int) : Bool :=
  seqOk a b c r && (parOkV q x y z && (decide (0 ≤ t ∧ t < tilesV a b c r) && (decide (0 ≤ f ∧ f < 2 ^ b.toNat) && decide (0 ≤ h ∧ h ≤ 40))))
theorem spec_sum_loop : ∀ (suf pre : List Int) (acc : Int), (pre ++ suf).length ≤ 4 → 0 ≤ acc → acc ≤ 8 * (pre.length : Int) →
    Ev (fun k => spec_l05Sum.l0 k (pre ++ suf) acc (pre.length : Int)) (if suf.all inSide = true then acc + sumI suf else 0)
  | [], pre, acc, hl, h0, h1 => by
    refine Ev.step (f := fun _ => some acc) (fun k => ?_) (by simp only [List.all_nil, if_true, sumI, Int.add_zero]; exact Ev.now _)
    simp only [spec_l05Sum.l0, List.append_nil]
    rw [if_neg (by omega)]
  | x :: suf, pre, acc, hl, h0, h1 => by
    have hl' : pre.length + (suf.length + 1) ≤ 4 := by simpa using hl
    by_cases hx : 1 ≤ x ∧ x ≤ 8
    · have ih := spec_sum_loop suf (pre ++ [x]) (acc + x) (by rw [← snoc_cons]; exact hl) (by omega) (by simp; omega)
      rw [← snoc_cons] at ih
      have e : (if (x :: suf).all inSide = true then acc + sumI (x :: suf) else 0) = (if suf.all inSide = true then acc + x + sumI suf else 0) := by
        rw [List.all_cons, show inSide x = true from decide_eq_true hx, Bool.true_and, sumI, Int.add_assoc]
      rw [e]
      refine Ev.step (fun k => ?_) ih
      simp only [spec_l05Sum.l0]
      rw [if_pos (by simp; omega), if_pos (by omega), rd_mid, in_yes hx.1 hx.2]
      simp only [Option.bind_some, if_true]
      rw [w64 (x := acc + x) (by omega) (by omega), next_len pre x (by omega)]
    · have e : (if (x :: suf).all inSide = true then acc + sumI (x :: suf) else 0) = 0 := by
        rw [List.all_cons, show inSide x = false from decide_eq_false hx, Bool.false_and]
        rfl
      rw [e]
      refine Ev.step (f := fun _ => some 0) (fun k => ?_) (Ev.now _)
      simp only [spec_l05Sum.l0]
      rw [if_pos (by simp; omega), if_pos (by omega), rd_mid, in_no hx]
      rfl
theorem spec_sum_ev (l : List Int) : Ev (fun k => spec_l05Sum.f k l) (if sideOk l = true then sumI l else 0) := by
  unfold spec_l05Sum.f sideOk
  by_cases h : 1 ≤ l.length ∧ l.length ≤ 4
  · simp only [if_neg (show ¬ (l.length : Int) < 1 by omega), decide_eq_true h, Bool.true_and, decide_eq_false (show ¬ (l.length : Int) > 4 by omega)]
    have := spec_sum_loop l [] 0 h.2 (by decide) (by decide)
    rw [Int.zero_add] at this
    refine Ev.step (fun k => ?_) this
    simp only [spec_l05Sum.j0, Bool.false_eq_true, if_false]
    rfl
  · have no : Ev (fun k => spec_l05Sum.j0 k l true) 0 := Ev.step (f := fun _ => some 0) (fun k => by simp only [spec_l05Sum.j0, if_true]) (Ev.now _)
    rw [decide_eq_false h, Bool.false_and]
    by_cases h1 : (l.length : Int) < 1
    · simp only [if_pos h1, Bool.false_eq_true, if_false]
      exact no
    · simp only [if_neg h1, Bool.false_eq_true, if_false, decide_eq_true (show (l.length : Int) > 4 by omega)]
      exact no
theorem spec_sq_ev (a b : Int) (c r : List Int) : Ev (fun k => spec_SquaresOf.f k a b c r) (sqv c r) := by
  unfold spec_SquaresOf.f
  refine Ev.bind (spec_sum_ev c) (Ev.bind (spec_sum_ev r) ?_)
  have hb := sqv_bounds c r
  have e : (if sideOk c = true then sumI c else 0) * (if sideOk r = true then sumI r else 0) = sqv c r := by
    unfold sqv
    cases sideOk c <;> cases sideOk r <;> simp
  rw [e, w64 (by omega) (by omega)]
  exact Ev.now _
theorem spec_lv (n : Int) : spec_LevelSquares.f n = some (lvSq n) := by
  unfold spec_LevelSquares.f lvSq
  split
  · rfl
  · split
    · rfl
    · split <;> rfl
theorem spec_seqok_ev (a b : Int) (c r : List Int) : Ev (fun k => spec_SeqOk.f k a b c r) (seqOk a b c r) := by
  unfold spec_SeqOk.f seqOk
  refine Ev.bind (spec_sq_ev a b c r) ?_
  simp only [spec_lv, Option.bind_some, in_any]
  by_cases h : 1 ≤ sqv c r ∧ sqv c r ≤ lvSq a
  · simp only [decide_eq_true h, if_true, Bool.true_and]
    exact Ev.now _
  · simp only [decide_eq_false h, Bool.false_eq_true, if_false, Bool.false_and]
    exact Ev.now _
theorem spec_tiles_ev (a b : Int) (c r : List Int) : Ev (fun k => spec_TilesOf.f k a b c r) (tilesV a b c r) := by
  unfold spec_TilesOf.f tilesV
  refine Ev.bind (spec_seqok_ev a b c r) ?_
  by_cases h : seqOk a b c r = true
  · have := tiles_bounds h
    simp only [h, if_true]
    rw [w64 (by omega) (by omega)]
    exact Ev.now _
  · simp only [if_neg h]
    exact Ev.now _
theorem spec_parok (q : Int) (a b c : Bool) : spec_ParOk.f q a b c = some (parOkV q a b c) := by
  unfold spec_ParOk.f parOkV
  rw [in_any]
  simp only [Option.bind_some]
  cases decide (0 ≤ q ∧ q ≤ 40) <;> cases a <;> cases b <;> rfl
theorem spec_headok_ev (a b : Int) (c r : List Int) (q : Int) (x y z : Bool) (t f h : Int) : Ev (fun k => spec_HeadOk.f k a b c r q x y z t f h) (headOk a b c r q x y z t f h) := by
  unfold spec_HeadOk.f headOk
  simp only [spec_parok, Option.bind_some]
  cases hp : parOkV q x y z
  · rw [Bool.false_and, Bool.and_false]
    exact Ev.now _
  · simp only [if_true, Bool.true_and]
    by_cases ht : t ≥ 0
    · simp only [if_pos ht]
      refine Ev.bind (spec_tiles_ev a b c r) ?_
      by_cases hs : seqOk a b c r = true
      · have hbits := seqOk_facts hs
        obtain ⟨m, rfl⟩ := Int.eq_ofNat_of_zero_le (show 0 ≤ b by omega)
        rw [hs, Bool.true_and]
        by_cases h2 : t < tilesV a (m : Int) c r
        · simp only [if_pos h2, decide_eq_true (show 0 ≤ t ∧ t < tilesV a (m : Int) c r from ⟨ht, h2⟩), Bool.true_and, Int.toNat_natCast]
          by_cases h3 : f ≥ 0
          · simp only [if_pos h3, u64_val m (by omega), shl_val m (by omega), if_pos (show (0 : Int) ≤ (m : Int) by omega)]
            by_cases h4 : f < 2 ^ m
            · simp only [if_pos h4, decide_eq_true (show 0 ≤ f ∧ f < 2 ^ m from ⟨h3, h4⟩), Bool.true_and, in_any, Option.bind_some]
              exact Ev.now _
            · simp only [if_neg h4, decide_eq_false (show ¬ (0 ≤ f ∧ f < 2 ^ m) from fun e => h4 e.2), Bool.false_and]
              exact Ev.now _
          · simp only [if_neg h3, decide_eq_false (show ¬ (0 ≤ f ∧ f < 2 ^ m) from fun e => h3 e.1), Bool.false_and]
            exact Ev.now _
        · simp only [if_neg h2, decide_eq_false (show ¬ (0 ≤ t ∧ t < tilesV a (m : Int) c r) from fun e => h2 e.2), Bool.false_and]
          exact Ev.now _
      · have e : tilesV a b c r = 0 := by unfold tilesV; rw [if_neg hs]
        rw [e, Bool.eq_false_iff.2 hs, Bool.false_and, if_neg (by omega)]
        exact Ev.now _
    · simp only [if_neg ht, decide_eq_false (show ¬ (0 ≤ t ∧ t < tilesV a b c r) from fun e => ht e.1), Bool.false_and, Bool.and_false]
      exact Ev.now _
theorem sumOf_loop : ∀ (suf pre : List Int) (acc : Int), (pre ++ suf).length ≤ 4 → suf.all inSide = true → 0 ≤ acc → acc ≤ 8 * (pre.length : Int) →
    Ev (fun k => impl_sumOf.l0 k acc (pre ++ suf) ((pre ++ suf).length : Int) (pre.length : Int)) (acc + sumI suf)
  | [], pre, acc, hl, _, h0, h1 => by
    refine Ev.step (f := fun _ => some acc) (fun k => ?_) (by simp only [sumI, Int.add_zero]; exact Ev.now _)
    simp only [impl_sumOf.l0, List.append_nil]
    rw [if_neg (by omega)]
  | x :: suf, pre, acc, hl, ha, h0, h1 => by
    have hl' : pre.length + (suf.length + 1) ≤ 4 := by simpa using hl
    rw [List.all_cons, Bool.and_eq_true] at ha
    have hx : 1 ≤ x ∧ x ≤ 8 := of_decide_eq_true ha.1
    have ih := sumOf_loop suf (pre ++ [x]) (acc + x) (by rw [← snoc_cons]; exact hl) ha.2 (by omega) (by simp; omega)
    rw [← snoc_cons] at ih
    rw [sumI, ← Int.add_assoc]
    refine Ev.step (fun k => ?_) ih
    simp only [impl_sumOf.l0]
    rw [if_pos (by simp; omega), if_pos (by omega), if_pos (by simp; omega), rd_mid, w64 (x := acc + x) (by omega) (by omega), next_len pre x (by omega)]
theorem sumOf_ev {l : List Int} (h : sideOk l = true) : Ev (fun k => impl_sumOf.f k l) (sumI l) := by
  obtain ⟨_, h1, h2, _⟩ := sideOk_facts h
  have := sumOf_loop l [] 0 h1 h2 (by decide) (by decide)
  rw [Int.zero_add] at this
  exact this
theorem sq_inner {c r : List Int} {a b : Int} {j : Int} {R : Int} : ∀ (suf pre : List Int), (pre ++ suf).length ≤ 4 → (suf.all inSide = true → Ev (fun k => impl_SquaresOf.l0 k [c, r] 2 (wrap64 (j + 1)) a b c r) R) →
    Ev (fun k => impl_SquaresOf.l1 k [c, r] 2 j (pre ++ suf) ((pre ++ suf).length : Int) (pre.length : Int) a b c r) (if suf.all inSide = true then R else 0)
  | [], pre, hl, h => by
    have h' := h rfl
    simp only [List.all_nil, if_true]
    refine Ev.step (fun k => ?_) h'
    simp only [impl_SquaresOf.l1, List.append_nil]
    rw [if_neg (by omega)]
  | x :: suf, pre, hl, h => by
    have hl' : pre.length + (suf.length + 1) ≤ 4 := by simpa using hl
    by_cases hx : 1 ≤ x ∧ x ≤ 8
    · have hxs : inSide x = true := decide_eq_true hx
      have ih := sq_inner suf (pre ++ [x]) (by rw [← snoc_cons]; exact hl) (fun hs => h (by rw [List.all_cons, hxs, hs]; rfl))
      rw [← snoc_cons] at ih
      rw [List.all_cons, hxs, Bool.true_and]
      refine Ev.step (fun k => ?_) ih
      simp only [impl_SquaresOf.l1]
      rw [if_pos (by simp; omega), if_pos (by omega), if_pos (by simp; omega), rd_mid, within_yes hx.1 hx.2]
      simp only [Option.bind_some, if_true]
      rw [next_len pre x (by omega)]
    · rw [List.all_cons, show inSide x = false from decide_eq_false hx, Bool.false_and]
      simp only [Bool.false_eq_true, if_false]
      refine Ev.step (f := fun _ => some 0) (fun k => ?_) (Ev.now _)
      simp only [impl_SquaresOf.l1]
      rw [if_pos (by simp; omega), if_pos (by omega), if_pos (by simp; omega), rd_mid, within_no hx]
      rfl
theorem sq_round {c r t : List Int} {a b : Int} {j : Int} {R : Int} (h0 : 0 ≤ j) (h2 : j < 2) (ht : rd_L1 [c, r] j = t) (h : sideOk t = true → Ev (fun k => impl_SquaresOf.l0 k [c, r] 2 (wrap64 (j + 1)) a b c r) R) :
    Ev (fun k => impl_SquaresOf.l0 k [c, r] 2 j a b c r) (if sideOk t = true then R else 0) := by
  by_cases hlen : 1 ≤ t.length ∧ t.length ≤ 4
  · have e : (if sideOk t = true then R else 0) = (if t.all inSide = true then R else 0) := by
      unfold sideOk
      rw [decide_eq_true hlen, Bool.true_and]
    rw [e]
    have hi := sq_inner (c := c) (r := r) (a := a) (b := b) (j := j) (R := R) t [] hlen.2 (fun hs => h (by unfold sideOk; rw [decide_eq_true hlen, hs]; rfl))
    refine Ev.step (fun k => ?_) hi
    simp only [impl_SquaresOf.l0]
    rw [if_pos h2, if_pos h0, if_pos (by simpa using h2), ht, within_yes (by omega) (by omega)]
    rfl
  · have e : (if sideOk t = true then R else 0) = 0 := by
      unfold sideOk
      rw [decide_eq_false hlen, Bool.false_and]
      rfl
    rw [e]
    refine Ev.step (f := fun _ => some 0) (fun k => ?_) (Ev.now _)
    simp only [impl_SquaresOf.l0]
    rw [if_pos h2, if_pos h0, if_pos (by simpa using h2), ht, within_no (by omega)]
    rfl
theorem impl_sq_ev (a b : Int) (c r : List Int) : Ev (fun k => impl_SquaresOf.f k a b c r) (sqv c r) := by
  have e : sqv c r = if sideOk c = true then (if sideOk r = true then sumI c * sumI r else 0) else 0 := by
    unfold sqv
    cases sideOk c <;> cases sideOk r <;> simp
  have hb := sqv_bounds c r
  unfold impl_SquaresOf.f
  simp only [Option.bind_some]
  rw [e]
  refine sq_round (by decide) (by decide) rfl (fun h1 => ?_)
  rw [show wrap64 (0 + 1) = 1 from w64 (by decide) (by decide)]
  refine sq_round (by decide) (by decide) rfl (fun h2 => ?_)
  rw [show wrap64 (1 + 1) = 2 from w64 (by decide) (by decide)]
  rw [e, if_pos h1, if_pos h2] at hb
  refine Ev.step (f := fun k => (impl_sumOf.f k c).bind fun x => (impl_sumOf.f k r).bind fun y => some (wrap64 (x * y))) (fun k => ?_) (Ev.bind (sumOf_ev h1) (Ev.bind (sumOf_ev h2) ?_))
  · simp only [impl_SquaresOf.l0]
    rw [if_neg (by decide)]
  · rw [w64 (by omega) (by omega)]
    exact Ev.now _
theorem impl_lv (n : Int) : impl_LevelSquares.f n = some (lvSq n) := by
  by_cases h : 1 ≤ n ∧ n ≤ 3
  · obtain rfl | rfl | rfl : n = 1 ∨ n = 2 ∨ n = 3 := by omega
    all_goals decide +kernel
  · unfold impl_LevelSquares.f lvSq
    rw [within_no h, if_neg (by omega), if_neg (by omega), if_neg (by omega)]
    rfl
theorem impl_seqok_ev (a b : Int) (c r : List Int) : Ev (fun k => impl_SeqOk.f k a b c r) (seqOk a b c r) := by
  unfold impl_SeqOk.f seqOk
  refine Ev.bind (impl_sq_ev a b c r) ?_
  simp only [impl_lv, Option.bind_some, within_any]
  by_cases h : 1 ≤ sqv c r ∧ sqv c r ≤ lvSq a
  · simp only [decide_eq_true h, if_true, Bool.true_and]
    exact Ev.now _
  · simp only [decide_eq_false h, Bool.false_eq_true, if_false, Bool.false_and]
    exact Ev.now _
theorem impl_tiles_ev (a b : Int) (c r : List Int) : Ev (fun k => impl_TilesOf.f k a b c r) (tilesV a b c r) := by
  unfold impl_TilesOf.f tilesV
  refine Ev.bind (impl_seqok_ev a b c r) ?_
  by_cases h : seqOk a b c r = true
  · have := tiles_bounds h
    simp only [h, if_true]
    rw [w64 (by omega) (by omega)]
    exact Ev.now _
  · simp only [if_neg h]
    exact Ev.now _
theorem impl_parok (q : Int) (a b c : Bool) : impl_ParOk.f q a b c = some (parOkV q a b c) := by
  unfold impl_ParOk.f parOkV
  rw [within_any]
  simp only [Option.bind_some]
  cases decide (0 ≤ q ∧ q ≤ 40) <;> cases a <;> cases b <;> rfl
theorem impl_headok_ev (a b : Int) (c r : List Int) (q : Int) (x y z : Bool) (t f h : Int) : Ev (fun k => impl_HeadOk.f k a b c r q x y z t f h) (headOk a b c r q x y z t f h) := by
  unfold impl_HeadOk.f headOk
  refine Ev.bind (impl_seqok_ev a b c r) ?_
  by_cases hs : seqOk a b c r = true
  · have hbits := seqOk_facts hs
    have htb := tiles_bounds hs
    obtain ⟨m, rfl⟩ := Int.eq_ofNat_of_zero_le (show 0 ≤ b by omega)
    have hp1 := pow_le m (by omega)
    have hp2 := pow_pos m (by omega)
    have et : tilesV a (m : Int) c r = (c.length : Int) * (r.length : Int) := by unfold tilesV; rw [if_pos hs]
    simp only [hs, if_true, Bool.true_and, impl_parok, Option.bind_some]
    cases hp : parOkV q x y z
    · simp only [Bool.false_eq_true, if_false, Bool.false_and]
      exact Ev.now _
    · simp only [if_true, Bool.true_and]
      refine Ev.bind (impl_tiles_ev a (m : Int) c r) ?_
      rw [w64 (x := tilesV a (m : Int) c r - 1) (by omega) (by omega)]
      by_cases h2 : 0 ≤ t ∧ t < tilesV a (m : Int) c r
      · rw [within_yes h2.1 (by omega)]
        simp only [Option.bind_some, if_true, if_pos (show (0 : Int) ≤ (m : Int) by omega), decide_eq_true h2, Bool.true_and, Int.toNat_natCast, shl_val m (by omega)]
        rw [w64 (x := 2 ^ m - 1) (by omega) (by omega)]
        by_cases h4 : 0 ≤ f ∧ f < 2 ^ m
        · rw [within_yes h4.1 (by omega)]
          simp only [Option.bind_some, if_true, decide_eq_true h4, Bool.true_and, within_any]
          exact Ev.now _
        · rw [within_no (x := f) (by omega)]
          simp only [Option.bind_some, Bool.false_eq_true, if_false, decide_eq_false h4, Bool.false_and]
          exact Ev.now _
      · rw [within_no (x := t) (by omega)]
        simp only [Option.bind_some, Bool.false_eq_true, if_false, decide_eq_false h2, Bool.false_and]
        exact Ev.now _
  · rw [Bool.eq_false_iff.2 hs, Bool.false_and]
    exact Ev.now _
/-- The last question of ReadHead. -/
def headEnd (a b : Int) (c r : List Int) (q : Int) (x y z : Bool) (t f h p : Int) : Int × Int × Int × Int × Bool := if headOk a b c r q x y z t f h = true then (t, f, h, p, true) else (0, 0, 0, 0, false)
theorem opn_bounds {u : Nat} (h : u ≤ 1000000) : -500000 ≤ opn (u : Int) ∧ opn (u : Int) ≤ 500000 := by
  unfold opn
  split <;> omega
/-- The reference's ReadHead, the row, the seq and the par in order. -/
def specRest (k : Nat) (s : ByteArray) (a b : Int) (c r : List Int) (q : Int) (x y z : Bool) : Option (Int × Int × Int × Int × Bool) :=
  (spec_l03ReadUe.f k s 0).bind fun b1 => (if b1.2.2 = true then ((spec_l02Read.f k s b1.2.1 b).bind fun b2 => (if b2.2.2 = true then ((spec_l03ReadSe.f k s b2.2.1).bind fun b3 => (if b3.2.2 = true then ((spec_HeadOk.f k a b c r q x y z b1.1 b2.1 (wrap64 (q + b3.1))).bind fun t => (if t = true then (some (b1.1, b2.1, wrap64 (q + b3.1), b3.2.1, true)) else (some (0, 0, 0, 0, false)))) else (some (0, 0, 0, 0, false)))) else (some (0, 0, 0, 0, false)))) else (some (0, 0, 0, 0, false)))
/-- The program's ReadHead, the seq and the par in order. -/
def implRest (k : Nat) (s : ByteArray) (p : Int) (w : Bool) (a b : Int) (c r : List Int) (q : Int) (x y z : Bool) : Option (Int × Int × Int × Int × Bool) :=
  (impl_scan_ue.f k s p w).bind fun b1 => ((impl_scan_fix.f k b1.2.1 b1.2.2.1 b1.2.2.2 b).bind fun b2 => ((impl_scan_se.f k b2.2.1 b2.2.2.1 b2.2.2.2).bind fun b3 => (if b3.2.2.2 = true then (some (0, 0, 0, 0, false)) else ((impl_HeadOk.f k a b c r q x y z b1.1 b2.1 (wrap64 (b3.1 + q))).bind fun t => (if t = true then (some (b1.1, b2.1, wrap64 (b3.1 + q), b3.2.2.1, true)) else (some (0, 0, 0, 0, false)))))))
theorem spec_rest {s : ByteArray} {a b : Int} {c r : List Int} {q : Int} {x y z : Bool} {v : Int × Int × Int × Int × Bool} (h : Ev (fun k => specRest k s a b c r q x y z) v) : Ev (fun k => spec_ReadHead.j0 k s false a b c r q x y z) v := by
  refine Ev.step (f := fun k => specRest k s a b c r q x y z) (fun k => ?_) h
  simp only [spec_ReadHead.j0, Bool.false_eq_true, if_false, specRest]
theorem impl_rest {s : ByteArray} {p : Int} {w : Bool} {a b : Int} {c r : List Int} {q : Int} {x y z : Bool} {v : Int × Int × Int × Int × Bool} (h : Ev (fun k => implRest k s p w a b c r q x y z) v) : Ev (fun k => impl_ReadHead.j0 k false a b c r q x y z s p w) v := by
  refine Ev.step (f := fun k => implRest k s p w a b c r q x y z) (fun k => ?_) h
  simp only [impl_ReadHead.j0, Bool.false_eq_true, if_false, implRest]
theorem spec_none (s : ByteArray) (a b : Int) (c r : List Int) (q : Int) (x y z : Bool) : Ev (fun k => spec_ReadHead.j0 k s true a b c r q x y z) (0, 0, 0, 0, false) := by
  refine Ev.step (f := fun _ => some (0, 0, 0, 0, false)) (fun k => ?_) (Ev.now _)
  simp only [spec_ReadHead.j0, if_true]
theorem impl_none (s : ByteArray) (p : Int) (w : Bool) (a b : Int) (c r : List Int) (q : Int) (x y z : Bool) : Ev (fun k => impl_ReadHead.j0 k true a b c r q x y z s p w) (0, 0, 0, 0, false) := by
  refine Ev.step (f := fun _ => some (0, 0, 0, 0, false)) (fun k => ?_) (Ev.now _)
  simp only [impl_ReadHead.j0, if_true]
theorem impl_rest_bad (s : ByteArray) (p : Int) (a b : Int) (c r : List Int) (q : Int) (x y z : Bool) : Ev (fun k => implRest k s p true a b c r q x y z) (0, 0, 0, 0, false) := by
  unfold implRest
  refine Ev.bind (scan_ue_bad _ _) (Ev.bind (scan_fix_bad _ _ _) (Ev.bind (scan_se_bad _ _) ?_))
  simp only [if_true]
  exact Ev.now _
theorem headread_ev {a b : Int} {c r : List Int} {q : Int} {x y z : Bool} {l : List Int} (hb : Bys l) (hr : rowOk l = true) (h1 : seqOk a b c r = true) (h2 : parOkV q x y z = true) :
    ∃ v, Ev (fun k => specRest k (strOfNums l) a b c r q x y z) v ∧ Ev (fun k => implRest k (strOfNums l) 0 false a b c r q x y z) v := by
  have hl4 := rowOk_len hr
  have hl : l.length ≤ 1048576 := by omega
  obtain ⟨_, _, _, _, b0, b1, _⟩ := seqOk_facts h1
  have hq : 0 ≤ q ∧ q ≤ 40 := by
    unfold parOkV at h2
    rw [Bool.and_eq_true] at h2
    exact of_decide_eq_true h2.1
  obtain ⟨w, rfl⟩ := Int.eq_ofNat_of_zero_le (show 0 ≤ b by omega)
  have hs1 := spec_readue_ev (p := 0) hb hr (by omega)
  unfold specRest implRest
  cases e1 : rdUe l 0 with
  | none =>
    rw [e1] at hs1
    obtain ⟨p1, hp1⟩ := scan_ue_none hb hr (by omega) e1
    refine ⟨(0, 0, 0, 0, false), Ev.bind hs1 ?_, Ev.bind hp1 (Ev.bind (scan_fix_bad _ _ _) (Ev.bind (scan_se_bad _ _) ?_))⟩
    · simp only [told, Bool.false_eq_true, if_false]
      exact Ev.now _
    · simp only [if_true]
      exact Ev.now _
  | some u =>
    obtain ⟨t, p1⟩ := u
    rw [e1] at hs1
    have k1 := rdUe_bounds e1
    have hi1 := scan_ue_some hb hr (by omega) e1
    by_cases hw : p1 + w ≤ l.length
    · have hs2 := read_yes hb hr hw (show w ≤ 60 by omega)
      have hi2 := scan_fix_yes hb hr hw (show w ≤ 60 by omega)
      have hs3 := spec_readse_ev (p := p1 + w) hb hr hw
      cases e2 : rdUe l (p1 + w) with
      | none =>
        rw [e2] at hs3
        obtain ⟨p2, hp2⟩ := scan_se_none hb hr hw e2
        refine ⟨(0, 0, 0, 0, false), Ev.bind hs1 ?_, Ev.bind hi1 (Ev.bind hi2 (Ev.bind hp2 ?_))⟩
        · simp only [told, if_true]
          refine Ev.bind hs2 ?_
          simp only [if_true]
          refine Ev.bind hs3 ?_
          simp only [toldSe, Bool.false_eq_true, if_false]
          exact Ev.now _
        · simp only [if_true]
          exact Ev.now _
      | some u2 =>
        obtain ⟨d, p2⟩ := u2
        rw [e2] at hs3
        have k2 := rdUe_bounds e2
        have k3 := opn_bounds k2.1
        have hi3 := scan_se_some hb hr hw e2
        refine ⟨headEnd a (w : Int) c r q x y z (t : Int) (vb 0 ((l.drop p1).take w)) (q + opn (d : Int)) (p2 : Int), Ev.bind hs1 ?_, Ev.bind hi1 (Ev.bind hi2 (Ev.bind hi3 ?_))⟩
        · simp only [told, if_true]
          refine Ev.bind hs2 ?_
          simp only [if_true]
          refine Ev.bind hs3 ?_
          simp only [toldSe, if_true]
          rw [w64 (x := q + opn (d : Int)) (by omega) (by omega)]
          refine Ev.bind (spec_headok_ev _ _ _ _ _ _ _ _ _ _ _) ?_
          unfold headEnd
          split <;> exact Ev.now _
        · simp only [Bool.false_eq_true, if_false]
          rw [w64 (x := opn (d : Int) + q) (by omega) (by omega), Int.add_comm (opn (d : Int)) q]
          refine Ev.bind (impl_headok_ev _ _ _ _ _ _ _ _ _ _ _) ?_
          unfold headEnd
          split <;> exact Ev.now _
    · refine ⟨(0, 0, 0, 0, false), Ev.bind hs1 ?_, Ev.bind hi1 (Ev.bind (scan_fix_short (l := l) (at_ := p1) (w := (w : Int)) hl (by omega) (by omega)) (Ev.bind (scan_se_bad _ _) ?_))⟩
      · simp only [told, if_true]
        refine Ev.bind (read_short (l := l) (at_ := p1) (w := (w : Int)) hl (by omega) (by omega)) ?_
        simp only [Bool.false_eq_true, if_false]
        exact Ev.now _
      · simp only [if_true]
        exact Ev.now _
theorem FnExactReadHead : laws_FnExactReadHead.Pure := by
  intro a b c r q x y z s _ _ hc _ hr _ _ _
  obtain ⟨l, hb, rfl⟩ := nums_of s
  by_cases hbig : ((strOfNums l).size : Int) > 1048576
  · exact ⟨0, by unfold laws_FnExactReadHead.f; rw [if_pos hbig]⟩
  · have hl : l.length ≤ 1048576 := by rw [str_size] at hbig; omega
    refine Ev.rounds ?_
    unfold laws_FnExactReadHead.f
    simp only [if_neg hbig]
    rcases szSeq_val a b hc hr with ⟨hl2, e⟩ | e
    · have h1 : c.length ≤ 1048576 := by omega
      have h2 : r.length ≤ 1048576 := by omega
      rw [e]
      simp only [Option.bind_some, if_neg (show ¬ (1048576 : Int) - (c.length : Int) - (r.length : Int) < 0 by omega), laws_toPar.f]
      have main : ∃ v, Ev (fun k => spec_ReadHead.f k a b c r q x y z (strOfNums l)) v ∧ Ev (fun k => impl_ReadHead.f k a b c r q x y z (strOfNums l)) v := by
        have ho := opened_ev hb hl 0
        unfold spec_ReadHead.f impl_ReadHead.f
        by_cases e1 : rowOk l = true
        · rw [e1, decide_eq_true (show (0 : Int) ≤ 0 ∧ (0 : Int) ≤ (l.length : Int) by omega)] at ho
          by_cases e2 : seqOk a b c r = true
          · cases e3 : parOkV q x y z
            · refine ⟨(0, 0, 0, 0, false), Ev.bind (spec_rowok_ev hb hl) ?_, Ev.bind ho ?_⟩
              · simp only [e1, if_true]
                refine Ev.bind (spec_seqok_ev a b c r) ?_
                simp only [e2, if_true, spec_parok, e3, Option.bind_some, Bool.not_false]
                exact spec_none _ _ _ _ _ _ _ _ _
              · refine Ev.bind (impl_seqok_ev a b c r) ?_
                simp only [e2, if_true, impl_parok, e3, Option.bind_some, Bool.not_false]
                exact impl_none _ _ _ _ _ _ _ _ _ _ _
            · obtain ⟨v, g1, g2⟩ := headread_ev hb e1 e2 e3
              refine ⟨v, Ev.bind (spec_rowok_ev hb hl) ?_, Ev.bind ho ?_⟩
              · simp only [e1, if_true]
                refine Ev.bind (spec_seqok_ev a b c r) ?_
                simp only [e2, if_true, spec_parok, e3, Option.bind_some, Bool.not_true]
                exact spec_rest g1
              · refine Ev.bind (impl_seqok_ev a b c r) ?_
                simp only [e2, if_true, impl_parok, e3, Option.bind_some, Bool.not_true, Bool.and_self]
                exact impl_rest g2
          · refine ⟨(0, 0, 0, 0, false), Ev.bind (spec_rowok_ev hb hl) ?_, Ev.bind ho ?_⟩
            · simp only [e1, if_true]
              refine Ev.bind (spec_seqok_ev a b c r) ?_
              simp only [if_neg e2]
              exact spec_none _ _ _ _ _ _ _ _ _
            · refine Ev.bind (impl_seqok_ev a b c r) ?_
              simp only [if_neg e2]
              exact impl_none _ _ _ _ _ _ _ _ _ _ _
        · have e1' : rowOk l = false := by simpa using e1
          rw [e1'] at ho
          refine ⟨(0, 0, 0, 0, false), Ev.bind (spec_rowok_ev hb hl) ?_, Ev.bind ho ?_⟩
          · simp only [if_neg e1]
            exact spec_none _ _ _ _ _ _ _ _ _
          · refine Ev.bind (impl_seqok_ev a b c r) ?_
            by_cases e2 : seqOk a b c r = true
            · simp only [e2, if_true, impl_parok, Option.bind_some, Bool.false_and, Bool.not_false]
              cases e3 : parOkV q x y z
              · simp only [Bool.not_false]
                exact impl_none _ _ _ _ _ _ _ _ _ _ _
              · simp only [Bool.not_true]
                exact impl_rest (impl_rest_bad _ _ _ _ _ _ _ _ _ _)
            · simp only [if_neg e2]
              exact impl_none _ _ _ _ _ _ _ _ _ _ _
      obtain ⟨v, g1, g2⟩ := main
      refine Ev.bind (toSeq_ev h1 h2) (Ev.bind g1 (Ev.bind (toSeq_ev h1 h2) (Ev.bind g2 ?_)))
      simp only [laws_eqHead.f, if_true, bne_self_eq_false, Option.bind_some]
      refine Ev.step (f := fun k => (laws_toSeq.f k a b c r).bind fun s => (laws_eqSeq.f k a b c r s.1 s.2.1 s.2.2.1 s.2.2.2).bind fun t => if t = true then (some true) else (some false)) (fun k => ?_) (Ev.bind (toSeq_ev h1 h2) (Ev.bind (eqSeq_ev h1 h2) (by simp only [if_true]; exact Ev.now _)))
      simp only [laws_FnExactReadHead.j0, Bool.false_eq_true, if_false]
    · rw [e]
      exact Ev.now _

end Go.Proofs.Ytibnnodjockcbaa.Pure
