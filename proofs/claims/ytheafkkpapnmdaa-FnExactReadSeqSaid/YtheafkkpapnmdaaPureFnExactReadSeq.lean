/- The program's ReadSeq returns what the reference's returns, for every text and every place, and its lists are its own. -/
import Derived.Test.YtheafkkpapnmdaaQFnExactReadSeqx7
set_option linter.unusedVariables false
set_option linter.unusedSimpArgs false
namespace Go.Proofs.Ytheafkkpapnmdaa.Pure
open Go.RowKit Go.Proofs.Ytheafkkpapnmdaa.QFnExactReadSeq Go.Proofs.YtheafkkpapnmdaaW.PrintWords Go.Proofs.YtheafkkpapnmdaaW.PrintLast Go.Proofs.YtheafkkpapnmdaaW.PrintMore

/-! ### Bytes as lists of numbers, and some plain facts -/
theorem w64 {x : Int} (h0 : -9223372036854775808 ≤ x) (h1 : x ≤ 9223372036854775807) : wrap64 x = x := by
  unfold wrap64
  omega
theorem i64_bounds {x : Int} (h : (Lit.int .i64 x).wf = true) : -9223372036854775808 ≤ x ∧ x ≤ 9223372036854775807 := by
  have e := h
  simp [Lit.wf, IntKind.min, IntKind.max, IntKind.signed, IntKind.bits] at e
  omega
/-- All numbers of the list are bytes. -/
def Bys (l : List Int) : Prop := ∀ x, x ∈ l → 0 ≤ x ∧ x < 256
theorem Bys.nil : Bys [] := fun _ h => by cases h
theorem Bys.cons {x : Int} {l : List Int} (h0 : 0 ≤ x) (h1 : x < 256) (h : Bys l) : Bys (x :: l) := fun y hy => by
  rcases List.mem_cons.1 hy with rfl | hy
  · exact ⟨h0, h1⟩
  · exact h y hy
theorem Bys.append {l m : List Int} (h : Bys l) (h' : Bys m) : Bys (l ++ m) := fun y hy => by
  rcases List.mem_append.1 hy with hy | hy
  · exact h y hy
  · exact h' y hy
theorem Bys.left {l m : List Int} (h : Bys (l ++ m)) : Bys l := fun y hy => h y (List.mem_append_left _ hy)
theorem Bys.right {l m : List Int} (h : Bys (l ++ m)) : Bys m := fun y hy => h y (List.mem_append_right _ hy)
theorem Bys.take {l : List Int} (h : Bys l) (n : Nat) : Bys (l.take n) := fun y hy => h y (List.mem_of_mem_take hy)
theorem Bys.drop {l : List Int} (h : Bys l) (n : Nat) : Bys (l.drop n) := fun y hy => h y (List.mem_of_mem_drop hy)
theorem Bys.getD {l : List Int} (h : Bys l) (i : Nat) : 0 ≤ l.getD i 0 ∧ l.getD i 0 < 256 := by
  rw [List.getD_eq_getElem?_getD]
  by_cases hi : i < l.length
  · rw [List.getElem?_eq_getElem hi]
    exact h _ (List.getElem_mem hi)
  · rw [List.getElem?_eq_none (by omega)]
    exact ⟨by decide, by decide⟩
theorem nums_of (a : ByteArray) : ∃ l, Bys l ∧ a = strOfNums l := by
  refine ⟨a.data.toList.map fun u => (u.toNat : Int), ?_, ?_⟩
  · intro x hx
    obtain ⟨u, _, rfl⟩ := List.mem_map.1 hx
    have := u.toNat_lt
    omega
  · unfold strOfNums
    rw [List.map_map]
    have e : ((fun n : Int => UInt8.ofNat n.toNat) ∘ fun u : UInt8 => (u.toNat : Int)) = id := by
      funext u
      simp
    rw [e, List.map_id]
theorem str_size (l : List Int) : (strOfNums l).size = l.length := strOfNums_size l
theorem bt_str {l : List Int} (h : Bys l) (i : Int) : bt (strOfNums l) i = l.getD i.toNat 0 := by
  unfold bt
  rw [List.getD_eq_getElem?_getD]
  split
  · rename_i hi
    have hi' : i.toNat < l.length := by rw [← str_size]; exact hi
    rw [List.getElem?_eq_getElem hi']
    have hb := h _ (List.getElem_mem hi')
    have e : (strOfNums l)[i.toNat]'hi = UInt8.ofNat (l[i.toNat]).toNat := by
      simp [strOfNums, ByteArray.getElem_eq_getElem_data]
    rw [e, UInt8.toNat_ofNat']
    simp only [Option.getD_some]
    omega
  · rename_i hi
    rw [List.getElem?_eq_none (by rw [← str_size]; omega)]
    rfl
theorem bt_get {l : List Int} (h : Bys l) {i : Int} {n : Nat} (hi : i = (n : Int)) : bt (strOfNums l) i = l.getD n 0 := by
  rw [bt_str h, hi, Int.toNat_natCast]
theorem str_append (l m : List Int) : strOfNums l ++ strOfNums m = strOfNums (l ++ m) := by
  apply ByteArray.ext
  rw [ByteArray.data_append]
  unfold strOfNums
  simp
theorem str_empty : (⟨#[]⟩ : ByteArray) = strOfNums [] := rfl
theorem str_inj {l m : List Int} (hl : Bys l) (hm : Bys m) (h : strOfNums l = strOfNums m) : l = m := by
  have hs : l.length = m.length := by rw [← str_size l, ← str_size m, h]
  apply List.ext_getElem hs
  intro i h1 h2
  have e1 := bt_get hl (i := (i : Int)) rfl
  have e2 := bt_get hm (i := (i : Int)) rfl
  rw [h, e2] at e1
  simp [List.getD_eq_getElem?_getD, h1, h2] at e1
  exact e1.symm
theorem str_extract (l : List Int) (i j : Nat) : (strOfNums l).extract i j = strOfNums ((l.take j).drop i) := by
  apply ByteArray.ext
  rw [ByteArray.data_extract]
  unfold strOfNums
  apply Array.ext'
  simp [List.extract_eq_take_drop, List.drop_take, List.map_drop, List.map_take]
theorem getD_mid (pre suf : List Int) (x : Int) : (pre ++ x :: suf).getD pre.length 0 = x := by
  rw [List.getD_eq_getElem?_getD, List.getElem?_append_right (Nat.le_refl _)]
  simp
theorem bt_mid {pre suf : List Int} {x : Int} (h : Bys (pre ++ x :: suf)) : bt (strOfNums (pre ++ x :: suf)) (pre.length : Int) = x := by
  rw [bt_get h rfl, getD_mid]
theorem rd_mid (pre suf : List Int) (x : Int) : rd (pre ++ x :: suf) (pre.length : Int) = x := by
  unfold rd
  rw [Int.toNat_natCast, getD_mid]
theorem snoc_cons (pre suf : List Int) (x : Int) : pre ++ x :: suf = (pre ++ [x]) ++ suf := by simp
theorem next_len (pre : List Int) (x : Int) (h : pre.length < 4611686018427387904) : wrap64 ((pre.length : Int) + 1) = ((pre ++ [x]).length : Int) := by
  rw [w64 (by omega) (by omega)]
  simp
theorem lt_mid (pre suf : List Int) (x : Int) : (pre.length : Int) < ((strOfNums (pre ++ x :: suf)).size : Int) := by
  rw [str_size]
  simp
  omega
theorem ge_end (pre : List Int) : ¬ ((pre.length : Int) < ((strOfNums pre).size : Int)) := by
  rw [str_size]
  omega
theorem mid_byte {pre suf : List Int} {x : Int} (h : Bys (pre ++ x :: suf)) : 0 ≤ x ∧ x < 256 := h x (by simp)
/-- The number that signs tell, behind n. -/
def vb : Int → List Int → Int
  | n, [] => n
  | n, x :: l => vb (2 * n + (x - 48)) l
theorem vb_bounds : ∀ (l : List Int) (n : Int) (j : Nat), (∀ x, x ∈ l → x = 48 ∨ x = 49) → 0 ≤ n → n < 2 ^ j → 0 ≤ vb n l ∧ vb n l < 2 ^ (j + l.length)
  | [], n, j, _, h0, h1 => ⟨h0, by simpa [vb] using h1⟩
  | x :: l, n, j, hm, h0, h1 => by
    have hx := hm x (by simp)
    have h2 : 2 * n + (x - 48) < 2 ^ (j + 1) := by
      rw [Int.pow_succ]
      rcases hx with rfl | rfl <;> omega
    have := vb_bounds l (2 * n + (x - 48)) (j + 1) (fun y hy => hm y (by simp [hy])) (by rcases hx with rfl | rfl <;> omega) h2
    rw [show j + (x :: l).length = j + 1 + l.length by simp; omega]
    exact this
theorem vb_append : ∀ (l m : List Int) (n : Int), vb n (l ++ m) = vb (vb n l) m
  | [], _, _ => rfl
  | x :: l, m, n => by simp only [List.cons_append, vb, vb_append l m]
theorem vb_zeros : ∀ (j : Nat) (l : List Int), vb 0 (List.replicate j 48 ++ l) = vb 0 l
  | 0, _ => rfl
  | j + 1, l => by
    rw [List.replicate_succ, List.cons_append, vb]
    exact vb_zeros j l
/-- How many noughts a list begins with. -/
def lz : List Int → Nat
  | [] => 0
  | x :: l => if x = 48 then lz l + 1 else 0
theorem lz_le : ∀ l : List Int, lz l ≤ l.length
  | [] => Nat.le_refl _
  | x :: l => by
    unfold lz
    split
    · have := lz_le l
      simp only [List.length_cons]
      omega
    · exact Nat.zero_le _
theorem lz_get : ∀ (l : List Int) (i : Nat), i < lz l → l.getD i 0 = 48
  | [], i, h => by simp [lz] at h
  | x :: l, i, h => by
    unfold lz at h
    split at h
    · rename_i hx
      cases i with
      | zero => simpa using hx
      | succ i =>
        have := lz_get l i (by omega)
        simpa using this
    · omega
theorem lz_stop : ∀ (l : List Int), lz l < l.length → l.getD (lz l) 0 ≠ 48
  | [], h => by simp [lz] at h
  | x :: l, h => by
    unfold lz at h ⊢
    split
    · rename_i hx
      rw [if_pos hx] at h
      have := lz_stop l (by simp only [List.length_cons] at h; omega)
      simpa using this
    · rename_i hx
      simpa using hx
theorem lz_split : ∀ (l : List Int), l = List.replicate (lz l) 48 ++ l.drop (lz l)
  | [] => rfl
  | x :: l => by
    unfold lz
    split
    · rename_i hx
      rw [List.replicate_succ, List.drop_succ_cons, List.cons_append, ← lz_split l, hx]
    · rfl
theorem getD_drop (l : List Int) (p i : Nat) : (l.drop p).getD i 0 = l.getD (p + i) 0 := by
  rw [List.getD_eq_getElem?_getD, List.getD_eq_getElem?_getD, List.getElem?_drop]
/-- ReadUe of a row, at a place in it. -/
def rdUe (l : List Int) (p : Nat) : Option (Nat × Nat) :=
  if lz (l.drop p) ≤ 20 ∧ p + (2 * lz (l.drop p) + 1) ≤ l.length ∧ vb 0 ((l.drop p).take (2 * lz (l.drop p) + 1)) - 1 ≤ 1000000 then some ((vb 0 ((l.drop p).take (2 * lz (l.drop p) + 1)) - 1).toNat, p + (2 * lz (l.drop p) + 1)) else none
theorem take_split (m : List Int) (w : Nat) : m.take (lz m + w) = List.replicate (lz m) 48 ++ (m.drop (lz m)).take w := by
  refine (congrArg (List.take (lz m + w)) (lz_split m)).trans ?_
  rw [List.take_append, List.take_of_length_le (by rw [List.length_replicate]; omega), List.length_replicate, Nat.add_sub_cancel_left]
theorem vb_big {m : List Int} (hm : ∀ x, x ∈ m → x = 48 ∨ x = 49) (w : Nat) (h : lz m + (w + 1) ≤ m.length) : 2 ^ w ≤ vb 0 ((m.drop (lz m)).take (w + 1)) ∧ vb 0 ((m.drop (lz m)).take (w + 1)) < 2 ^ (w + 1) := by
  have hlt : lz m < m.length := by omega
  have hx : m[lz m] = 49 := by
    have h1 := lz_stop m hlt
    rw [List.getD_eq_getElem?_getD, List.getElem?_eq_getElem hlt] at h1
    rcases hm _ (List.getElem_mem hlt) with h2 | h2
    · exact absurd h2 h1
    · exact h2
  have hd : (m.drop (lz m)).take (w + 1) = 49 :: (m.drop (lz m + 1)).take w := by
    rw [List.drop_eq_getElem_cons hlt, List.take_succ_cons, hx]
  have hmem : ∀ x, x ∈ (m.drop (lz m + 1)).take w → x = 48 ∨ x = 49 := fun x hx => hm x (List.mem_of_mem_drop (List.mem_of_mem_take hx))
  have hlen : ((m.drop (lz m + 1)).take w).length = w := by
    rw [List.length_take, List.length_drop]
    omega
  have lowb : ∀ (t : List Int) (n : Int), (∀ x, x ∈ t → x = 48 ∨ x = 49) → 1 ≤ n → 2 ^ t.length * n ≤ vb n t := by
    intro t
    induction t with
    | nil => intro n _ _; simp [vb]
    | cons y t ih =>
      intro n ht hn
      have hy := ht y (by simp)
      have := ih (2 * n + (y - 48)) (fun z hz => ht z (by simp [hz])) (by rcases hy with h | h <;> rw [h] <;> omega)
      rw [vb, List.length_cons, Int.pow_succ]
      have h2 : (2 : Int) ^ t.length * 2 * n ≤ 2 ^ t.length * (2 * n + (y - 48)) := by
        rw [Int.mul_assoc]
        apply Int.mul_le_mul_of_nonneg_left
        · rcases hy with h | h <;> rw [h] <;> omega
        · exact Int.pow_nonneg (by decide)
      omega
  rw [hd, vb, show (2 : Int) * 0 + (49 - 48) = 1 by decide]
  have h1 := lowb _ 1 hmem (by decide)
  have h2 := vb_bounds _ 1 1 hmem (by decide) (by decide)
  rw [hlen] at h1 h2
  rw [show w + 1 = 1 + w by omega]
  exact ⟨by omega, h2.2⟩
theorem rdUe_bounds {l : List Int} {p v q : Nat} (h : rdUe l p = some (v, q)) : v ≤ 1000000 ∧ p < q ∧ q ≤ l.length := by
  unfold rdUe at h
  split at h
  · rename_i hc
    obtain ⟨h1, h2, h3⟩ := hc
    have hv := Prod.mk.inj (Option.some.inj h)
    omega
  · cases h
/-- So many numbers, one behind the other. -/
def rdMany (l : List Int) : Nat → Nat → List Int → Option (List Int × Nat)
  | 0, p, acc => some (acc, p)
  | d + 1, p, acc => match rdUe l p with | some (v, q) => rdMany l d q (acc ++ [(v : Int)]) | none => none
/-- A list of at most four numbers, its length ahead of it. -/
def rdList (l : List Int) (p : Nat) : Option (List Int × Nat) := match rdUe l p with | some (n, q) => if n ≤ 4 then rdMany l n q [] else none | none => none
theorem rdMany_bounds {l : List Int} : ∀ (d p : Nat) (acc xs : List Int) (q : Nat), p ≤ l.length → rdMany l d p acc = some (xs, q) → q ≤ l.length ∧ xs.length = acc.length + d
  | 0, p, acc, xs, q, hp, h => by
    simp only [rdMany, Option.some.injEq, Prod.mk.injEq] at h
    obtain ⟨rfl, rfl⟩ := h
    exact ⟨hp, rfl⟩
  | d + 1, p, acc, xs, q, hp, h => by
    unfold rdMany at h
    cases e : rdUe l p with
    | none => rw [e] at h; cases h
    | some u =>
      obtain ⟨v, q'⟩ := u
      rw [e] at h
      have hb := rdUe_bounds e
      have ih := rdMany_bounds d q' (acc ++ [(v : Int)]) xs q (by omega) h
      rw [List.length_append, List.length_singleton] at ih
      exact ⟨ih.1, by omega⟩
theorem rdList_bounds {l : List Int} {p q : Nat} {xs : List Int} (hp : p ≤ l.length) (h : rdList l p = some (xs, q)) : q ≤ l.length ∧ xs.length ≤ 4 := by
  unfold rdList at h
  cases e : rdUe l p with
  | none => rw [e] at h; cases h
  | some u =>
    obtain ⟨n, q'⟩ := u
    rw [e] at h
    dsimp only at h
    split at h
    · have hb := rdUe_bounds e
      have := rdMany_bounds n q' [] xs q (by omega) h
      simp only [List.length_nil] at this
      exact ⟨this.1, by omega⟩
    · cases h
theorem exact_sb {g h : Nat → Option (ByteArray × Bool)} {v : ByteArray × Bool} (hg : Ev g v) (hh : Ev h v) :
    Ev (fun k => (g k).bind fun b1 => (h k).bind fun b2 => if b2.1.toList = b1.1.toList then (if (b2.2 != b1.2) = true then some false else some true) else some false) true := by
  refine Ev.bind hg (Ev.bind hh ?_)
  simp only [if_true, bne_self_eq_false, Bool.false_eq_true, if_false]
  exact Ev.now _
theorem exact_i {g h : Nat → Option Int} {v : Int} (hg : Ev g v) (hh : Ev h v) :
    Ev (fun k => (g k).bind fun b1 => (h k).bind fun b2 => if b2 = b1 then some true else some false) true := by
  refine Ev.bind hg (Ev.bind hh ?_)
  simp only [if_true]
  exact Ev.now _
theorem exact_s {g h : Nat → Option ByteArray} {v : ByteArray} (hg : Ev g v) (hh : Ev h v) :
    Ev (fun k => (g k).bind fun b1 => (h k).bind fun b2 => if b2.toList = b1.toList then some true else some false) true := by
  refine Ev.bind hg (Ev.bind hh ?_)
  simp only [if_true]
  exact Ev.now _
theorem exact_ib {g h : Nat → Option (Int × Bool)} {v : Int × Bool} (hg : Ev g v) (hh : Ev h v) :
    Ev (fun k => (g k).bind fun b1 => (h k).bind fun b2 => if b2.1 = b1.1 then (if (b2.2 != b1.2) = true then some false else some true) else some false) true := by
  refine Ev.bind hg (Ev.bind hh ?_)
  simp only [if_true, bne_self_eq_false, Bool.false_eq_true, if_false]
  exact Ev.now _
theorem exact_iib {g h : Nat → Option (Int × Int × Bool)} {v : Int × Int × Bool} (hg : Ev g v) (hh : Ev h v) :
    Ev (fun k => (g k).bind fun b1 => (h k).bind fun b2 => if b2.1 = b1.1 then (if b2.2.1 = b1.2.1 then (if (b2.2.2 != b1.2.2) = true then some false else some true) else some false) else some false) true := by
  refine Ev.bind hg (Ev.bind hh ?_)
  simp only [if_true, bne_self_eq_false, Bool.false_eq_true, if_false]
  exact Ev.now _
theorem exact_b {g h : Nat → Option Bool} {v : Bool} (hg : Ev g v) (hh : Ev h v) :
    Ev (fun k => (g k).bind fun b1 => (h k).bind fun b2 => if (b2 != b1) = true then some false else some true) true := by
  refine Ev.bind hg (Ev.bind hh ?_)
  simp only [bne_self_eq_false, Bool.false_eq_true, if_false]
  exact Ev.now _
theorem ev_now {α : Type} {g : Nat → Option α} {v : α} (h : ∀ k, g k = some v) : Ev g v := Ev.congr h (Ev.now v)
/-- A row: signs alone, not too many. -/
def isRow (l : List Int) : Bool := l.all fun x => x == 48 || x == 49
def rowOk (l : List Int) : Bool := decide (l.length ≤ 400000) && isRow l
theorem impl_row_loop : ∀ (suf pre : List Int), Bys (pre ++ suf) → (pre ++ suf).length ≤ 1048576 → Ev (fun k => impl_RowOk.l0 k (strOfNums (pre ++ suf)) (pre.length : Int)) (isRow suf)
  | [], pre, hb, hl => by
    refine Ev.step (f := fun _ => some true) (fun k => ?_) (Ev.now _)
    simp only [impl_RowOk.l0, List.append_nil]
    rw [if_neg (ge_end pre)]
  | x :: suf, pre, hb, hl => by
    have hl' : pre.length + (suf.length + 1) ≤ 1048576 := by simpa using hl
    have ih := impl_row_loop suf (pre ++ [x]) (by rw [← snoc_cons]; exact hb) (by rw [← snoc_cons]; exact hl)
    rw [← snoc_cons] at ih
    have hlt := lt_mid pre suf x
    have hn := next_len pre x (by omega)
    have e : isRow (x :: suf) = ((x == 48 || x == 49) && isRow suf) := rfl
    by_cases h0 : x = 48
    · rw [e, beq_iff_eq.2 h0, Bool.true_or, Bool.true_and]
      refine Ev.step (fun k => ?_) ih
      simp only [impl_RowOk.l0]
      rw [if_pos hlt, if_pos (by omega), bt_mid hb, if_pos h0, hn]
    · by_cases h1 : x = 49
      · rw [e, beq_iff_eq.2 h1, Bool.or_true, Bool.true_and]
        refine Ev.step (fun k => ?_) ih
        simp only [impl_RowOk.l0]
        rw [if_pos hlt, if_pos (by omega), bt_mid hb, if_neg h0, if_pos h1, hn]
      · rw [e, beq_eq_false_iff_ne.2 h0, beq_eq_false_iff_ne.2 h1, Bool.or_false, Bool.false_and]
        refine Ev.step (f := fun _ => some false) (fun k => ?_) (Ev.now _)
        simp only [impl_RowOk.l0]
        rw [if_pos hlt, if_pos (by omega), bt_mid hb, if_neg h0, if_neg h1]
theorem impl_rowok_ev {l : List Int} (hb : Bys l) (hl : l.length ≤ 1048576) : Ev (fun k => impl_RowOk.f k (strOfNums l)) (rowOk l) := by
  unfold impl_RowOk.f rowOk
  by_cases h : l.length ≤ 400000
  · simp only [if_neg (show ¬ ((strOfNums l).size : Int) > 400000 by rw [str_size]; omega), decide_eq_true h, Bool.true_and]
    exact impl_row_loop l [] hb hl
  · simp only [if_pos (show ((strOfNums l).size : Int) > 400000 by rw [str_size]; omega), decide_eq_false h, Bool.false_and]
    exact Ev.now _
theorem rowOk_len {l : List Int} (h : rowOk l = true) : l.length ≤ 400000 := by
  unfold rowOk at h
  rw [Bool.and_eq_true] at h
  exact of_decide_eq_true h.1
theorem rowOk_mem {l : List Int} (h : rowOk l = true) : ∀ x, x ∈ l → x = 48 ∨ x = 49 := by
  unfold rowOk isRow at h
  rw [Bool.and_eq_true, List.all_eq_true] at h
  intro x hx
  have := h.2 x hx
  rw [Bool.or_eq_true, beq_iff_eq, beq_iff_eq] at this
  exact this
theorem rowOk_mk {l : List Int} (h : l.length ≤ 400000) (hm : ∀ x, x ∈ l → x = 48 ∨ x = 49) : rowOk l = true := by
  unfold rowOk isRow
  rw [decide_eq_true h, Bool.true_and, List.all_eq_true]
  intro x hx
  rw [Bool.or_eq_true, beq_iff_eq, beq_iff_eq]
  exact hm x hx
theorem or_bit : ∀ (n : Int) (b : Int), 0 ≤ n → n < 1152921504606846976 → (b = 0 ∨ b = 1) → Go.bits .or .i64 (wrap64 (n * 2)) b = 2 * n + b := by
  intro n b h0 h1 hb
  rw [w64 (by omega) (by omega)]
  have h := Go.bits_join .i64 62 (by decide) (fun m hm0 hm1 => by rw [Go.IntKind.wrap_i64]; omega) 1 (n * 2) b (by omega) (by omega) (by omega) (by omega) (by omega) (by omega)
  rw [h]
  omega
/-- scan.fix: what is read at a place, so many signs. -/
theorem scan_fix_loop : ∀ (d : Nat) (l : List Int) (at_ i w : Nat) (n : Int) (b : Bool), Bys l → (∀ x, x ∈ l → x = 48 ∨ x = 49) → l.length ≤ 400000 → at_ + w ≤ l.length → w ≤ 60 → i + d = w → 0 ≤ n → n < 2 ^ i →
    Ev (fun k => impl_scan_fix.l0 k (w : Int) n (i : Int) (strOfNums l) (at_ : Int) b) (vb n ((l.drop (at_ + i)).take d), strOfNums l, ((at_ + w : Nat) : Int), b)
  | 0, l, at_, i, w, n, b, hb, hm, hl, ha, hw, hi, h0, h1 => by
    refine Ev.step (f := fun _ => some (n, strOfNums l, ((at_ + w : Nat) : Int), b)) (fun k => ?_) (by simp only [List.take_zero, vb]; exact Ev.now _)
    simp only [impl_scan_fix.l0]
    rw [if_neg (by omega), w64 (by omega) (by omega)]
    rfl
  | d + 1, l, at_, i, w, n, b, hb, hm, hl, ha, hw, hi, h0, h1 => by
    have hlt : at_ + i < l.length := by omega
    have hx := hm _ (List.getElem_mem hlt)
    have hd : (l.drop (at_ + i)).take (d + 1) = l[at_ + i] :: (l.drop (at_ + (i + 1))).take d := by
      rw [List.drop_eq_getElem_cons hlt, List.take_succ_cons]
      rfl
    have hg : bt (strOfNums l) ((at_ : Int) + (i : Int)) = l[at_ + i] := by
      rw [bt_get hb (n := at_ + i) (by omega), List.getD_eq_getElem?_getD, List.getElem?_eq_getElem hlt]
      rfl
    have hn59 : n < 2 ^ 59 := by
      have : (2 : Int) ^ i ≤ 2 ^ 59 := by
        have : (2 : Nat) ^ i ≤ 2 ^ 59 := Nat.pow_le_pow_right (by decide) (by omega)
        exact_mod_cast this
      omega
    have ih := scan_fix_loop d l at_ (i + 1) w (2 * n + (l[at_ + i] - 48)) b hb hm hl ha hw (by omega) (by rcases hx with h | h <;> rw [h] <;> omega) (by rw [Int.pow_succ]; rcases hx with h | h <;> rw [h] <;> omega)
    rw [hd, vb]
    refine Ev.step (fun k => ?_) ih
    simp only [impl_scan_fix.l0]
    rw [if_pos (by omega), w64 (x := (at_ : Int) + (i : Int)) (by omega) (by omega), if_pos (by omega), if_pos (by rw [str_size]; omega), hg, w64 (x := (i : Int) + 1) (by omega) (by omega)]
    rw [Int.emod_eq_of_lt (a := l[at_ + i] - 48) (by rcases hx with h | h <;> rw [h] <;> decide) (by rcases hx with h | h <;> rw [h] <;> decide)]
    rw [or_bit n _ h0 (by omega) (by rcases hx with h | h <;> rw [h] <;> decide)]
    rfl
theorem scan_fix_yes {l : List Int} {at_ w : Nat} (hb : Bys l) (hr : rowOk l = true) (ha : at_ + w ≤ l.length) (hw : w ≤ 60) :
    Ev (fun k => impl_scan_fix.f k (strOfNums l) (at_ : Int) false (w : Int)) (vb 0 ((l.drop at_).take w), strOfNums l, ((at_ + w : Nat) : Int), false) := by
  have hl := rowOk_len hr
  have h := scan_fix_loop w l at_ 0 w 0 false hb (rowOk_mem hr) hl ha hw (by omega) (by decide) (by decide)
  rw [Nat.add_zero] at h
  unfold impl_scan_fix.f
  simp only [Bool.false_eq_true, if_false]
  rw [decide_eq_false (by rw [str_size, w64 (by omega) (by omega)]; omega)]
  refine Ev.step (fun k => ?_) h
  simp only [impl_scan_fix.j0, Bool.false_eq_true, if_false]
  rfl
theorem scan_fix_short {l : List Int} {at_ : Nat} {w : Int} (hl : l.length ≤ 1048576) (hle : at_ ≤ l.length) (ha : ((l.length : Int) - (at_ : Int)) < w) :
    Ev (fun k => impl_scan_fix.f k (strOfNums l) (at_ : Int) false w) (0, strOfNums l, (at_ : Int), true) := by
  unfold impl_scan_fix.f
  simp only [Bool.false_eq_true, if_false]
  rw [decide_eq_true (by rw [str_size, w64 (by omega) (by omega)]; exact ha)]
  refine Ev.step (f := fun _ => some (0, strOfNums l, (at_ : Int), true)) (fun k => ?_) (Ev.now _)
  simp only [impl_scan_fix.j0, if_true]
theorem scan_fix_bad (s : ByteArray) (at_ w : Int) : Ev (fun k => impl_scan_fix.f k s at_ true w) (0, s, at_, true) := by
  unfold impl_scan_fix.f
  simp only [if_true]
  refine Ev.step (f := fun _ => some (0, s, at_, true)) (fun k => ?_) (Ev.now _)
  simp only [impl_scan_fix.j0, if_true]
theorem ue_count {l : List Int} {p : Nat} (hb : Bys l) (hl : l.length ≤ 1048576) (hp : p ≤ l.length) {R : Int × ByteArray × Int × Bool} (h : Ev (fun k => impl_scan_ue.j1 k (lz (l.drop p) : Int) (strOfNums l) (p : Int) false) R) :
    ∀ (d z : Nat), z + d = lz (l.drop p) → Ev (fun k => impl_scan_ue.l0 k (z : Int) (strOfNums l) (p : Int) false) R
  | 0, z, hz => by
    have hzz : z = lz (l.drop p) := by omega
    subst hzz
    refine Ev.step (fun k => ?_) h
    have hle := lz_le (l.drop p)
    rw [List.length_drop] at hle
    simp only [impl_scan_ue.l0, Bool.false_eq_true, if_false]
    rw [w64 (by omega) (by omega)]
    by_cases hlt : p + lz (l.drop p) < l.length
    · rw [if_pos (by rw [str_size]; omega), if_pos (by omega), bt_get hb (n := p + lz (l.drop p)) (by omega), ← getD_drop, if_neg (lz_stop _ (by rw [List.length_drop]; omega))]
    · rw [if_neg (by rw [str_size]; omega)]
  | d + 1, z, hz => by
    have ih := ue_count hb hl hp h d (z + 1) (by omega)
    refine Ev.step (fun k => ?_) ih
    have hle := lz_le (l.drop p)
    rw [List.length_drop] at hle
    simp only [impl_scan_ue.l0, Bool.false_eq_true, if_false]
    rw [w64 (by omega) (by omega), if_pos (by rw [str_size]; omega), if_pos (by omega), bt_get hb (n := p + z) (by omega), ← getD_drop, if_pos (lz_get _ z (by omega)), w64 (by omega) (by omega)]
    rfl
theorem scan_ue_some {l : List Int} {p v q : Nat} (hb : Bys l) (hr : rowOk l = true) (hp : p ≤ l.length) (h : rdUe l p = some (v, q)) :
    Ev (fun k => impl_scan_ue.f k (strOfNums l) (p : Int) false) ((v : Int), strOfNums l, (q : Int), false) := by
  have hl := rowOk_len hr
  unfold rdUe at h
  split at h
  · rename_i hc
    obtain ⟨h1, h2, h3⟩ := hc
    have hv := (Prod.mk.inj (Option.some.inj h))
    have hm : ∀ x, x ∈ l.drop p → x = 48 ∨ x = 49 := fun x hx => rowOk_mem hr x (List.mem_of_mem_drop hx)
    have hbig := vb_big hm (lz (l.drop p)) (by rw [List.length_drop]; omega)
    have hts := take_split (l.drop p) (lz (l.drop p) + 1)
    rw [show lz (l.drop p) + (lz (l.drop p) + 1) = 2 * lz (l.drop p) + 1 by omega] at hts
    have heq : vb 0 ((l.drop p).take (2 * lz (l.drop p) + 1)) = vb 0 (((l.drop p).drop (lz (l.drop p))).take (lz (l.drop p) + 1)) := by rw [hts, vb_zeros]
    have hpos : (0 : Int) < 2 ^ lz (l.drop p) := Int.pow_pos (by decide)
    refine ue_count hb (by omega) hp ?_ (lz (l.drop p)) 0 (by omega)
    refine Ev.step (fun k => ?_) (Ev.bind (scan_fix_yes hb hr (at_ := p) (w := 2 * lz (l.drop p) + 1) h2 (by omega)) (f := fun k b => if b.2.2.2 = true then (some (0, b.2.1, b.2.2.1, true)) else (if (wrap64 (b.1 - 1)) > 1000000 then (some (0, b.2.1, b.2.2.1, true)) else (some (wrap64 (b.1 - 1), b.2.1, b.2.2.1, b.2.2.2)))) ?_)
    · simp only [impl_scan_ue.j1]
      rw [if_neg (by omega), w64 (x := 2 * ((lz (l.drop p) : Nat) : Int)) (by omega) (by omega), w64 (by omega) (by omega)]
      rfl
    · simp only [Bool.false_eq_true, if_false]
      rw [w64 (by omega) (by omega), if_neg (by omega), ← hv.1, ← hv.2, Int.toNat_of_nonneg (by omega)]
      exact Ev.now _
  · cases h
theorem scan_ue_none {l : List Int} {p : Nat} (hb : Bys l) (hr : rowOk l = true) (hp : p ≤ l.length) (h : rdUe l p = none) :
    ∃ q, Ev (fun k => impl_scan_ue.f k (strOfNums l) (p : Int) false) (0, strOfNums l, q, true) := by
  have hl := rowOk_len hr
  have hle := lz_le (l.drop p)
  rw [List.length_drop] at hle
  by_cases h1 : lz (l.drop p) ≤ 20
  · by_cases h2 : p + (2 * lz (l.drop p) + 1) ≤ l.length
    · have h3 : ¬ vb 0 ((l.drop p).take (2 * lz (l.drop p) + 1)) - 1 ≤ 1000000 := by
        intro h3
        unfold rdUe at h
        rw [if_pos ⟨h1, h2, h3⟩] at h
        cases h
      have hb2 := vb_bounds ((l.drop p).take (2 * lz (l.drop p) + 1)) 0 1 (fun x hx => rowOk_mem hr x (List.mem_of_mem_drop (List.mem_of_mem_take hx))) (by decide) (by decide)
      have hp60 : (2 : Int) ^ (1 + ((l.drop p).take (2 * lz (l.drop p) + 1)).length) ≤ 2 ^ 60 := by
        have : (2 : Nat) ^ (1 + ((l.drop p).take (2 * lz (l.drop p) + 1)).length) ≤ 2 ^ 60 := Nat.pow_le_pow_right (by decide) (by rw [List.length_take, List.length_drop]; omega)
        exact_mod_cast this
      refine ⟨((p + (2 * lz (l.drop p) + 1) : Nat) : Int), ue_count hb (by omega) hp ?_ (lz (l.drop p)) 0 (by omega)⟩
      refine Ev.step (fun k => ?_) (Ev.bind (scan_fix_yes hb hr (at_ := p) (w := 2 * lz (l.drop p) + 1) h2 (by omega)) (f := fun k b => if b.2.2.2 = true then (some (0, b.2.1, b.2.2.1, true)) else (if (wrap64 (b.1 - 1)) > 1000000 then (some (0, b.2.1, b.2.2.1, true)) else (some (wrap64 (b.1 - 1), b.2.1, b.2.2.1, b.2.2.2)))) ?_)
      · simp only [impl_scan_ue.j1]
        rw [if_neg (by omega), w64 (x := 2 * ((lz (l.drop p) : Nat) : Int)) (by omega) (by omega), w64 (by omega) (by omega)]
        rfl
      · simp only [Bool.false_eq_true, if_false]
        rw [w64 (by omega) (by omega), if_pos (by omega)]
        exact Ev.now _
    · refine ⟨(p : Int), ue_count hb (by omega) hp ?_ (lz (l.drop p)) 0 (by omega)⟩
      refine Ev.step (fun k => ?_) (Ev.bind (scan_fix_short (l := l) (at_ := p) (w := ((2 * lz (l.drop p) + 1 : Nat) : Int)) (by omega) hp (by omega)) (f := fun k b => if b.2.2.2 = true then (some (0, b.2.1, b.2.2.1, true)) else (if (wrap64 (b.1 - 1)) > 1000000 then (some (0, b.2.1, b.2.2.1, true)) else (some (wrap64 (b.1 - 1), b.2.1, b.2.2.1, b.2.2.2)))) ?_)
      · simp only [impl_scan_ue.j1]
        rw [if_neg (by omega), w64 (x := 2 * ((lz (l.drop p) : Nat) : Int)) (by omega) (by omega), w64 (by omega) (by omega)]
        rfl
      · simp only [if_true]
        exact Ev.now _
  · refine ⟨(p : Int), ue_count hb (by omega) hp ?_ (lz (l.drop p)) 0 (by omega)⟩
    refine Ev.step (fun k => ?_) (Ev.bind (scan_fix_bad (strOfNums l) (p : Int) (wrap64 ((wrap64 (2 * ((lz (l.drop p) : Nat) : Int))) + 1))) (f := fun k b => if b.2.2.2 = true then (some (0, b.2.1, b.2.2.1, true)) else (if (wrap64 (b.1 - 1)) > 1000000 then (some (0, b.2.1, b.2.2.1, true)) else (some (wrap64 (b.1 - 1), b.2.1, b.2.2.1, b.2.2.2)))) ?_)
    · simp only [impl_scan_ue.j1]
      rw [if_pos (by omega)]
    · simp only [if_true]
      exact Ev.now _
theorem scan_ue_bad (s : ByteArray) (p : Int) : Ev (fun k => impl_scan_ue.f k s p true) (0, s, p, true) := by
  have hj : Ev (fun k => impl_scan_ue.j1 k 0 s p true) (0, s, p, true) := by
    refine Ev.step (fun k => ?_) (Ev.bind (scan_fix_bad s p (wrap64 ((wrap64 (2 * 0)) + 1))) (f := fun k b => if b.2.2.2 = true then (some (0, b.2.1, b.2.2.1, true)) else (if (wrap64 (b.1 - 1)) > 1000000 then (some (0, b.2.1, b.2.2.1, true)) else (some (wrap64 (b.1 - 1), b.2.1, b.2.2.1, b.2.2.2)))) ?_)
    · simp only [impl_scan_ue.j1]
      rw [if_neg (by decide)]
    · simp only [if_true]
      exact Ev.now _
  unfold impl_scan_ue.f
  refine Ev.step (fun k => ?_) hj
  simp only [impl_scan_ue.l0, if_true]
theorem spec_row_loop : ∀ (suf pre : List Int), Bys (pre ++ suf) → (pre ++ suf).length ≤ 1048576 → Ev (fun k => spec_l02Row.l0 k (strOfNums (pre ++ suf)) (pre.length : Int)) (isRow suf)
  | [], pre, hb, hl => by
    refine Ev.step (f := fun _ => some true) (fun k => ?_) (Ev.now _)
    simp only [spec_l02Row.l0, List.append_nil]
    rw [if_neg (ge_end pre)]
  | x :: suf, pre, hb, hl => by
    have hl' : pre.length + (suf.length + 1) ≤ 1048576 := by simpa using hl
    have ih := spec_row_loop suf (pre ++ [x]) (by rw [← snoc_cons]; exact hb) (by rw [← snoc_cons]; exact hl)
    rw [← snoc_cons] at ih
    have hlt := lt_mid pre suf x
    have hn := next_len pre x (by omega)
    have e : isRow (x :: suf) = ((x == 48 || x == 49) && isRow suf) := rfl
    by_cases h0 : x = 48
    · rw [e, beq_iff_eq.2 h0, Bool.true_or, Bool.true_and]
      refine Ev.step (fun k => ?_) ih
      simp only [spec_l02Row.l0]
      rw [if_pos hlt, if_pos (by omega), bt_mid hb, if_pos h0, hn]
    · by_cases h1 : x = 49
      · rw [e, beq_iff_eq.2 h1, Bool.or_true, Bool.true_and]
        refine Ev.step (fun k => ?_) ih
        simp only [spec_l02Row.l0]
        rw [if_pos hlt, if_pos (by omega), bt_mid hb, if_neg h0, if_pos h1, hn]
      · rw [e, beq_eq_false_iff_ne.2 h0, beq_eq_false_iff_ne.2 h1, Bool.or_false, Bool.false_and]
        refine Ev.step (f := fun _ => some false) (fun k => ?_) (Ev.now _)
        simp only [spec_l02Row.l0]
        rw [if_pos hlt, if_pos (by omega), bt_mid hb, if_neg h0, if_neg h1]
theorem spec_rowok_ev {l : List Int} (hb : Bys l) (hl : l.length ≤ 1048576) : Ev (fun k => spec_RowOk.f k (strOfNums l)) (rowOk l) := by
  unfold spec_RowOk.f rowOk spec_l02Row.f
  by_cases h : l.length ≤ 400000
  · simp only [if_pos (show ((strOfNums l).size : Int) ≤ 400000 by rw [str_size]; omega), decide_eq_true h, Bool.true_and]
    exact Ev.bind (spec_row_loop l [] hb hl) (Ev.now _)
  · simp only [if_neg (show ¬ ((strOfNums l).size : Int) ≤ 400000 by rw [str_size]; omega), decide_eq_false h, Bool.false_and]
    exact Ev.now _
theorem read_loop : ∀ (d : Nat) (l : List Int) (at_ i w : Nat) (n : Int), Bys l → (∀ x, x ∈ l → x = 48 ∨ x = 49) → l.length ≤ 400000 → at_ + w ≤ l.length → w ≤ 60 → i + d = w → 0 ≤ n → n < 2 ^ i →
    Ev (fun k => spec_l02Read.l0 k (strOfNums l) (at_ : Int) (w : Int) n ((at_ + i : Nat) : Int)) (vb n ((l.drop (at_ + i)).take d), ((at_ + w : Nat) : Int), true)
  | 0, l, at_, i, w, n, hb, hm, hl, ha, hw, hi, h0, h1 => by
    refine Ev.step (f := fun _ => some (n, ((at_ + w : Nat) : Int), true)) (fun k => ?_) (by simp only [List.take_zero, vb]; exact Ev.now _)
    simp only [spec_l02Read.l0]
    rw [w64 (x := (at_ : Int) + (w : Int)) (by omega) (by omega), if_neg (by omega)]
    rfl
  | d + 1, l, at_, i, w, n, hb, hm, hl, ha, hw, hi, h0, h1 => by
    have hlt : at_ + i < l.length := by omega
    have hx := hm _ (List.getElem_mem hlt)
    have hd : (l.drop (at_ + i)).take (d + 1) = l[at_ + i] :: (l.drop (at_ + (i + 1))).take d := by
      rw [List.drop_eq_getElem_cons hlt, List.take_succ_cons]
      rfl
    have hg : bt (strOfNums l) ((at_ + i : Nat) : Int) = l[at_ + i] := by
      rw [bt_get hb rfl, List.getD_eq_getElem?_getD, List.getElem?_eq_getElem hlt]
      rfl
    have hn59 : n < 2 ^ 59 := by
      have : (2 : Int) ^ i ≤ 2 ^ 59 := by
        have : (2 : Nat) ^ i ≤ 2 ^ 59 := Nat.pow_le_pow_right (by decide) (by omega)
        exact_mod_cast this
      omega
    have ih := read_loop d l at_ (i + 1) w (2 * n + (l[at_ + i] - 48)) hb hm hl ha hw (by omega) (by rcases hx with h | h <;> rw [h] <;> omega) (by rw [Int.pow_succ]; rcases hx with h | h <;> rw [h] <;> omega)
    rw [hd, vb]
    refine Ev.step (fun k => ?_) ih
    simp only [spec_l02Read.l0]
    have hxb : 0 ≤ l[at_ + i] ∧ l[at_ + i] ≤ 49 := by rcases hx with h | h <;> rw [h] <;> decide
    rw [w64 (x := (at_ : Int) + (w : Int)) (by omega) (by omega), if_pos (by omega), if_pos (by omega), if_pos (by rw [str_size]; omega), hg, w64 (x := ((at_ + i : Nat) : Int) + 1) (by omega) (by omega)]
    rw [w64 (x := 2 * n) (by omega) (by omega), w64 (x := l[at_ + i]) (by omega) (by omega), w64 (x := 2 * n + l[at_ + i]) (by omega) (by omega), w64 (by omega) (by omega), show 2 * n + l[at_ + i] - 48 = 2 * n + (l[at_ + i] - 48) by omega]
    rfl
theorem read_yes {l : List Int} {at_ w : Nat} (hb : Bys l) (hr : rowOk l = true) (ha : at_ + w ≤ l.length) (hw : w ≤ 60) :
    Ev (fun k => spec_l02Read.f k (strOfNums l) (at_ : Int) (w : Int)) (vb 0 ((l.drop at_).take w), ((at_ + w : Nat) : Int), true) := by
  have hl := rowOk_len hr
  have h := read_loop w l at_ 0 w 0 hb (rowOk_mem hr) hl ha hw (by omega) (by decide) (by decide)
  rw [Nat.add_zero] at h
  refine Ev.congr (fun k => ?_) h
  unfold spec_l02Read.f
  rw [str_size, w64 (by omega) (by omega), if_neg (by omega)]
theorem read_short {l : List Int} {at_ : Nat} {w : Int} (hl : l.length ≤ 1048576) (hle : at_ ≤ l.length) (ha : ((l.length : Int) - (at_ : Int)) < w) :
    Ev (fun k => spec_l02Read.f k (strOfNums l) (at_ : Int) w) (0, 0, false) := by
  refine ev_now (fun k => ?_)
  unfold spec_l02Read.f
  rw [str_size, w64 (by omega) (by omega), if_pos (by omega)]
theorem shl_small_val : ∀ m : Fin 31, shl .i64 1 ((m : Nat) : Int) = 2 ^ (m : Nat) ∧ (2 : Int) ^ (m : Nat) ≤ 1073741824 ∧ (1 : Int) ≤ 2 ^ (m : Nat) ∧ IntKind.u64.wrap ((m : Nat) : Int) = ((m : Nat) : Int) := by decide +kernel
theorem shl_val (w : Nat) (h : w ≤ 30) : shl .i64 1 (w : Int) = 2 ^ w := (shl_small_val ⟨w, by omega⟩).1
theorem pow_le (w : Nat) (h : w ≤ 30) : (2 : Int) ^ w ≤ 1073741824 := (shl_small_val ⟨w, by omega⟩).2.1
theorem pow_pos (w : Nat) (h : w ≤ 30) : (1 : Int) ≤ 2 ^ w := (shl_small_val ⟨w, by omega⟩).2.2.1
theorem u64_val (w : Nat) (h : w ≤ 30) : IntKind.u64.wrap (w : Int) = (w : Int) := (shl_small_val ⟨w, by omega⟩).2.2.2
/-- What spec.l03ReadUe does when it has counted z noughts. -/
def fin (k : Nat) (s : ByteArray) (p z : Int) : Option (Int × Int × Bool) := (spec_l02Read.f k s (wrap64 (p + z)) (wrap64 (z + 1))).bind fun b => (if b.2.2 = true then (if 0 ≤ (IntKind.u64.wrap (z)) then (if b.1 < (shl .i64 1 (IntKind.u64.wrap (z))) then (some (0, 0, false)) else (if (wrap64 (b.1 - 1)) > 1000000 then (some (0, 0, false)) else (some (wrap64 (b.1 - 1), b.2.1, true)))) else (none)) else (some (0, 0, false)))
theorem ue_count_spec {l : List Int} {p : Nat} (hb : Bys l) (hl : l.length ≤ 1048576) (hp : p ≤ l.length) {R : Int × Int × Bool} {Z : Nat} (hZ : Z = min (lz (l.drop p)) 21) (h : Ev (fun k => fin k (strOfNums l) (p : Int) (Z : Int)) R) :
    ∀ (d z : Nat), z + d = Z → Ev (fun k => spec_l03ReadUe.l0 k (strOfNums l) (p : Int) (z : Int)) R
  | 0, z, hz => by
    have hzz : z = Z := by omega
    subst hzz
    refine Ev.step (fun k => ?_) h
    have hle := lz_le (l.drop p)
    rw [List.length_drop] at hle
    simp only [spec_l03ReadUe.l0]
    unfold fin
    rw [w64 (x := (p : Int) + (z : Int)) (by omega) (by omega)]
    by_cases hlt : p + z < l.length
    · rw [if_pos (by rw [str_size]; omega), if_pos (by omega), bt_get hb (n := p + z) (by omega), ← getD_drop]
      by_cases h48 : (l.drop p).getD z 0 = 48
      · have : ¬ z < 21 := by
          intro h21
          have : z = lz (l.drop p) := by omega
          rw [this] at h48
          exact lz_stop _ (by rw [List.length_drop]; omega) h48
        rw [if_pos h48, if_neg (by omega)]
      · rw [if_neg h48]
    · rw [if_neg (by rw [str_size]; omega)]
  | d + 1, z, hz => by
    have ih := ue_count_spec hb hl hp hZ h d (z + 1) (by omega)
    refine Ev.step (fun k => ?_) ih
    have hle := lz_le (l.drop p)
    rw [List.length_drop] at hle
    simp only [spec_l03ReadUe.l0]
    rw [w64 (x := (p : Int) + (z : Int)) (by omega) (by omega), if_pos (by rw [str_size]; omega), if_pos (by omega), bt_get hb (n := p + z) (by omega), ← getD_drop, if_pos (lz_get _ z (by omega)), if_pos (by omega), w64 (by omega) (by omega)]
    rfl
/-- What a reading of the reference tells. -/
def told (o : Option (Nat × Nat)) : Int × Int × Bool := match o with | some (v, q) => ((v : Int), (q : Int), true) | none => (0, 0, false)
theorem spec_readue_ev {l : List Int} {p : Nat} (hb : Bys l) (hr : rowOk l = true) (hp : p ≤ l.length) : Ev (fun k => spec_l03ReadUe.f k (strOfNums l) (p : Int)) (told (rdUe l p)) := by
  have hl := rowOk_len hr
  have hle := lz_le (l.drop p)
  rw [List.length_drop] at hle
  have hm : ∀ x, x ∈ l.drop p → x = 48 ∨ x = 49 := fun x hx => rowOk_mem hr x (List.mem_of_mem_drop hx)
  refine ue_count_spec hb (by omega) hp rfl ?_ (min (lz (l.drop p)) 21) 0 (by omega)
  unfold fin
  rw [u64_val _ (by omega), shl_val _ (by omega), w64 (by omega) (by omega), w64 (by omega) (by omega)]
  by_cases h1 : lz (l.drop p) ≤ 20
  · rw [Nat.min_eq_left (by omega)]
    by_cases h2 : p + (2 * lz (l.drop p) + 1) ≤ l.length
    · have hbig := vb_big hm (lz (l.drop p)) (by rw [List.length_drop]; omega)
      have hts := take_split (l.drop p) (lz (l.drop p) + 1)
      rw [show lz (l.drop p) + (lz (l.drop p) + 1) = 2 * lz (l.drop p) + 1 by omega] at hts
      have heq : vb 0 ((l.drop p).take (2 * lz (l.drop p) + 1)) = vb 0 (((l.drop p).drop (lz (l.drop p))).take (lz (l.drop p) + 1)) := by rw [hts, vb_zeros]
      have hpos : (0 : Int) < 2 ^ lz (l.drop p) := Int.pow_pos (by decide)
      have hup : (2 : Int) ^ (lz (l.drop p) + 1) ≤ 2 ^ 60 := by
        have : (2 : Nat) ^ (lz (l.drop p) + 1) ≤ 2 ^ 60 := Nat.pow_le_pow_right (by decide) (by omega)
        exact_mod_cast this
      have hrd := read_yes hb hr (at_ := p + lz (l.drop p)) (w := lz (l.drop p) + 1) (by omega) (by omega)
      rw [List.drop_drop] at hbig heq
      refine Ev.bind (g := fun k => spec_l02Read.f k (strOfNums l) ((p : Int) + ((lz (l.drop p) : Nat) : Int)) (((lz (l.drop p) : Nat) : Int) + 1)) hrd ?_
      simp only [if_true]
      rw [if_pos (by omega), if_neg (by omega), w64 (by omega) (by omega)]
      by_cases h3 : vb 0 ((l.drop p).take (2 * lz (l.drop p) + 1)) - 1 ≤ 1000000
      · have e : told (rdUe l p) = (vb 0 ((l.drop p).take (2 * lz (l.drop p) + 1)) - 1, ((p + (2 * lz (l.drop p) + 1) : Nat) : Int), true) := by
          unfold rdUe told
          rw [if_pos ⟨h1, h2, h3⟩]
          simp only
          rw [Int.toNat_of_nonneg (by omega)]
        rw [e, if_neg (by omega), heq, show p + lz (l.drop p) + (lz (l.drop p) + 1) = p + (2 * lz (l.drop p) + 1) by omega]
        exact Ev.now _
      · have e : told (rdUe l p) = (0, 0, false) := by
          unfold rdUe told
          rw [if_neg (fun h => h3 h.2.2)]
        rw [e, if_pos (by omega)]
        exact Ev.now _
    · unfold rdUe told
      rw [if_neg (fun h => h2 h.2.1)]
      refine Ev.bind (g := fun k => spec_l02Read.f k (strOfNums l) ((p : Int) + ((lz (l.drop p) : Nat) : Int)) (((lz (l.drop p) : Nat) : Int) + 1)) (read_short (l := l) (at_ := p + lz (l.drop p)) (w := ((lz (l.drop p) + 1 : Nat) : Int)) (by omega) (by omega) (by omega)) ?_
      exact Ev.now _
  · have e : rdUe l p = none := by
      unfold rdUe
      rw [if_neg (fun h => h1 h.1)]
    rw [e, Nat.min_eq_right (by omega)]
    unfold told
    by_cases h2 : p + 43 ≤ l.length
    · have hrd := read_yes hb hr (at_ := p + 21) (w := 22) (by omega) (by decide)
      refine Ev.bind (g := fun k => spec_l02Read.f k (strOfNums l) ((p : Int) + ((21 : Nat) : Int)) (((21 : Nat) : Int) + 1)) hrd ?_
      simp only [if_true]
      rw [if_pos (by decide)]
      have hb2 := vb_bounds ((l.drop (p + 21)).take 22) 0 0 (fun x hx => rowOk_mem hr x (List.mem_of_mem_drop (List.mem_of_mem_take hx))) (by decide) (by decide)
      have hl22 : ((l.drop (p + 21)).take 22).length = 22 := by
        rw [List.length_take, List.length_drop]
        omega
      rw [hl22] at hb2
      by_cases h3 : vb 0 ((l.drop (p + 21)).take 22) < 2 ^ 21
      · rw [if_pos h3]
        exact Ev.now _
      · rw [if_neg h3, w64 (by omega) (by omega), if_pos (by omega)]
        exact Ev.now _
    · refine Ev.bind (g := fun k => spec_l02Read.f k (strOfNums l) ((p : Int) + ((21 : Nat) : Int)) (((21 : Nat) : Int) + 1)) (read_short (l := l) (at_ := p + 21) (w := 22) (by omega) (by omega) (by omega)) ?_
      exact Ev.now _
theorem within_yes {x lo hi : Int} (h0 : lo ≤ x) (h1 : x ≤ hi) : impl_within.f x lo hi = some true := by
  unfold impl_within.f
  rw [if_pos h0, decide_eq_true h1]
theorem within_no {x lo hi : Int} (h : ¬ (lo ≤ x ∧ x ≤ hi)) : impl_within.f x lo hi = some false := by
  unfold impl_within.f
  by_cases h0 : lo ≤ x
  · rw [if_pos h0, decide_eq_false (fun h1 => h ⟨h0, h1⟩)]
  · rw [if_neg h0]
theorem within_any (x lo hi : Int) : impl_within.f x lo hi = some (decide (lo ≤ x ∧ x ≤ hi)) := by
  by_cases h : lo ≤ x ∧ x ≤ hi
  · rw [within_yes h.1 h.2, decide_eq_true h]
  · rw [within_no h, decide_eq_false h]
theorem opened_ev {l : List Int} (hb : Bys l) (hl : l.length ≤ 1048576) (a : Int) : Ev (fun k => impl_opened.f k (strOfNums l) a) (strOfNums l, a, !(rowOk l && decide (0 ≤ a ∧ a ≤ (l.length : Int)))) := by
  unfold impl_opened.f
  refine Ev.bind (impl_rowok_ev hb hl) ?_
  cases h : rowOk l
  · exact Ev.now _
  · simp only [if_true, within_any, Option.bind_some, str_size, Bool.true_and]
    exact Ev.now _
theorem in_yes {x lo hi : Int} (h0 : lo ≤ x) (h1 : x ≤ hi) : spec_l01In.f x lo hi = some true := by
  unfold spec_l01In.f
  rw [if_pos h0, decide_eq_true h1]
theorem in_no {x lo hi : Int} (h : ¬ (lo ≤ x ∧ x ≤ hi)) : spec_l01In.f x lo hi = some false := by
  unfold spec_l01In.f
  by_cases h0 : lo ≤ x
  · rw [if_pos h0, decide_eq_false (fun h1 => h ⟨h0, h1⟩)]
  · rw [if_neg h0]
theorem in_any (x lo hi : Int) : spec_l01In.f x lo hi = some (decide (lo ≤ x ∧ x ≤ hi)) := by
  by_cases h : lo ≤ x ∧ x ≤ hi
  · rw [in_yes h.1 h.2, decide_eq_true h]
  · rw [in_no h, decide_eq_false h]
def inSide (x : Int) : Bool := decide (1 ≤ x ∧ x ≤ 8)
def sideOk (l : List Int) : Bool := decide (1 ≤ l.length ∧ l.length ≤ 4) && l.all inSide
def sumI : List Int → Int
  | [] => 0
  | x :: l => x + sumI l
/-- SquaresOf. -/
def sqv (c r : List Int) : Int := if sideOk c = true ∧ sideOk r = true then sumI c * sumI r else 0
def lvSq (n : Int) : Int := if n = 1 then 16 else if n = 2 then 64 else if n = 3 then 256 else 0
/-- SeqOk. -/
def seqOk (a b : Int) (c r : List Int) : Bool := decide (1 ≤ sqv c r ∧ sqv c r ≤ lvSq a) && decide (3 ≤ b ∧ b ≤ 8)
theorem sumI_bounds : ∀ l : List Int, l.all inSide = true → (l.length : Int) ≤ sumI l ∧ sumI l ≤ 8 * (l.length : Int)
  | [], _ => by simp [sumI]
  | x :: l, h => by
    rw [List.all_cons, Bool.and_eq_true] at h
    have hx : 1 ≤ x ∧ x ≤ 8 := of_decide_eq_true h.1
    have := sumI_bounds l h.2
    simp only [sumI, List.length_cons]
    omega
theorem sideOk_facts {l : List Int} (h : sideOk l = true) : 1 ≤ l.length ∧ l.length ≤ 4 ∧ l.all inSide = true ∧ 1 ≤ sumI l ∧ sumI l ≤ 32 := by
  unfold sideOk at h
  rw [Bool.and_eq_true] at h
  have h1 : 1 ≤ l.length ∧ l.length ≤ 4 := of_decide_eq_true h.1
  have := sumI_bounds l h.2
  exact ⟨h1.1, h1.2, h.2, by omega, by omega⟩
theorem sqv_bounds (c r : List Int) : 0 ≤ sqv c r ∧ sqv c r ≤ 1024 := by
  unfold sqv
  split
  · rename_i h
    obtain ⟨_, _, _, h1, h2⟩ := sideOk_facts h.1
    obtain ⟨_, _, _, h3, h4⟩ := sideOk_facts h.2
    have e1 : 0 ≤ sumI c * sumI r := Int.mul_nonneg (by omega) (by omega)
    have e2 : sumI c * sumI r ≤ 32 * 32 := Int.mul_le_mul h2 h4 (by omega) (by decide)
    exact ⟨e1, by omega⟩
  · exact ⟨by decide, by decide⟩
theorem seqOk_facts {a b : Int} {c r : List Int} (h : seqOk a b c r = true) : sideOk c = true ∧ sideOk r = true ∧ 1 ≤ a ∧ a ≤ 3 ∧ 3 ≤ b ∧ b ≤ 8 ∧ sqv c r = sumI c * sumI r := by
  unfold seqOk at h
  rw [Bool.and_eq_true] at h
  have h1 : 1 ≤ sqv c r ∧ sqv c r ≤ lvSq a := of_decide_eq_true h.1
  have h2 : 3 ≤ b ∧ b ≤ 8 := of_decide_eq_true h.2
  have h3 : 1 ≤ a ∧ a ≤ 3 := by
    have := h1.2
    unfold lvSq at this
    split at this
    · omega
    · split at this
      · omega
      · split at this <;> omega
  have h4 : sideOk c = true ∧ sideOk r = true := by
    by_cases h5 : sideOk c = true ∧ sideOk r = true
    · exact h5
    · have e : sqv c r = 0 := by unfold sqv; rw [if_neg h5]
      omega
  exact ⟨h4.1, h4.2, h3.1, h3.2, h2.1, h2.2, by unfold sqv; rw [if_pos h4]⟩
theorem spec_sum_loop : ∀ (suf pre : List Int) (acc : Int), (pre ++ suf).length ≤ 4 → 0 ≤ acc → acc ≤ 8 * (pre.length : Int) →
    Ev (fun k => spec_l05Sum.l0 k (pre ++ suf) acc (pre.length : Int)) (if suf.all inSide = true then acc + sumI suf else 0)
  | [], pre, acc, hl, h0, h1 => by
    refine Ev.step (f := fun _ => some acc) (fun k => ?_) (by simp only [List.all_nil, if_true, sumI, Int.add_zero]; exact Ev.now _)
    simp only [spec_l05Sum.l0, List.append_nil]
    rw [if_neg (by omega)]
  | x :: suf, pre, acc, hl, h0, h1 => by
    have hl' : pre.length + (suf.length + 1) ≤ 4 := by simpa using hl
    by_cases hx : 1 ≤ x ∧ x ≤ 8
    · have ih := spec_sum_loop suf (pre ++ [x]) (acc + x) (by rw [← snoc_cons]; exact hl) (by omega) (by simp; omega)
      rw [← snoc_cons] at ih
      have e : (if (x :: suf).all inSide = true then acc + sumI (x :: suf) else 0) = (if suf.all inSide = true then acc + x + sumI suf else 0) := by
        rw [List.all_cons, show inSide x = true from decide_eq_true hx, Bool.true_and, sumI, Int.add_assoc]
      rw [e]
      refine Ev.step (fun k => ?_) ih
      simp only [spec_l05Sum.l0]
      rw [if_pos (by simp; omega), if_pos (by omega), rd_mid, in_yes hx.1 hx.2]
      simp only [Option.bind_some, if_true]
      rw [w64 (x := acc + x) (by omega) (by omega), next_len pre x (by omega)]
    · have e : (if (x :: suf).all inSide = true then acc + sumI (x :: suf) else 0) = 0 := by
        rw [List.all_cons, show inSide x = false from decide_eq_false hx, Bool.false_and]
        rfl
      rw [e]
      refine Ev.step (f := fun _ => some 0) (fun k => ?_) (Ev.now _)
      simp only [spec_l05Sum.l0]
      rw [if_pos (by simp; omega), if_pos (by omega), rd_mid, in_no hx]
      rfl
theorem spec_sum_ev (l : List Int) : Ev (fun k => spec_l05Sum.f k l) (if sideOk l = true then sumI l else 0) := by
  unfold spec_l05Sum.f sideOk
  by_cases h : 1 ≤ l.length ∧ l.length ≤ 4
  · simp only [if_neg (show ¬ (l.length : Int) < 1 by omega), decide_eq_true h, Bool.true_and, decide_eq_false (show ¬ (l.length : Int) > 4 by omega)]
    have := spec_sum_loop l [] 0 h.2 (by decide) (by decide)
    rw [Int.zero_add] at this
    refine Ev.step (fun k => ?_) this
    simp only [spec_l05Sum.j0, Bool.false_eq_true, if_false]
    rfl
  · have no : Ev (fun k => spec_l05Sum.j0 k l true) 0 := Ev.step (f := fun _ => some 0) (fun k => by simp only [spec_l05Sum.j0, if_true]) (Ev.now _)
    rw [decide_eq_false h, Bool.false_and]
    by_cases h1 : (l.length : Int) < 1
    · simp only [if_pos h1, Bool.false_eq_true, if_false]
      exact no
    · simp only [if_neg h1, Bool.false_eq_true, if_false, decide_eq_true (show (l.length : Int) > 4 by omega)]
      exact no
theorem spec_sq_ev (a b : Int) (c r : List Int) : Ev (fun k => spec_SquaresOf.f k a b c r) (sqv c r) := by
  unfold spec_SquaresOf.f
  refine Ev.bind (spec_sum_ev c) (Ev.bind (spec_sum_ev r) ?_)
  have hb := sqv_bounds c r
  have e : (if sideOk c = true then sumI c else 0) * (if sideOk r = true then sumI r else 0) = sqv c r := by
    unfold sqv
    cases sideOk c <;> cases sideOk r <;> simp
  rw [e, w64 (by omega) (by omega)]
  exact Ev.now _
theorem spec_lv (n : Int) : spec_LevelSquares.f n = some (lvSq n) := by
  unfold spec_LevelSquares.f lvSq
  split
  · rfl
  · split
    · rfl
    · split <;> rfl
theorem spec_seqok_ev (a b : Int) (c r : List Int) : Ev (fun k => spec_SeqOk.f k a b c r) (seqOk a b c r) := by
  unfold spec_SeqOk.f seqOk
  refine Ev.bind (spec_sq_ev a b c r) ?_
  simp only [spec_lv, Option.bind_some, in_any]
  by_cases h : 1 ≤ sqv c r ∧ sqv c r ≤ lvSq a
  · simp only [decide_eq_true h, if_true, Bool.true_and]
    exact Ev.now _
  · simp only [decide_eq_false h, Bool.false_eq_true, if_false, Bool.false_and]
    exact Ev.now _
theorem sumOf_loop : ∀ (suf pre : List Int) (acc : Int), (pre ++ suf).length ≤ 4 → suf.all inSide = true → 0 ≤ acc → acc ≤ 8 * (pre.length : Int) →
    Ev (fun k => impl_sumOf.l0 k acc (pre ++ suf) ((pre ++ suf).length : Int) (pre.length : Int)) (acc + sumI suf)
  | [], pre, acc, hl, _, h0, h1 => by
    refine Ev.step (f := fun _ => some acc) (fun k => ?_) (by simp only [sumI, Int.add_zero]; exact Ev.now _)
    simp only [impl_sumOf.l0, List.append_nil]
    rw [if_neg (by omega)]
  | x :: suf, pre, acc, hl, ha, h0, h1 => by
    have hl' : pre.length + (suf.length + 1) ≤ 4 := by simpa using hl
    rw [List.all_cons, Bool.and_eq_true] at ha
    have hx : 1 ≤ x ∧ x ≤ 8 := of_decide_eq_true ha.1
    have ih := sumOf_loop suf (pre ++ [x]) (acc + x) (by rw [← snoc_cons]; exact hl) ha.2 (by omega) (by simp; omega)
    rw [← snoc_cons] at ih
    rw [sumI, ← Int.add_assoc]
    refine Ev.step (fun k => ?_) ih
    simp only [impl_sumOf.l0]
    rw [if_pos (by simp; omega), if_pos (by omega), if_pos (by simp; omega), rd_mid, w64 (x := acc + x) (by omega) (by omega), next_len pre x (by omega)]
theorem sumOf_ev {l : List Int} (h : sideOk l = true) : Ev (fun k => impl_sumOf.f k l) (sumI l) := by
  obtain ⟨_, h1, h2, _⟩ := sideOk_facts h
  have := sumOf_loop l [] 0 h1 h2 (by decide) (by decide)
  rw [Int.zero_add] at this
  exact this
theorem sq_inner {c r : List Int} {a b : Int} {j : Int} {R : Int} : ∀ (suf pre : List Int), (pre ++ suf).length ≤ 4 → (suf.all inSide = true → Ev (fun k => impl_SquaresOf.l0 k [c, r] 2 (wrap64 (j + 1)) a b c r) R) →
    Ev (fun k => impl_SquaresOf.l1 k [c, r] 2 j (pre ++ suf) ((pre ++ suf).length : Int) (pre.length : Int) a b c r) (if suf.all inSide = true then R else 0)
  | [], pre, hl, h => by
    have h' := h rfl
    simp only [List.all_nil, if_true]
    refine Ev.step (fun k => ?_) h'
    simp only [impl_SquaresOf.l1, List.append_nil]
    rw [if_neg (by omega)]
  | x :: suf, pre, hl, h => by
    have hl' : pre.length + (suf.length + 1) ≤ 4 := by simpa using hl
    by_cases hx : 1 ≤ x ∧ x ≤ 8
    · have hxs : inSide x = true := decide_eq_true hx
      have ih := sq_inner suf (pre ++ [x]) (by rw [← snoc_cons]; exact hl) (fun hs => h (by rw [List.all_cons, hxs, hs]; rfl))
      rw [← snoc_cons] at ih
      rw [List.all_cons, hxs, Bool.true_and]
      refine Ev.step (fun k => ?_) ih
      simp only [impl_SquaresOf.l1]
      rw [if_pos (by simp; omega), if_pos (by omega), if_pos (by simp; omega), rd_mid, within_yes hx.1 hx.2]
      simp only [Option.bind_some, if_true]
      rw [next_len pre x (by omega)]
    · rw [List.all_cons, show inSide x = false from decide_eq_false hx, Bool.false_and]
      simp only [Bool.false_eq_true, if_false]
      refine Ev.step (f := fun _ => some 0) (fun k => ?_) (Ev.now _)
      simp only [impl_SquaresOf.l1]
      rw [if_pos (by simp; omega), if_pos (by omega), if_pos (by simp; omega), rd_mid, within_no hx]
      rfl
theorem sq_round {c r t : List Int} {a b : Int} {j : Int} {R : Int} (h0 : 0 ≤ j) (h2 : j < 2) (ht : rd_L1 [c, r] j = t) (h : sideOk t = true → Ev (fun k => impl_SquaresOf.l0 k [c, r] 2 (wrap64 (j + 1)) a b c r) R) :
    Ev (fun k => impl_SquaresOf.l0 k [c, r] 2 j a b c r) (if sideOk t = true then R else 0) := by
  by_cases hlen : 1 ≤ t.length ∧ t.length ≤ 4
  · have e : (if sideOk t = true then R else 0) = (if t.all inSide = true then R else 0) := by
      unfold sideOk
      rw [decide_eq_true hlen, Bool.true_and]
    rw [e]
    have hi := sq_inner (c := c) (r := r) (a := a) (b := b) (j := j) (R := R) t [] hlen.2 (fun hs => h (by unfold sideOk; rw [decide_eq_true hlen, hs]; rfl))
    refine Ev.step (fun k => ?_) hi
    simp only [impl_SquaresOf.l0]
    rw [if_pos h2, if_pos h0, if_pos (by simpa using h2), ht, within_yes (by omega) (by omega)]
    rfl
  · have e : (if sideOk t = true then R else 0) = 0 := by
      unfold sideOk
      rw [decide_eq_false hlen, Bool.false_and]
      rfl
    rw [e]
    refine Ev.step (f := fun _ => some 0) (fun k => ?_) (Ev.now _)
    simp only [impl_SquaresOf.l0]
    rw [if_pos h2, if_pos h0, if_pos (by simpa using h2), ht, within_no (by omega)]
    rfl
theorem impl_sq_ev (a b : Int) (c r : List Int) : Ev (fun k => impl_SquaresOf.f k a b c r) (sqv c r) := by
  have e : sqv c r = if sideOk c = true then (if sideOk r = true then sumI c * sumI r else 0) else 0 := by
    unfold sqv
    cases sideOk c <;> cases sideOk r <;> simp
  have hb := sqv_bounds c r
  unfold impl_SquaresOf.f
  simp only [Option.bind_some]
  rw [e]
  refine sq_round (by decide) (by decide) rfl (fun h1 => ?_)
  rw [show wrap64 (0 + 1) = 1 from w64 (by decide) (by decide)]
  refine sq_round (by decide) (by decide) rfl (fun h2 => ?_)
  rw [show wrap64 (1 + 1) = 2 from w64 (by decide) (by decide)]
  rw [e, if_pos h1, if_pos h2] at hb
  refine Ev.step (f := fun k => (impl_sumOf.f k c).bind fun x => (impl_sumOf.f k r).bind fun y => some (wrap64 (x * y))) (fun k => ?_) (Ev.bind (sumOf_ev h1) (Ev.bind (sumOf_ev h2) ?_))
  · simp only [impl_SquaresOf.l0]
    rw [if_neg (by decide)]
  · rw [w64 (by omega) (by omega)]
    exact Ev.now _
theorem impl_lv (n : Int) : impl_LevelSquares.f n = some (lvSq n) := by
  by_cases h : 1 ≤ n ∧ n ≤ 3
  · obtain rfl | rfl | rfl : n = 1 ∨ n = 2 ∨ n = 3 := by omega
    all_goals decide +kernel
  · unfold impl_LevelSquares.f lvSq
    rw [within_no h, if_neg (by omega), if_neg (by omega), if_neg (by omega)]
    rfl
theorem impl_seqok_ev (a b : Int) (c r : List Int) : Ev (fun k => impl_SeqOk.f k a b c r) (seqOk a b c r) := by
  unfold impl_SeqOk.f seqOk
  refine Ev.bind (impl_sq_ev a b c r) ?_
  simp only [impl_lv, Option.bind_some, within_any]
  by_cases h : 1 ≤ sqv c r ∧ sqv c r ≤ lvSq a
  · simp only [decide_eq_true h, if_true, Bool.true_and]
    exact Ev.now _
  · simp only [decide_eq_false h, Bool.false_eq_true, if_false, Bool.false_and]
    exact Ev.now _
theorem set_mid (pre zs : List Int) (y x : Int) : (pre ++ y :: zs).set pre.length x = (pre ++ [x]) ++ zs := by
  rw [List.set_append_right _ _ (Nat.le_refl _)]
  simp
/-- The numbers n, n + 1, .. -/
def marks : Int → Nat → List Int
  | _, 0 => []
  | n, d + 1 => n :: marks (n + 1) d
theorem marks_len : ∀ (d : Nat) (n : Int), (marks n d).length = d
  | 0, _ => rfl
  | d + 1, n => by simp only [marks, List.length_cons, marks_len d (n + 1)]
theorem markInts_loop : ∀ (suf pre : List Int) (n : Int), (pre ++ suf).length ≤ 1048576 → 0 ≤ n → n + (suf.length : Int) ≤ 4000000 → Ev (fun k => laws_markIntS.l0 k (pre ++ suf) n (pre.length : Int)) (n + (suf.length : Int), pre ++ marks n suf.length)
  | [], pre, n, hl, _, _ => by
    refine Ev.step (f := fun _ => some (n, pre)) (fun k => ?_) (by simp only [marks, List.append_nil, List.length_nil, Int.ofNat_zero, Int.add_zero]; exact Ev.now _)
    simp only [laws_markIntS.l0, List.append_nil]
    rw [if_neg (by omega)]
  | x :: suf, pre, n, hl, h0, hn => by
    have hl' : pre.length + (suf.length + 1) ≤ 1048576 := by simpa using hl
    have hn' : n + ((suf.length : Int) + 1) ≤ 4000000 := by simpa using hn
    have ih := markInts_loop suf (pre ++ [n]) (n + 1) (by simp; omega) (by omega) (by omega)
    refine Ev.step (f := fun k => laws_markIntS.l0 k ((pre ++ [n]) ++ suf) (n + 1) ((pre ++ [n]).length : Int)) (fun k => ?_) ?_
    · simp only [laws_markIntS.l0]
      rw [if_pos (by simp; omega), if_pos (by omega), Int.toNat_natCast, set_mid, w64 (x := n + 1) (by omega) (by omega), next_len pre n (by omega)]
    · have e : n + (((x :: suf).length : Nat) : Int) = n + 1 + (suf.length : Int) := by simp only [List.length_cons]; omega
      rw [e, show pre ++ marks n (x :: suf).length = (pre ++ [n]) ++ marks (n + 1) suf.length by simp [marks]]
      exact ih
theorem markInts_ev {l : List Int} {n : Int} (hl : l.length ≤ 1048576) (h0 : 0 ≤ n) (hn : n + (l.length : Int) ≤ 4000000) : Ev (fun k => laws_markIntS.f k l n) (n + (l.length : Int), marks n l.length) := by
  unfold laws_markIntS.f
  exact markInts_loop l [] n hl h0 hn
theorem heldInts_loop : ∀ (d : Nat) (pre : List Int) (n : Int), pre.length + d ≤ 1048576 → 0 ≤ n → n + (d : Int) ≤ 4000000 → Ev (fun k => laws_heldIntS.l0 k (pre ++ marks n d) n (pre.length : Int)) (n + (d : Int))
  | 0, pre, n, hl, _, _ => by
    refine Ev.step (f := fun _ => some n) (fun k => ?_) (by rw [show n + ((0 : Nat) : Int) = n by omega]; exact Ev.now _)
    simp only [laws_heldIntS.l0, marks, List.append_nil]
    rw [if_neg (by omega)]
  | d + 1, pre, n, hl, h0, hn => by
    have ih := heldInts_loop d (pre ++ [n]) (n + 1) (by simp; omega) (by omega) (by omega)
    rw [List.append_assoc, List.singleton_append] at ih
    have hm := marks_len d (n + 1)
    show Ev (fun k => laws_heldIntS.l0 k (pre ++ n :: marks (n + 1) d) n (pre.length : Int)) (n + ((d + 1 : Nat) : Int))
    refine Ev.step (f := fun k => laws_heldIntS.l0 k (pre ++ n :: marks (n + 1) d) (n + 1) ((pre ++ [n]).length : Int)) (fun k => ?_) ?_
    · simp only [laws_heldIntS.l0]
      rw [if_pos (by rw [List.length_append, List.length_cons]; omega), if_pos (by omega), rd_mid, if_pos rfl, w64 (x := n + 1) (by omega) (by omega), next_len pre n (by omega)]
    · rw [show n + ((d + 1 : Nat) : Int) = n + 1 + (d : Int) by omega]
      exact ih
theorem heldInts_ev {d : Nat} {n : Int} (hl : d ≤ 1048576) (h0 : 0 ≤ n) (hn : n + (d : Int) ≤ 4000000) : Ev (fun k => laws_heldIntS.f k (marks n d) n) (n + (d : Int)) := by
  unfold laws_heldIntS.f
  exact heldInts_loop d [] n (by simpa using hl) h0 hn
theorem eqInts_loop : ∀ (suf pre : List Int), (pre ++ suf).length ≤ 1048576 → Ev (fun k => laws_eqIntS.l0 k (pre ++ suf) (pre ++ suf) (pre.length : Int)) true
  | [], pre, hl => by
    refine Ev.step (f := fun _ => some true) (fun k => ?_) (Ev.now _)
    simp only [laws_eqIntS.l0, List.append_nil]
    rw [if_neg (by omega)]
  | x :: suf, pre, hl => by
    have hl' : pre.length + (suf.length + 1) ≤ 1048576 := by simpa using hl
    have ih := eqInts_loop suf (pre ++ [x]) (by rw [← snoc_cons]; exact hl)
    rw [← snoc_cons] at ih
    refine Ev.step (fun k => ?_) ih
    simp only [laws_eqIntS.l0]
    rw [if_pos (by simp; omega), if_pos (by omega), if_pos (by simp; omega), next_len pre x (by omega)]
    exact if_pos trivial
theorem eqInts_ev {l : List Int} (hl : l.length ≤ 1048576) : Ev (fun k => laws_eqIntS.f k l l) true := by
  have h := eqInts_loop l [] hl
  simp only [List.nil_append] at h
  refine Ev.congr (fun k => ?_) h
  unfold laws_eqIntS.f
  rw [if_pos rfl]
  rfl
theorem eqSeq_ev {a b : Int} {c r : List Int} (hc : c.length ≤ 1048576) (hr : r.length ≤ 1048576) : Ev (fun k => laws_eqSeq.f k a b c r a b c r) true := by
  unfold laws_eqSeq.f
  simp only [if_true]
  refine Ev.bind (eqInts_ev hc) ?_
  simp only [if_true]
  refine Ev.bind (eqInts_ev hr) ?_
  simp only [if_true]
  exact Ev.now _
def toldList (o : Option (List Int × Nat)) : List Int × Int × Bool := match o with | some (xs, q) => (xs, (q : Int), true) | none => ([], 0, false)
theorem spec_many {l : List Int} (hb : Bys l) (hr : rowOk l = true) : ∀ (d p i n : Nat) (acc : List Int), p ≤ l.length → i + d = n → n ≤ 4 → acc.length = i → Ev (fun k => spec_l05ReadList.l0 k (strOfNums l) acc (n : Int) (p : Int) (i : Int)) (toldList (rdMany l d p acc))
  | 0, p, i, n, acc, hp, hi, hn, ha => by
    refine Ev.step (f := fun _ => some (acc, (p : Int), true)) (fun k => ?_) (Ev.now _)
    simp only [spec_l05ReadList.l0]
    rw [if_neg (by omega)]
  | d + 1, p, i, n, acc, hp, hi, hn, ha => by
    have hs := spec_readue_ev hb hr hp
    refine Ev.step (f := fun k => (spec_l03ReadUe.f k (strOfNums l) (p : Int)).bind fun b => (if b.2.2 = true then (spec_l05ReadList.l0 k (strOfNums l) (acc ++ [b.1]) (n : Int) b.2.1 ((i + 1 : Nat) : Int)) else (some ([], 0, false)))) (fun k => ?_) ?_
    · simp only [spec_l05ReadList.l0]
      rw [if_pos (by omega), w64 (x := (i : Int) + 1) (by omega) (by omega)]
      simp only [if_pos (show acc.length < 17592186044416 by omega)]
      rfl
    · refine Ev.bind hs ?_
      unfold rdMany
      cases e : rdUe l p with
      | none =>
        simp only [told, toldList, Bool.false_eq_true, if_false]
        exact Ev.now _
      | some u =>
        obtain ⟨v, q⟩ := u
        have hq := rdUe_bounds e
        simp only [told, if_true]
        exact spec_many hb hr d q (i + 1) n (acc ++ [(v : Int)]) hq.2.2 (by omega) hn (by simp; omega)
theorem spec_list {l : List Int} {p : Nat} (hb : Bys l) (hr : rowOk l = true) (hp : p ≤ l.length) : Ev (fun k => spec_l05ReadList.f k (strOfNums l) (p : Int)) (toldList (rdList l p)) := by
  unfold spec_l05ReadList.f rdList
  simp only [Option.bind_some]
  refine Ev.bind (spec_readue_ev hb hr hp) ?_
  cases e : rdUe l p with
  | none =>
    simp only [told, toldList, Bool.false_eq_true, if_false]
    refine Ev.step (f := fun _ => some ([], 0, false)) (fun k => ?_) (Ev.now _)
    simp only [spec_l05ReadList.j0, if_true]
  | some u =>
    obtain ⟨n, q⟩ := u
    have hq := rdUe_bounds e
    show Ev (fun k => if true = true then spec_l05ReadList.j0 k (strOfNums l) [] (n : Int) (q : Int) (decide ((n : Int) > 4)) else spec_l05ReadList.j0 k (strOfNums l) [] (n : Int) (q : Int) true) (toldList (if n ≤ 4 then rdMany l n q [] else none))
    simp only [if_true]
    by_cases h4 : n ≤ 4
    · rw [if_pos h4, decide_eq_false (by omega)]
      refine Ev.step (f := fun k => spec_l05ReadList.l0 k (strOfNums l) [] (n : Int) (q : Int) ((0 : Nat) : Int)) (fun k => ?_) (spec_many hb hr n q 0 n [] hq.2.2 (by omega) h4 rfl)
      simp only [spec_l05ReadList.j0, Bool.false_eq_true, if_false]
      rfl
    · rw [if_neg h4, decide_eq_true (by omega)]
      refine Ev.step (f := fun _ => some ([], 0, false)) (fun k => ?_) (Ev.now _)
      simp only [spec_l05ReadList.j0, if_true]
theorem scan_stop (acc : List Int) (n i : Int) (s : ByteArray) (p : Int) : Ev (fun k => impl_scan_list.l0 k acc n i s p true) (acc, s, p, true) := by
  refine Ev.step (f := fun _ => some (acc, s, p, true)) (fun k => ?_) (Ev.now _)
  simp only [impl_scan_list.l0, if_true, ite_self]
theorem scan_many_some {l : List Int} (hb : Bys l) (hr : rowOk l = true) : ∀ (d p i n q : Nat) (acc xs : List Int), p ≤ l.length → i + d = n → n ≤ 4 → acc.length = i → rdMany l d p acc = some (xs, q) → Ev (fun k => impl_scan_list.l0 k acc (n : Int) (i : Int) (strOfNums l) (p : Int) false) (xs, strOfNums l, (q : Int), false)
  | 0, p, i, n, q, acc, xs, hp, hi, hn, ha, h => by
    simp only [rdMany, Option.some.injEq, Prod.mk.injEq] at h
    obtain ⟨rfl, rfl⟩ := h
    refine Ev.step (f := fun _ => some (acc, strOfNums l, (p : Int), false)) (fun k => ?_) (Ev.now _)
    simp only [impl_scan_list.l0]
    rw [if_neg (by omega)]
  | d + 1, p, i, n, q, acc, xs, hp, hi, hn, ha, h => by
    unfold rdMany at h
    cases e : rdUe l p with
    | none => rw [e] at h; cases h
    | some u =>
      obtain ⟨v, q'⟩ := u
      rw [e] at h
      have hq := rdUe_bounds e
      have hs := scan_ue_some hb hr hp e
      refine Ev.step (f := fun k => (impl_scan_ue.f k (strOfNums l) (p : Int) false).bind fun b => impl_scan_list.l0 k (acc ++ [b.1]) (n : Int) ((i + 1 : Nat) : Int) b.2.1 b.2.2.1 b.2.2.2) (fun k => ?_) ?_
      · simp only [impl_scan_list.l0, Bool.false_eq_true, if_false]
        rw [if_pos (by omega), w64 (x := (i : Int) + 1) (by omega) (by omega)]
        simp only [if_pos (show acc.length < 17592186044416 by omega)]
        rfl
      · exact Ev.bind hs (scan_many_some hb hr d q' (i + 1) n q (acc ++ [(v : Int)]) xs hq.2.2 (by omega) hn (by simp; omega) h)
theorem scan_many_none {l : List Int} (hb : Bys l) (hr : rowOk l = true) : ∀ (d p i n : Nat) (acc : List Int), p ≤ l.length → i + d = n → n ≤ 4 → acc.length = i → rdMany l d p acc = none → ∃ xs q, Ev (fun k => impl_scan_list.l0 k acc (n : Int) (i : Int) (strOfNums l) (p : Int) false) (xs, strOfNums l, q, true)
  | 0, p, i, n, acc, hp, hi, hn, ha, h => by simp only [rdMany, reduceCtorEq] at h
  | d + 1, p, i, n, acc, hp, hi, hn, ha, h => by
    have hstep : ∀ R, Ev (fun k => (impl_scan_ue.f k (strOfNums l) (p : Int) false).bind fun b => impl_scan_list.l0 k (acc ++ [b.1]) (n : Int) ((i + 1 : Nat) : Int) b.2.1 b.2.2.1 b.2.2.2) R → Ev (fun k => impl_scan_list.l0 k acc (n : Int) (i : Int) (strOfNums l) (p : Int) false) R := by
      intro R hR
      refine Ev.step (f := fun k => (impl_scan_ue.f k (strOfNums l) (p : Int) false).bind fun b => impl_scan_list.l0 k (acc ++ [b.1]) (n : Int) ((i + 1 : Nat) : Int) b.2.1 b.2.2.1 b.2.2.2) (fun k => ?_) hR
      simp only [impl_scan_list.l0, Bool.false_eq_true, if_false]
      rw [if_pos (by omega), w64 (x := (i : Int) + 1) (by omega) (by omega)]
      simp only [if_pos (show acc.length < 17592186044416 by omega)]
      rfl
    unfold rdMany at h
    cases e : rdUe l p with
    | none =>
      obtain ⟨q, hq⟩ := scan_ue_none hb hr hp e
      exact ⟨acc ++ [0], q, hstep _ (Ev.bind hq (scan_stop _ _ _ _ _))⟩
    | some u =>
      obtain ⟨v, q'⟩ := u
      rw [e] at h
      have hq := rdUe_bounds e
      obtain ⟨xs, q, hx⟩ := scan_many_none hb hr d q' (i + 1) n (acc ++ [(v : Int)]) hq.2.2 (by omega) hn (by simp; omega) h
      exact ⟨xs, q, hstep _ (Ev.bind (scan_ue_some hb hr hp e) hx)⟩
theorem scan_list_some {l : List Int} {p q : Nat} {xs : List Int} (hb : Bys l) (hr : rowOk l = true) (hp : p ≤ l.length) (h : rdList l p = some (xs, q)) : Ev (fun k => impl_scan_list.f k (strOfNums l) (p : Int) false) (xs, strOfNums l, (q : Int), false) := by
  unfold impl_scan_list.f
  simp only [Option.bind_some]
  unfold rdList at h
  cases e : rdUe l p with
  | none => rw [e] at h; cases h
  | some u =>
    obtain ⟨n, q'⟩ := u
    rw [e] at h
    dsimp only at h
    split at h
    · rename_i h4
      have hq := rdUe_bounds e
      refine Ev.bind (scan_ue_some hb hr hp e) ?_
      simp only [if_neg (show ¬ ((n : Int) > 4) by omega)]
      refine Ev.step (f := fun k => impl_scan_list.l0 k [] (n : Int) ((0 : Nat) : Int) (strOfNums l) (q' : Int) false) (fun k => ?_) (scan_many_some hb hr n q' 0 n q [] xs hq.2.2 (by omega) h4 rfl h)
      simp only [impl_scan_list.j0]
      rfl
    · cases h
theorem scan_list_none {l : List Int} {p : Nat} (hb : Bys l) (hr : rowOk l = true) (hp : p ≤ l.length) (h : rdList l p = none) : ∃ xs q, Ev (fun k => impl_scan_list.f k (strOfNums l) (p : Int) false) (xs, strOfNums l, q, true) := by
  unfold impl_scan_list.f
  simp only [Option.bind_some]
  unfold rdList at h
  cases e : rdUe l p with
  | none =>
    obtain ⟨q, hq⟩ := scan_ue_none hb hr hp e
    refine ⟨[], q, Ev.bind hq ?_⟩
    simp only [if_neg (show ¬ ((0 : Int) > 4) by omega)]
    refine Ev.step (f := fun k => impl_scan_list.l0 k [] 0 0 (strOfNums l) q true) (fun k => ?_) (scan_stop _ _ _ _ _)
    simp only [impl_scan_list.j0]
  | some u =>
    obtain ⟨n, q'⟩ := u
    rw [e] at h
    dsimp only at h
    have hq := rdUe_bounds e
    split at h
    · rename_i h4
      obtain ⟨xs, q, hx⟩ := scan_many_none hb hr n q' 0 n [] hq.2.2 (by omega) h4 rfl h
      refine ⟨xs, q, Ev.bind (scan_ue_some hb hr hp e) ?_⟩
      simp only [if_neg (show ¬ ((n : Int) > 4) by omega)]
      refine Ev.step (f := fun k => impl_scan_list.l0 k [] (n : Int) ((0 : Nat) : Int) (strOfNums l) (q' : Int) false) (fun k => ?_) hx
      simp only [impl_scan_list.j0]
      rfl
    · rename_i h4
      refine ⟨[], (q' : Int), Ev.bind (scan_ue_some hb hr hp e) ?_⟩
      simp only [if_pos (show ((n : Int) > 4) by omega)]
      refine Ev.step (f := fun k => impl_scan_list.l0 k [] (n : Int) 0 (strOfNums l) (q' : Int) true) (fun k => ?_) (scan_stop _ _ _ _ _)
      simp only [impl_scan_list.j0]
theorem scan_list_bad (s : ByteArray) (p : Int) : Ev (fun k => impl_scan_list.f k s p true) ([], s, p, true) := by
  unfold impl_scan_list.f
  simp only [Option.bind_some]
  refine Ev.bind (scan_ue_bad _ _) ?_
  simp only [if_neg (show ¬ ((0 : Int) > 4) by omega)]
  refine Ev.step (f := fun k => impl_scan_list.l0 k [] 0 0 s p true) (fun k => ?_) (scan_stop _ _ _ _ _)
  simp only [impl_scan_list.j0]
/-- What the program does, the row opened. -/
def implRest (k : Nat) (s : ByteArray) (p : Int) (w : Bool) : Option (Int × Int × List Int × List Int × Int × Bool) :=
  (impl_scan_ue.f k s p w).bind fun b1 => ((impl_scan_fix.f k b1.2.1 b1.2.2.1 b1.2.2.2 4).bind fun b2 => ((impl_scan_list.f k b2.2.1 b2.2.2.1 b2.2.2.2).bind fun b3 => ((impl_scan_list.f k b3.2.1 b3.2.2.1 b3.2.2.2).bind fun b4 => (if b4.2.2.2 = true then (some (0, 0, ([] : List Int), ([] : List Int), 0, false)) else ((impl_SeqOk.f k b1.1 b2.1 b3.1 b4.1).bind fun t => (if t = true then (some (b1.1, b2.1, b3.1, b4.1, b4.2.2.1, true)) else (some (0, 0, ([] : List Int), ([] : List Int), 0, false))))))))
theorem rest_bad (s : ByteArray) (p : Int) : Ev (fun k => implRest k s p true) (0, 0, [], [], 0, false) := by
  unfold implRest
  refine Ev.bind (scan_ue_bad _ _) (Ev.bind (scan_fix_bad _ _ _) (Ev.bind (scan_list_bad _ _) (Ev.bind (scan_list_bad _ _) ?_)))
  simp only [if_true]
  exact Ev.now _
theorem seqread_ev {l : List Int} {p : Nat} (hb : Bys l) (hr : rowOk l = true) (hp : p ≤ l.length) :
    ∃ v : Int × Int × List Int × List Int × Int × Bool, (v.2.2.1.length ≤ 4 ∧ v.2.2.2.1.length ≤ 4) ∧ Ev (fun k => spec_l05ReadSeq.f k (strOfNums l) (p : Int)) v ∧ Ev (fun k => implRest k (strOfNums l) (p : Int) false) v := by
  have hl4 := rowOk_len hr
  have hl : l.length ≤ 1048576 := by omega
  have hs1 := spec_readue_ev hb hr hp
  unfold spec_l05ReadSeq.f implRest
  have z : (0 : Nat) ≤ 4 := by decide
  cases e1 : rdUe l p with
  | none =>
    rw [e1] at hs1
    obtain ⟨p1, hp1⟩ := scan_ue_none hb hr hp e1
    refine ⟨(0, 0, [], [], 0, false), ⟨z, z⟩, Ev.bind hs1 ?_, Ev.bind hp1 (Ev.bind (scan_fix_bad _ _ _) (Ev.bind (scan_list_bad _ _) (Ev.bind (scan_list_bad _ _) ?_)))⟩
    · simp only [told, Bool.false_eq_true, if_false]
      exact Ev.now _
    · simp only [if_true]
      exact Ev.now _
  | some u =>
    obtain ⟨a, p1⟩ := u
    rw [e1] at hs1
    have k1 := rdUe_bounds e1
    have hi1 := scan_ue_some hb hr hp e1
    by_cases hw : p1 + 4 ≤ l.length
    · have hs2 := read_yes hb hr hw (show 4 ≤ 60 by decide)
      have hi2 := scan_fix_yes hb hr hw (show 4 ≤ 60 by decide)
      have hs3 := spec_list (p := p1 + 4) hb hr hw
      cases e2 : rdList l (p1 + 4) with
      | none =>
        rw [e2] at hs3
        obtain ⟨xs, p2, hp2⟩ := scan_list_none hb hr hw e2
        refine ⟨(0, 0, [], [], 0, false), ⟨z, z⟩, Ev.bind hs1 ?_, Ev.bind hi1 (Ev.bind hi2 (Ev.bind hp2 (Ev.bind (scan_list_bad _ _) ?_)))⟩
        · simp only [told, if_true]
          refine Ev.bind hs2 ?_
          simp only [if_true]
          refine Ev.bind hs3 ?_
          simp only [toldList, Bool.false_eq_true, if_false]
          exact Ev.now _
        · simp only [if_true]
          exact Ev.now _
      | some u2 =>
        obtain ⟨c, p2⟩ := u2
        rw [e2] at hs3
        have k2 := rdList_bounds hw e2
        have hi3 := scan_list_some hb hr hw e2
        have hs4 := spec_list (p := p2) hb hr k2.1
        cases e3 : rdList l p2 with
        | none =>
          rw [e3] at hs4
          obtain ⟨xs, p3, hp3⟩ := scan_list_none hb hr k2.1 e3
          refine ⟨(0, 0, [], [], 0, false), ⟨z, z⟩, Ev.bind hs1 ?_, Ev.bind hi1 (Ev.bind hi2 (Ev.bind hi3 (Ev.bind hp3 ?_)))⟩
          · simp only [told, if_true]
            refine Ev.bind hs2 ?_
            simp only [if_true]
            refine Ev.bind hs3 ?_
            simp only [toldList, if_true]
            refine Ev.bind hs4 ?_
            simp only [toldList, Bool.false_eq_true, if_false]
            exact Ev.now _
          · simp only [if_true]
            exact Ev.now _
        | some u3 =>
          obtain ⟨r, p3⟩ := u3
          rw [e3] at hs4
          have k3 := rdList_bounds k2.1 e3
          have hi4 := scan_list_some hb hr k2.1 e3
          cases e4 : seqOk (a : Int) (vb 0 ((l.drop p1).take 4)) c r
          · refine ⟨(0, 0, [], [], 0, false), ⟨z, z⟩, Ev.bind hs1 ?_, Ev.bind hi1 (Ev.bind hi2 (Ev.bind hi3 (Ev.bind hi4 ?_)))⟩
            · simp only [told, if_true]
              refine Ev.bind hs2 ?_
              simp only [if_true]
              refine Ev.bind hs3 ?_
              simp only [toldList, if_true]
              refine Ev.bind hs4 ?_
              simp only [toldList, if_true]
              refine Ev.bind (spec_seqok_ev _ _ _ _) ?_
              simp only [e4, Bool.false_eq_true, if_false]
              exact Ev.now _
            · simp only [Bool.false_eq_true, if_false]
              refine Ev.bind (impl_seqok_ev _ _ _ _) ?_
              simp only [e4, Bool.false_eq_true, if_false]
              exact Ev.now _
          · refine ⟨((a : Int), vb 0 ((l.drop p1).take 4), c, r, (p3 : Int), true), ⟨k2.2, k3.2⟩, Ev.bind hs1 ?_, Ev.bind hi1 (Ev.bind hi2 (Ev.bind hi3 (Ev.bind hi4 ?_)))⟩
            · simp only [told, if_true]
              refine Ev.bind hs2 ?_
              simp only [if_true]
              refine Ev.bind hs3 ?_
              simp only [toldList, if_true]
              refine Ev.bind hs4 ?_
              simp only [toldList, if_true]
              refine Ev.bind (spec_seqok_ev _ _ _ _) ?_
              simp only [e4, if_true]
              exact Ev.now _
            · simp only [Bool.false_eq_true, if_false]
              refine Ev.bind (impl_seqok_ev _ _ _ _) ?_
              simp only [e4, if_true]
              exact Ev.now _
    · refine ⟨(0, 0, [], [], 0, false), ⟨z, z⟩, Ev.bind hs1 ?_, Ev.bind hi1 (Ev.bind (scan_fix_short (l := l) (at_ := p1) (w := 4) hl (by omega) (by omega)) (Ev.bind (scan_list_bad _ _) (Ev.bind (scan_list_bad _ _) ?_)))⟩
      · simp only [told, if_true]
        refine Ev.bind (read_short (l := l) (at_ := p1) (w := 4) hl (by omega) (by omega)) ?_
        simp only [Bool.false_eq_true, if_false]
        exact Ev.now _
      · simp only [if_true]
        exact Ev.now _
theorem mark_seq (a b : Int) {c r : List Int} (hc : c.length ≤ 4) (hr : r.length ≤ 4) : Ev (fun k => laws_markSeq.f k a b c r 1) (1 + (c.length : Int) + (r.length : Int), marks 1 c.length, marks (1 + (c.length : Int)) r.length) := by
  unfold laws_markSeq.f
  exact Ev.bind (markInts_ev (by omega) (by omega) (by omega)) (Ev.bind (markInts_ev (by omega) (by omega) (by omega)) (Ev.now _))
theorem held_seq (a b : Int) {c r : Nat} (hc : c ≤ 4) (hr : r ≤ 4) : Ev (fun k => laws_heldSeq.f k a b (marks 1 c) (marks (1 + (c : Int)) r) 1) (1 + (c : Int) + (r : Int)) := by
  unfold laws_heldSeq.f
  refine Ev.bind (heldInts_ev (by omega) (by omega) (by omega)) ?_
  simp only [if_neg (show ¬ ((1 : Int) + (c : Int) < 0) by omega)]
  refine Ev.bind (heldInts_ev (by omega) (by omega) (by omega)) ?_
  simp only [if_neg (show ¬ ((1 : Int) + (c : Int) + (r : Int) < 0) by omega)]
  exact Ev.now _
theorem FnExactReadSeq : laws_FnExactReadSeq.Pure := by
  intro s at_ _ ha
  obtain ⟨l, hb, rfl⟩ := nums_of s
  by_cases hbig : ((strOfNums l).size : Int) > 1048576
  · exact ⟨0, by unfold laws_FnExactReadSeq.f; rw [if_pos hbig]⟩
  · have hl : l.length ≤ 1048576 := by rw [str_size] at hbig; omega
    refine Ev.rounds ?_
    unfold laws_FnExactReadSeq.f
    simp only [if_neg hbig]
    have main : ∃ v : Int × Int × List Int × List Int × Int × Bool, (v.2.2.1.length ≤ 4 ∧ v.2.2.2.1.length ≤ 4) ∧ Ev (fun k => spec_ReadSeq.f k (strOfNums l) at_) v ∧ Ev (fun k => impl_ReadSeq.f k (strOfNums l) at_) v := by
      have ho := opened_ev hb hl at_
      have z : (0 : Nat) ≤ 4 := by decide
      by_cases hr : rowOk l = true ∧ (0 ≤ at_ ∧ at_ ≤ (l.length : Int))
      · obtain ⟨h1, h2⟩ := hr
        obtain ⟨p, rfl⟩ := Int.eq_ofNat_of_zero_le h2.1
        rw [h1, decide_eq_true h2] at ho
        obtain ⟨v, hv, g1, g2⟩ := seqread_ev (p := p) hb h1 (by omega)
        refine ⟨v, hv, ?_, ?_⟩
        · unfold spec_ReadSeq.f
          refine Ev.bind (spec_rowok_ev hb hl) ?_
          simp only [h1, if_true, str_size, in_yes h2.1 h2.2, Option.bind_some]
          exact Ev.bind g1 (Ev.now _)
        · unfold impl_ReadSeq.f
          refine Ev.bind ho ?_
          simp only [Bool.and_self, Bool.not_true]
          exact g2
      · refine ⟨(0, 0, [], [], 0, false), ⟨z, z⟩, ?_, ?_⟩
        · unfold spec_ReadSeq.f
          refine Ev.bind (spec_rowok_ev hb hl) ?_
          cases h1 : rowOk l
          · exact Ev.now _
          · simp only [if_true, str_size]
            rw [in_no (fun h2 => hr ⟨h1, h2⟩)]
            exact Ev.now _
        · unfold impl_ReadSeq.f
          refine Ev.bind ho ?_
          have : (rowOk l && decide (0 ≤ at_ ∧ at_ ≤ (l.length : Int))) = false := by
            cases h1 : rowOk l
            · rfl
            · rw [Bool.true_and, decide_eq_false (fun h2 => hr ⟨h1, h2⟩)]
          simp only [this, Bool.not_false]
          exact rest_bad _ _
    obtain ⟨⟨a, b, c, r, q, ok⟩, ⟨hc, hr⟩, g1, g2⟩ := main
    dsimp only at hc hr
    have he : Ev (fun k => laws_eqSeq.f k a b c r a b c r) true := eqSeq_ev (by omega) (by omega)
    have hm := mark_seq a b hc hr
    have hh := held_seq a b hc hr
    refine Ev.bind g1 (Ev.bind g2 (Ev.bind he ?_))
    simp only [if_true, bne_self_eq_false]
    refine Ev.step (f := fun k => (laws_markSeq.f k a b c r 1).bind fun m => ((laws_heldSeq.f k a b m.2.1 m.2.2 1).bind fun t => (if t < 0 then (some false) else (if t = m.1 then ((impl_ReadSeq.f k (strOfNums l) at_).bind fun g => ((laws_eqSeq.f k g.1 g.2.1 g.2.2.1 g.2.2.2.1 a b c r).bind fun e => (if e = true then (if g.2.2.2.2.1 = q then (laws_FnExactReadSeq.j1 k m.1 (g.2.2.2.2.2 != ok) a b m.2.1 m.2.2) else (laws_FnExactReadSeq.j1 k m.1 true a b m.2.1 m.2.2)) else (laws_FnExactReadSeq.j1 k m.1 true a b m.2.1 m.2.2)))) else (some false))))) (fun k => ?_) ?_
    · simp only [laws_FnExactReadSeq.j0, Bool.false_eq_true, if_false]
    · refine Ev.bind hm (Ev.bind hh ?_)
      simp only [if_neg (show ¬ ((1 : Int) + (c.length : Int) + (r.length : Int) < 0) by omega), if_true]
      refine Ev.bind g2 (Ev.bind he ?_)
      simp only [if_true, bne_self_eq_false]
      refine Ev.step (f := fun k => (laws_heldSeq.f k a b (marks 1 c.length) (marks (1 + (c.length : Int)) r.length) 1).bind fun t => (if t < 0 then (some false) else (if t = 1 + (c.length : Int) + (r.length : Int) then (some true) else (some false)))) (fun k => ?_) ?_
      · simp only [laws_FnExactReadSeq.j1, Bool.false_eq_true, if_false]
      · refine Ev.bind hh ?_
        simp only [if_neg (show ¬ ((1 : Int) + (c.length : Int) + (r.length : Int) < 0) by omega), if_true]
        exact Ev.now _

end Go.Proofs.Ytheafkkpapnmdaa.Pure
