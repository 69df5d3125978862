/- The program's BytesRow returns what the reference's returns, for every text. -/
import Derived.Test.YtibnnodjockcbaaQFnExactBytesRowx2
set_option linter.unusedVariables false
set_option linter.unusedSimpArgs false
namespace Go.Proofs.Ytibnnodjockcbaa.Pure
open Go.RowKit Go.Proofs.Ytibnnodjockcbaa.QFnExactBytesRow Go.Proofs.YtibnnodjockcbaaW.PrintWords Go.Proofs.YtibnnodjockcbaaW.PrintLast Go.Proofs.YtibnnodjockcbaaW.PrintMore

/-! ### Bytes as lists of numbers, and some plain facts -/
theorem w64 {x : Int} (h0 : -9223372036854775808 ≤ x) (h1 : x ≤ 9223372036854775807) : wrap64 x = x := by
  unfold wrap64
  omega
theorem i64_bounds {x : Int} (h : (Lit.int .i64 x).wf = true) : -9223372036854775808 ≤ x ∧ x ≤ 9223372036854775807 := by
  have e := h
  simp [Lit.wf, IntKind.min, IntKind.max, IntKind.signed, IntKind.bits] at e
  omega
/-- All numbers of the list are bytes. -/
def Bys (l : List Int) : Prop := ∀ x, x ∈ l → 0 ≤ x ∧ x < 256
theorem Bys.nil : Bys [] := fun _ h => by cases h
theorem Bys.cons {x : Int} {l : List Int} (h0 : 0 ≤ x) (h1 : x < 256) (h : Bys l) : Bys (x :: l) := fun y hy => by
  rcases List.mem_cons.1 hy with rfl | hy
  · exact ⟨h0, h1⟩
  · exact h y hy
theorem Bys.append {l m : List Int} (h : Bys l) (h' : Bys m) : Bys (l ++ m) := fun y hy => by
  rcases List.mem_append.1 hy with hy | hy
  · exact h y hy
  · exact h' y hy
theorem Bys.left {l m : List Int} (h : Bys (l ++ m)) : Bys l := fun y hy => h y (List.mem_append_left _ hy)
theorem Bys.right {l m : List Int} (h : Bys (l ++ m)) : Bys m := fun y hy => h y (List.mem_append_right _ hy)
theorem Bys.take {l : List Int} (h : Bys l) (n : Nat) : Bys (l.take n) := fun y hy => h y (List.mem_of_mem_take hy)
theorem Bys.drop {l : List Int} (h : Bys l) (n : Nat) : Bys (l.drop n) := fun y hy => h y (List.mem_of_mem_drop hy)
theorem Bys.getD {l : List Int} (h : Bys l) (i : Nat) : 0 ≤ l.getD i 0 ∧ l.getD i 0 < 256 := by
  rw [List.getD_eq_getElem?_getD]
  by_cases hi : i < l.length
  · rw [List.getElem?_eq_getElem hi]
    exact h _ (List.getElem_mem hi)
  · rw [List.getElem?_eq_none (by omega)]
    exact ⟨by decide, by decide⟩
theorem nums_of (a : ByteArray) : ∃ l, Bys l ∧ a = strOfNums l := by
  refine ⟨a.data.toList.map fun u => (u.toNat : Int), ?_, ?_⟩
  · intro x hx
    obtain ⟨u, _, rfl⟩ := List.mem_map.1 hx
    have := u.toNat_lt
    omega
  · unfold strOfNums
    rw [List.map_map]
    have e : ((fun n : Int => UInt8.ofNat n.toNat) ∘ fun u : UInt8 => (u.toNat : Int)) = id := by
      funext u
      simp
    rw [e, List.map_id]
theorem str_size (l : List Int) : (strOfNums l).size = l.length := strOfNums_size l
theorem bt_str {l : List Int} (h : Bys l) (i : Int) : bt (strOfNums l) i = l.getD i.toNat 0 := by
  unfold bt
  rw [List.getD_eq_getElem?_getD]
  split
  · rename_i hi
    have hi' : i.toNat < l.length := by rw [← str_size]; exact hi
    rw [List.getElem?_eq_getElem hi']
    have hb := h _ (List.getElem_mem hi')
    have e : (strOfNums l)[i.toNat]'hi = UInt8.ofNat (l[i.toNat]).toNat := by
      simp [strOfNums, ByteArray.getElem_eq_getElem_data]
    rw [e, UInt8.toNat_ofNat']
    simp only [Option.getD_some]
    omega
  · rename_i hi
    rw [List.getElem?_eq_none (by rw [← str_size]; omega)]
    rfl
theorem bt_get {l : List Int} (h : Bys l) {i : Int} {n : Nat} (hi : i = (n : Int)) : bt (strOfNums l) i = l.getD n 0 := by
  rw [bt_str h, hi, Int.toNat_natCast]
theorem str_append (l m : List Int) : strOfNums l ++ strOfNums m = strOfNums (l ++ m) := by
  apply ByteArray.ext
  rw [ByteArray.data_append]
  unfold strOfNums
  simp
theorem str_empty : (⟨#[]⟩ : ByteArray) = strOfNums [] := rfl
theorem str_inj {l m : List Int} (hl : Bys l) (hm : Bys m) (h : strOfNums l = strOfNums m) : l = m := by
  have hs : l.length = m.length := by rw [← str_size l, ← str_size m, h]
  apply List.ext_getElem hs
  intro i h1 h2
  have e1 := bt_get hl (i := (i : Int)) rfl
  have e2 := bt_get hm (i := (i : Int)) rfl
  rw [h, e2] at e1
  simp [List.getD_eq_getElem?_getD, h1, h2] at e1
  exact e1.symm
theorem str_extract (l : List Int) (i j : Nat) : (strOfNums l).extract i j = strOfNums ((l.take j).drop i) := by
  apply ByteArray.ext
  rw [ByteArray.data_extract]
  unfold strOfNums
  apply Array.ext'
  simp [List.extract_eq_take_drop, List.drop_take, List.map_drop, List.map_take]
theorem getD_mid (pre suf : List Int) (x : Int) : (pre ++ x :: suf).getD pre.length 0 = x := by
  rw [List.getD_eq_getElem?_getD, List.getElem?_append_right (Nat.le_refl _)]
  simp
theorem bt_mid {pre suf : List Int} {x : Int} (h : Bys (pre ++ x :: suf)) : bt (strOfNums (pre ++ x :: suf)) (pre.length : Int) = x := by
  rw [bt_get h rfl, getD_mid]
theorem rd_mid (pre suf : List Int) (x : Int) : rd (pre ++ x :: suf) (pre.length : Int) = x := by
  unfold rd
  rw [Int.toNat_natCast, getD_mid]
theorem snoc_cons (pre suf : List Int) (x : Int) : pre ++ x :: suf = (pre ++ [x]) ++ suf := by simp
theorem next_len (pre : List Int) (x : Int) (h : pre.length < 4611686018427387904) : wrap64 ((pre.length : Int) + 1) = ((pre ++ [x]).length : Int) := by
  rw [w64 (by omega) (by omega)]
  simp
theorem lt_mid (pre suf : List Int) (x : Int) : (pre.length : Int) < ((strOfNums (pre ++ x :: suf)).size : Int) := by
  rw [str_size]
  simp
  omega
theorem ge_end (pre : List Int) : ¬ ((pre.length : Int) < ((strOfNums pre).size : Int)) := by
  rw [str_size]
  omega
theorem mid_byte {pre suf : List Int} {x : Int} (h : Bys (pre ++ x :: suf)) : 0 ≤ x ∧ x < 256 := h x (by simp)
/-- The signs of a number, so many. -/
def sg : Nat → Int → List Int
  | 0, _ => []
  | w + 1, n => sg w (n / 2) ++ [48 + n % 2]
theorem sg_len : ∀ (w : Nat) (n : Int), (sg w n).length = w
  | 0, _ => rfl
  | w + 1, n => by simp [sg, sg_len w]
theorem sg_row : ∀ (w : Nat) (n : Int), ∀ x, x ∈ sg w n → x = 48 ∨ x = 49
  | 0, _ => fun _ h => by cases h
  | w + 1, n => fun x hx => by
    rcases List.mem_append.1 hx with h | h
    · exact sg_row w _ x h
    · have : x = 48 + n % 2 := by simpa using h
      omega
theorem sg_bys (w : Nat) (n : Int) : Bys (sg w n) := fun x hx => by
  rcases sg_row w n x hx with h | h <;> omega
theorem set_rep (j : Nat) (v : Int) (tl : List Int) : (List.replicate (j + 1) (0 : Int) ++ tl).set j v = List.replicate j 0 ++ v :: tl := by
  rw [List.replicate_succ', List.append_assoc, List.set_append_right _ _ (by simp)]
  simp
theorem str_toList (l : List Int) : (strOfNums l).toList = l.map fun n => UInt8.ofNat n.toNat := by
  rw [Go.ByteArray.toList_eq, strOfNums_data]
theorem str_toList_nil {l : List Int} : (strOfNums l).toList = ([] : List UInt8) ↔ l = [] := by
  rw [str_toList, List.map_eq_nil_iff]
theorem str_toList_inj {l m : List Int} (hl : Bys l) (hm : Bys m) : (strOfNums l).toList = (strOfNums m).toList ↔ l = m := by
  constructor
  · intro h
    apply str_inj hl hm
    apply ByteArray.ext
    apply Array.ext'
    rw [← Go.ByteArray.toList_eq, ← Go.ByteArray.toList_eq, h]
  · intro h
    rw [h]
theorem bytesOf_str {l : List Int} (h : Bys l) : bytesOf (strOfNums l) = l := by
  unfold bytesOf
  rw [strOfNums_data, List.map_map]
  have : ∀ m : List Int, Bys m → m.map ((fun b : UInt8 => (b.toNat : Int)) ∘ fun n : Int => UInt8.ofNat n.toNat) = m := by
    intro m
    induction m with
    | nil => intro _; rfl
    | cons x m ih =>
      intro hm
      have hx := hm x (List.mem_cons_self ..)
      rw [List.map_cons, ih (fun y hy => hm y (List.mem_cons_of_mem _ hy))]
      congr 1
      simp only [Function.comp, UInt8.toNat_ofNat']
      omega
  exact this l h
/-- The bits of bytes, the highest first. -/
def bitsL : List Int → List Int
  | [] => []
  | x :: l => sg 8 x ++ bitsL l
theorem bitsL_len : ∀ l : List Int, (bitsL l).length = 8 * l.length
  | [] => rfl
  | x :: l => by rw [bitsL, List.length_append, sg_len, bitsL_len l, List.length_cons]; omega
theorem bitsL_row : ∀ (l : List Int), ∀ x, x ∈ bitsL l → x = 48 ∨ x = 49
  | [] => fun _ h => by cases h
  | y :: l => fun x hx => by
    rcases List.mem_append.1 hx with h | h
    · exact sg_row 8 y x h
    · exact bitsL_row l x h
theorem bitsL_append : ∀ (l m : List Int), bitsL (l ++ m) = bitsL l ++ bitsL m
  | [], m => rfl
  | x :: l, m => by rw [List.cons_append, bitsL, bitsL, bitsL_append l m, List.append_assoc]
theorem has_one : ∀ m : Fin 256, (m : Nat) ≠ 0 → (49 : Int) ∈ sg 8 ((m : Nat) : Int) := by decide +kernel
/-- A row with a one in it: what stands ahead of its last one, and the noughts behind it. -/
theorem last_one : ∀ M : List Int, (∀ x, x ∈ M → x = 48 ∨ x = 49) → (49 : Int) ∈ M → ∃ A z, M = A ++ 49 :: List.replicate z 48
  | [], _, h => by cases h
  | x :: M, hm, h => by
    by_cases h1 : (49 : Int) ∈ M
    · obtain ⟨A, z, e⟩ := last_one M (fun y hy => hm y (List.mem_cons_of_mem _ hy)) h1
      exact ⟨x :: A, z, by rw [e]; rfl⟩
    · have hx : x = 49 := by
        rcases List.mem_cons.1 h with h2 | h2
        · exact h2.symm
        · exact absurd h2 h1
      refine ⟨[], M.length, ?_⟩
      rw [List.nil_append, hx]
      congr 1
      refine List.eq_replicate_iff.2 ⟨rfl, fun y hy => ?_⟩
      rcases hm y (List.mem_cons_of_mem _ hy) with h2 | h2
      · exact h2
      · exact absurd (h2 ▸ hy) h1
theorem bits_last {l : List Int} (hb : Bys l) (h0 : l ≠ []) (h1 : l.getD (l.length - 1) 0 ≠ 0) : ∃ A z, bitsL l = A ++ 49 :: List.replicate z 48 := by
  refine last_one _ (bitsL_row l) ?_
  obtain ⟨m, x, rfl⟩ : ∃ m x, l = m ++ [x] := ⟨l.dropLast, l.getLast h0, (List.dropLast_concat_getLast h0).symm⟩
  have hx := hb x (List.mem_append_right _ (List.mem_singleton.2 rfl))
  rw [bitsL_append, bitsL, bitsL, List.append_nil]
  refine List.mem_append_right _ ?_
  obtain ⟨n, rfl⟩ := Int.eq_ofNat_of_zero_le hx.1
  have hn : n ≠ 0 := by
    intro h
    apply h1
    subst h
    simp
  exact has_one ⟨n, by omega⟩ hn
/-- BytesRow, told over numbers. -/
def rowOfBytes (A : List Int) : ByteArray × Bool := if 400000 < A.length then (⟨#[]⟩, false) else (strOfNums A, true)
theorem rd_pad {A : List Int} {z j : Nat} (hj : j ≤ z) : rd (A ++ 49 :: List.replicate z 48) ((A.length + j : Nat) : Int) = if j = 0 then 49 else 48 := by
  unfold rd
  rw [Int.toNat_natCast, List.getD_eq_getElem?_getD, List.getElem?_append_right (by omega), show A.length + j - A.length = j by omega]
  cases j with
  | zero => rfl
  | succ j => rw [List.getElem?_cons_succ, List.getElem?_replicate_of_lt (by omega)]; rfl
theorem take_pad (A : List Int) (z : Nat) : (A ++ 49 :: List.replicate z 48).take A.length = A := by
  rw [List.take_append_of_le_length (Nat.le_refl _), List.take_length]
theorem fix_loop : ∀ (j : Nat) (n : Int) (tl : List Int), 0 ≤ n → n < 4611686018427387904 → j ≤ 1000000 →
    Ev (fun k => spec_l02Fix.l0 k n (List.replicate j 0 ++ tl) ((j : Int) - 1)) (strOfNums (sg j n ++ tl))
  | 0, n, tl, h0, h1, hj => by
    refine Ev.step (f := fun _ => some (strOfNums tl)) (fun k => ?_) (by simp only [sg, List.nil_append]; exact Ev.now _)
    simp only [spec_l02Fix.l0, List.replicate_zero, List.nil_append]
    rw [if_neg (by omega)]
  | j + 1, n, tl, h0, h1, hj => by
    have ih := fix_loop j (n / 2) ((48 + n % 2) :: tl) (by omega) (by omega) (by omega)
    have e : sg (j + 1) n ++ tl = sg j (n / 2) ++ (48 + n % 2) :: tl := by simp [sg]
    rw [e]
    refine Ev.step (fun k => ?_) ih
    simp only [spec_l02Fix.l0]
    rw [if_pos (by omega), if_pos (by omega), if_pos (by simp; omega), Int.tmod_eq_emod_of_nonneg h0, Int.tdiv_eq_ediv_of_nonneg h0, w64 (x := 48 + n % 2) (by omega) (by omega)]
    rw [Int.emod_eq_of_lt (a := 48 + n % 2) (by omega) (by omega), show (((j + 1 : Nat) : Int) - 1).toNat = j by omega, set_rep]
    rw [w64 (x := n / 2) (by omega) (by omega), w64 (by omega) (by omega), show ((j + 1 : Nat) : Int) - 1 - 1 = (j : Int) - 1 by omega]
theorem fix_ev (n : Int) (w : Nat) (h0 : 0 ≤ n) (h1 : n < 4611686018427387904) (hw : w ≤ 1000000) : Ev (fun k => spec_l02Fix.f k n (w : Int)) (strOfNums (sg w n)) := by
  have h := fix_loop w n [] h0 h1 hw
  rw [List.append_nil, List.append_nil] at h
  refine Ev.congr (fun k => ?_) h
  unfold spec_l02Fix.f
  rw [if_pos (by omega), if_pos (by omega), Int.toNat_natCast, w64 (by omega) (by omega)]
theorem spec_strip {A : List Int} {z : Nat} (hl : A.length + z ≤ 1000000) : ∀ j : Nat, j ≤ z → Ev (fun k => spec_BytesRow.l1 k (A ++ 49 :: List.replicate z 48) ((A.length + j + 1 : Nat) : Int)) (rowOfBytes A)
  | 0, hj => by
    refine Ev.step (f := fun _ => some (rowOfBytes A)) (fun k => ?_) (Ev.now _)
    simp only [spec_BytesRow.l1]
    rw [if_pos (by omega), w64 (by omega) (by omega), show ((A.length + 0 + 1 : Nat) : Int) - 1 = ((A.length + 0 : Nat) : Int) by omega, if_pos (by omega), if_pos (by rw [List.length_append, List.length_cons]; omega), rd_pad hj, if_pos rfl, if_neg (by decide)]
    unfold rowOfBytes
    by_cases h : 400000 < A.length
    · rw [if_pos (by omega), if_pos h]
    · rw [if_neg (by omega), if_neg h, if_pos (by rw [List.length_append, List.length_cons]; omega), Int.toNat_natCast, Nat.add_zero, take_pad]
  | j + 1, hj => by
    refine Ev.step (fun k => ?_) (spec_strip hl j (by omega))
    simp only [spec_BytesRow.l1]
    rw [if_pos (by omega), w64 (by omega) (by omega), show ((A.length + (j + 1) + 1 : Nat) : Int) - 1 = ((A.length + (j + 1) : Nat) : Int) by omega, if_pos (by omega), if_pos (by rw [List.length_append, List.length_cons, List.length_replicate]; omega), rd_pad hj, show (if j + 1 = 0 then (49 : Int) else 48) = 48 from rfl, if_pos rfl]
    rfl
theorem spec_bits {R : ByteArray × Bool} : ∀ (suf pre : List Int), Bys (pre ++ suf) → (pre ++ suf).length ≤ 60000 → Ev (fun k => spec_BytesRow.l1 k (bitsL (pre ++ suf)) ((bitsL (pre ++ suf)).length : Int)) R → Ev (fun k => spec_BytesRow.l0 k (strOfNums (pre ++ suf)) (bitsL pre) (pre.length : Int)) R
  | [], pre, hb, hl, h => by
    rw [List.append_nil] at h ⊢
    refine Ev.step (fun k => ?_) h
    simp only [spec_BytesRow.l0]
    rw [if_neg (ge_end pre)]
  | x :: suf, pre, hb, hl, h => by
    have hx := mid_byte hb
    have hl' : pre.length + (suf.length + 1) ≤ 60000 := by simpa using hl
    have ih := spec_bits suf (pre ++ [x]) (by rw [← snoc_cons]; exact hb) (by rw [← snoc_cons]; exact hl) (by rw [← snoc_cons]; exact h)
    rw [← snoc_cons] at ih
    have hp := bitsL_len pre
    refine Ev.step (f := fun k => (spec_l02Fix.f k x ((8 : Nat) : Int)).bind fun t => (if (bitsL pre).length + t.size < 140737488355328 then (spec_BytesRow.l0 k (strOfNums (pre ++ x :: suf)) (bitsL pre ++ bytesOf t) ((pre ++ [x]).length : Int)) else (none))) (fun k => ?_) (Ev.bind (fix_ev x 8 hx.1 (by omega) (by decide)) ?_)
    · simp only [spec_BytesRow.l0]
      rw [if_pos (lt_mid pre suf x), if_pos (by omega), bt_mid hb, w64 (x := x) (by omega) (by omega), next_len pre x (by omega)]
      rfl
    · simp only [str_size, sg_len, if_pos (show (bitsL pre).length + 8 < 140737488355328 by omega), bytesOf_str (sg_bys 8 x)]
      rw [bitsL_append, bitsL, bitsL, List.append_nil] at ih
      exact ih
/-- BytesRow of any bytes. -/
def bytesRow (l : List Int) (v : ByteArray × Bool) : Prop := (l = [] ∨ 50001 < l.length ∨ l.getD (l.length - 1) 0 = 0) ∧ v = (⟨#[]⟩, false) ∨ (l ≠ [] ∧ l.length ≤ 50001 ∧ l.getD (l.length - 1) 0 ≠ 0) ∧ ∃ A z, bitsL l = A ++ 49 :: List.replicate z 48 ∧ v = rowOfBytes A
theorem bytesRow_some {l : List Int} (hb : Bys l) : ∃ v, bytesRow l v := by
  by_cases h : l = [] ∨ 50001 < l.length ∨ l.getD (l.length - 1) 0 = 0
  · exact ⟨_, Or.inl ⟨h, rfl⟩⟩
  · have h1 : l ≠ [] ∧ l.length ≤ 50001 ∧ l.getD (l.length - 1) 0 ≠ 0 := ⟨fun e => h (Or.inl e), by omega, fun e => h (Or.inr (Or.inr e))⟩
    obtain ⟨A, z, e⟩ := bits_last hb h1.1 h1.2.2
    exact ⟨_, Or.inr ⟨h1, A, z, e, rfl⟩⟩
theorem spec_bytesrow_ev {l : List Int} (hb : Bys l) (hl : l.length ≤ 1048576) {v : ByteArray × Bool} (hv : bytesRow l v) : Ev (fun k => spec_BytesRow.f k (strOfNums l)) v := by
  have bad : Ev (fun k => spec_BytesRow.j0 k (strOfNums l) true) (⟨#[]⟩, false) := by
    refine Ev.step (f := fun _ => some (⟨#[]⟩, false)) (fun k => ?_) (Ev.now _)
    simp only [spec_BytesRow.j0, if_true]
  unfold spec_BytesRow.f
  simp only [str_size]
  rcases hv with ⟨h, rfl⟩ | ⟨⟨h0, h1, h2⟩, A, z, e, rfl⟩
  · by_cases h0 : l = []
    · subst h0
      simp only [List.length_nil, Int.ofNat_zero, if_true]
      exact bad
    · have hp := List.length_pos_iff.2 h0
      simp only [if_neg (show ¬ ((l.length : Int) = 0) by omega)]
      by_cases h1 : 50001 < l.length
      · simp only [if_pos (show (l.length : Int) > 50001 by omega)]
        exact bad
      · have h2 : l.getD (l.length - 1) 0 = 0 := by
          rcases h with h | h | h
          · exact absurd h h0
          · exact absurd h h1
          · exact h
        simp only [if_neg (show ¬ ((l.length : Int) > 50001) by omega), w64 (x := (l.length : Int) - 1) (by omega) (by omega), if_pos (show (0 : Int) ≤ (l.length : Int) - 1 by omega), if_pos (show (l.length : Int) - 1 < (l.length : Int) by omega)]
        rw [bt_get hb (n := l.length - 1) (by omega), h2]
        exact bad
  · have hp := List.length_pos_iff.2 h0
    have hle := bitsL_len l
    rw [e] at hle
    rw [List.length_append, List.length_cons, List.length_replicate] at hle
    simp only [if_neg (show ¬ ((l.length : Int) = 0) by omega), if_neg (show ¬ ((l.length : Int) > 50001) by omega), w64 (x := (l.length : Int) - 1) (by omega) (by omega), if_pos (show (0 : Int) ≤ (l.length : Int) - 1 by omega), if_pos (show (l.length : Int) - 1 < (l.length : Int) by omega)]
    rw [bt_get hb (n := l.length - 1) (by omega), show (l.getD (l.length - 1) 0 == 0) = false by simpa using h2]
    refine Ev.step (f := fun k => spec_BytesRow.l0 k (strOfNums ([] ++ l)) (bitsL []) (([] : List Int).length : Int)) (fun k => ?_) (spec_bits l [] hb (by rw [List.nil_append]; omega) ?_)
    · simp only [spec_BytesRow.j0, Bool.false_eq_true, if_false]
      rfl
    · rw [List.nil_append, e]
      have := spec_strip (A := A) (z := z) (by omega) z (Nat.le_refl _)
      have e2 : (A ++ 49 :: List.replicate z 48).length = A.length + z + 1 := by rw [List.length_append, List.length_cons, List.length_replicate]; omega
      rw [e2]
      exact this
theorem impl_strip {A : List Int} {z : Nat} (hl : A.length + z ≤ 1000000) : ∀ j : Nat, j ≤ z → Ev (fun k => impl_BytesRow.l1 k ((A.length + j + 1 : Nat) : Int) (A ++ 49 :: List.replicate z 48)) (rowOfBytes A)
  | 0, hj => by
    refine Ev.step (f := fun _ => some (rowOfBytes A)) (fun k => ?_) (Ev.now _)
    simp only [impl_BytesRow.l1]
    rw [w64 (by omega) (by omega), show ((A.length + 0 + 1 : Nat) : Int) - 1 = ((A.length + 0 : Nat) : Int) by omega, if_pos (by omega), if_pos (by rw [List.length_append, List.length_cons]; omega), rd_pad hj, if_pos rfl, if_neg (by decide)]
    unfold rowOfBytes
    by_cases h : 400000 < A.length
    · rw [if_pos (by omega), if_pos h]
    · rw [if_neg (by omega), if_neg h, if_pos (by rw [List.length_append, List.length_cons]; omega), Int.toNat_natCast, Nat.add_zero, take_pad]
  | j + 1, hj => by
    refine Ev.step (fun k => ?_) (impl_strip hl j (by omega))
    simp only [impl_BytesRow.l1]
    rw [w64 (by omega) (by omega), show ((A.length + (j + 1) + 1 : Nat) : Int) - 1 = ((A.length + (j + 1) : Nat) : Int) by omega, if_pos (by omega), if_pos (by rw [List.length_append, List.length_cons, List.length_replicate]; omega), rd_pad hj, show (if j + 1 = 0 then (49 : Int) else 48) = 48 from rfl, if_pos rfl]
    rfl
theorem bit_at : ∀ (m : Fin 256) (j : Fin 8), (48 + (Go.bits .and .u8 (shr .u8 ((m : Nat) : Int) (7 - ((j : Nat) : Int))) 1)) % 256 = (sg 8 ((m : Nat) : Int)).getD (j : Nat) 0 := by decide +kernel
theorem bit_val {x : Int} {j : Nat} (h0 : 0 ≤ x) (h1 : x < 256) (hj : j < 8) : (48 + (Go.bits .and .u8 (shr .u8 x (7 - (j : Int))) 1)) % 256 = (sg 8 x).getD j 0 := by
  obtain ⟨n, rfl⟩ := Int.eq_ofNat_of_zero_le h0
  exact bit_at ⟨n, by omega⟩ ⟨j, hj⟩
theorem impl_byte {x : Int} {pre suf : List Int} (hb : Bys (pre ++ x :: suf)) (hl : (pre ++ x :: suf).length ≤ 60000) {R : ByteArray × Bool} (h : Ev (fun k => impl_BytesRow.l0 k (strOfNums (pre ++ x :: suf)) ((8 * (pre ++ x :: suf).length : Nat) : Int) (bitsL pre ++ sg 8 x) ((8 * pre.length + 8 : Nat) : Int)) R) :
    ∀ d j : Nat, j + d = 8 → Ev (fun k => impl_BytesRow.l0 k (strOfNums (pre ++ x :: suf)) ((8 * (pre ++ x :: suf).length : Nat) : Int) (bitsL pre ++ (sg 8 x).take j) ((8 * pre.length + j : Nat) : Int)) R
  | 0, j, hj => by
    have : j = 8 := by omega
    subst this
    rw [List.take_of_length_le (by rw [sg_len]; exact Nat.le_refl _)]
    exact h
  | d + 1, j, hj => by
    have hx := mid_byte hb
    have hl' : pre.length + (suf.length + 1) ≤ 60000 := by simpa using hl
    have hll : (pre ++ x :: suf).length = pre.length + (suf.length + 1) := by simp
    have hp := bitsL_len pre
    have ih := impl_byte hb hl h d (j + 1) (by omega)
    have hs := sg_len 8 x
    have e : (sg 8 x).take (j + 1) = (sg 8 x).take j ++ [(sg 8 x).getD j 0] := by
      rw [List.take_add_one, List.getD_eq_getElem?_getD, List.getElem?_eq_getElem (by omega)]
      rfl
    rw [e, ← List.append_assoc] at ih
    have ht : ((sg 8 x).take j).length ≤ 8 := by rw [List.length_take]; omega
    refine Ev.step (fun k => ?_) ih
    simp only [impl_BytesRow.l0, str_size]
    have hd : Int.tdiv ((8 * pre.length + j : Nat) : Int) 8 = (pre.length : Int) := by rw [Int.tdiv_eq_ediv_of_nonneg (by omega)]; omega
    have hm : Int.tmod ((8 * pre.length + j : Nat) : Int) 8 = (j : Int) := by rw [Int.tmod_eq_emod_of_nonneg (by omega)]; omega
    rw [hd, hm, if_pos (by omega), w64 (x := (pre.length : Int)) (by omega) (by omega), if_pos (by omega), if_pos (by omega), w64 (x := 7 - (j : Int)) (by omega) (by omega), if_pos (by omega), if_pos (by rw [List.length_append]; omega), bt_mid hb, bit_val hx.1 hx.2 (by omega), w64 (by omega) (by omega)]
    rfl
theorem impl_bits {R : ByteArray × Bool} : ∀ (suf pre : List Int), Bys (pre ++ suf) → (pre ++ suf).length ≤ 60000 → Ev (fun k => impl_BytesRow.l1 k ((bitsL (pre ++ suf)).length : Int) (bitsL (pre ++ suf))) R → Ev (fun k => impl_BytesRow.l0 k (strOfNums (pre ++ suf)) ((8 * (pre ++ suf).length : Nat) : Int) (bitsL pre) ((8 * pre.length : Nat) : Int)) R
  | [], pre, hb, hl, h => by
    rw [List.append_nil] at h ⊢
    rw [bitsL_len] at h
    refine Ev.step (fun k => ?_) h
    simp only [impl_BytesRow.l0]
    rw [if_neg (by omega)]
  | x :: suf, pre, hb, hl, h => by
    have ih := impl_bits suf (pre ++ [x]) (by rw [← snoc_cons]; exact hb) (by rw [← snoc_cons]; exact hl) (by rw [← snoc_cons]; exact h)
    rw [← snoc_cons, bitsL_append, bitsL, bitsL, List.append_nil, show (pre ++ [x]).length = pre.length + 1 by simp] at ih
    have := impl_byte hb hl ih 8 0 rfl
    rw [List.take_zero, List.append_nil] at this
    exact this
theorem impl_bytesrow_ev {l : List Int} (hb : Bys l) (hl : l.length ≤ 1048576) {v : ByteArray × Bool} (hv : bytesRow l v) : Ev (fun k => impl_BytesRow.f k (strOfNums l)) v := by
  have bad : ∀ n, Ev (fun k => impl_BytesRow.j0 k (strOfNums l) n true) (⟨#[]⟩, false) := by
    intro n
    refine Ev.step (f := fun _ => some (⟨#[]⟩, false)) (fun k => ?_) (Ev.now _)
    simp only [impl_BytesRow.j0, if_true]
  unfold impl_BytesRow.f
  simp only [str_size, w64 (x := 8 * (l.length : Int)) (by omega) (by omega)]
  by_cases h0 : l = []
  · have hv' : v = (⟨#[]⟩, false) := by
      rcases hv with ⟨_, e⟩ | ⟨⟨h, _⟩, _⟩
      · exact e
      · exact absurd h0 h
    subst h0 hv'
    simp only [List.length_nil, Int.ofNat_zero, Int.mul_zero, if_true]
    exact bad _
  · have hp := List.length_pos_iff.2 h0
    simp only [if_neg (show ¬ (8 * (l.length : Int) = 0) by omega), w64 (x := (l.length : Int) - 1) (by omega) (by omega), if_pos (show (0 : Int) ≤ (l.length : Int) - 1 by omega), if_pos (show (l.length : Int) - 1 < (l.length : Int) by omega)]
    rw [bt_get hb (n := l.length - 1) (by omega)]
    by_cases h2 : l.getD (l.length - 1) 0 = 0
    · have hv' : v = (⟨#[]⟩, false) := by
        rcases hv with ⟨_, e⟩ | ⟨⟨_, _, h⟩, _⟩
        · exact e
        · exact absurd h2 h
      subst hv'
      simp only [if_pos h2]
      exact bad _
    · simp only [if_neg h2]
      by_cases h1 : 50001 < l.length
      · have hv' : v = (⟨#[]⟩, false) := by
          rcases hv with ⟨_, e⟩ | ⟨⟨_, h, _⟩, _⟩
          · exact e
          · omega
        subst hv'
        rw [decide_eq_true (show 8 * (l.length : Int) > 400008 by omega)]
        exact bad _
      · rcases hv with ⟨h, _⟩ | ⟨_, A, z, e, rfl⟩
        · rcases h with h | h | h
          · exact absurd h h0
          · exact absurd h h1
          · exact absurd h h2
        · have hle := bitsL_len l
          rw [e] at hle
          rw [List.length_append, List.length_cons, List.length_replicate] at hle
          rw [decide_eq_false (show ¬ (8 * (l.length : Int) > 400008) by omega)]
          refine Ev.step (f := fun k => impl_BytesRow.l0 k (strOfNums ([] ++ l)) ((8 * ([] ++ l).length : Nat) : Int) (bitsL []) ((8 * ([] : List Int).length : Nat) : Int)) (fun k => ?_) (impl_bits l [] hb (by rw [List.nil_append]; omega) ?_)
          · simp only [impl_BytesRow.j0, Bool.false_eq_true, if_false]
            rw [if_pos (by omega), if_pos (by omega)]
            simp only [List.nil_append, bitsL, List.length_nil, Int.natCast_mul]
            rfl
          · rw [List.nil_append, e]
            have := impl_strip (A := A) (z := z) (by omega) z (Nat.le_refl _)
            have e2 : (A ++ 49 :: List.replicate z 48).length = A.length + z + 1 := by rw [List.length_append, List.length_cons, List.length_replicate]; omega
            rw [e2]
            exact this
theorem exact_sb {g h : Nat → Option (ByteArray × Bool)} {v : ByteArray × Bool} (hg : Ev g v) (hh : Ev h v) :
    Ev (fun k => (g k).bind fun b1 => (h k).bind fun b2 => if b2.1.toList = b1.1.toList then (if (b2.2 != b1.2) = true then some false else some true) else some false) true := by
  refine Ev.bind hg (Ev.bind hh ?_)
  simp only [if_true, bne_self_eq_false, Bool.false_eq_true, if_false]
  exact Ev.now _
theorem exact_i {g h : Nat → Option Int} {v : Int} (hg : Ev g v) (hh : Ev h v) :
    Ev (fun k => (g k).bind fun b1 => (h k).bind fun b2 => if b2 = b1 then some true else some false) true := by
  refine Ev.bind hg (Ev.bind hh ?_)
  simp only [if_true]
  exact Ev.now _
theorem exact_s {g h : Nat → Option ByteArray} {v : ByteArray} (hg : Ev g v) (hh : Ev h v) :
    Ev (fun k => (g k).bind fun b1 => (h k).bind fun b2 => if b2.toList = b1.toList then some true else some false) true := by
  refine Ev.bind hg (Ev.bind hh ?_)
  simp only [if_true]
  exact Ev.now _
theorem exact_ib {g h : Nat → Option (Int × Bool)} {v : Int × Bool} (hg : Ev g v) (hh : Ev h v) :
    Ev (fun k => (g k).bind fun b1 => (h k).bind fun b2 => if b2.1 = b1.1 then (if (b2.2 != b1.2) = true then some false else some true) else some false) true := by
  refine Ev.bind hg (Ev.bind hh ?_)
  simp only [if_true, bne_self_eq_false, Bool.false_eq_true, if_false]
  exact Ev.now _
theorem exact_iib {g h : Nat → Option (Int × Int × Bool)} {v : Int × Int × Bool} (hg : Ev g v) (hh : Ev h v) :
    Ev (fun k => (g k).bind fun b1 => (h k).bind fun b2 => if b2.1 = b1.1 then (if b2.2.1 = b1.2.1 then (if (b2.2.2 != b1.2.2) = true then some false else some true) else some false) else some false) true := by
  refine Ev.bind hg (Ev.bind hh ?_)
  simp only [if_true, bne_self_eq_false, Bool.false_eq_true, if_false]
  exact Ev.now _
theorem exact_b {g h : Nat → Option Bool} {v : Bool} (hg : Ev g v) (hh : Ev h v) :
    Ev (fun k => (g k).bind fun b1 => (h k).bind fun b2 => if (b2 != b1) = true then some false else some true) true := by
  refine Ev.bind hg (Ev.bind hh ?_)
  simp only [bne_self_eq_false, Bool.false_eq_true, if_false]
  exact Ev.now _
theorem ev_now {α : Type} {g : Nat → Option α} {v : α} (h : ∀ k, g k = some v) : Ev g v := Ev.congr h (Ev.now v)
theorem FnExactBytesRow : laws_FnExactBytesRow.Pure := by
  intro a _
  obtain ⟨l, hb, rfl⟩ := nums_of a
  by_cases hbig : ((strOfNums l).size : Int) > 1048576
  · exact ⟨0, by unfold laws_FnExactBytesRow.f; rw [if_pos hbig]⟩
  · have hl : l.length ≤ 1048576 := by rw [str_size] at hbig; omega
    refine Ev.rounds ?_
    unfold laws_FnExactBytesRow.f
    simp only [if_neg hbig]
    obtain ⟨v, hv⟩ := bytesRow_some hb
    exact exact_sb (spec_bytesrow_ev hb hl hv) (impl_bytesrow_ev hb hl hv)

end Go.Proofs.Ytibnnodjockcbaa.Pure
