/- A drawn right set and a drawn right par, put behind a row, are read back. -/
import Derived.Test.YtkbehnnnfiakgaaQFnSetsx9
set_option linter.unusedVariables false
set_option linter.unusedSimpArgs false
namespace Go.Proofs.Ytkbehnnnfiakgaa.Pure
open Go.RowKit Go.Proofs.Ytkbehnnnfiakgaa.QFnSets Go.Proofs.YtkbehnnnfiakgaaW.PrintWords Go.Proofs.YtkbehnnnfiakgaaW.PrintLast Go.Proofs.YtkbehnnnfiakgaaW.PrintMore

/-! ### Bytes as lists of numbers, and some plain facts -/
theorem w64 {x : Int} (h0 : -9223372036854775808 ≤ x) (h1 : x ≤ 9223372036854775807) : wrap64 x = x := by
  unfold wrap64
  omega
theorem i64_bounds {x : Int} (h : (Lit.int .i64 x).wf = true) : -9223372036854775808 ≤ x ∧ x ≤ 9223372036854775807 := by
  have e := h
  simp [Lit.wf, IntKind.min, IntKind.max, IntKind.signed, IntKind.bits] at e
  omega
/-- All numbers of the list are bytes. -/
def Bys (l : List Int) : Prop := ∀ x, x ∈ l → 0 ≤ x ∧ x < 256
theorem Bys.nil : Bys [] := fun _ h => by cases h
theorem Bys.cons {x : Int} {l : List Int} (h0 : 0 ≤ x) (h1 : x < 256) (h : Bys l) : Bys (x :: l) := fun y hy => by
  rcases List.mem_cons.1 hy with rfl | hy
  · exact ⟨h0, h1⟩
  · exact h y hy
theorem Bys.append {l m : List Int} (h : Bys l) (h' : Bys m) : Bys (l ++ m) := fun y hy => by
  rcases List.mem_append.1 hy with hy | hy
  · exact h y hy
  · exact h' y hy
theorem Bys.left {l m : List Int} (h : Bys (l ++ m)) : Bys l := fun y hy => h y (List.mem_append_left _ hy)
theorem Bys.right {l m : List Int} (h : Bys (l ++ m)) : Bys m := fun y hy => h y (List.mem_append_right _ hy)
theorem Bys.take {l : List Int} (h : Bys l) (n : Nat) : Bys (l.take n) := fun y hy => h y (List.mem_of_mem_take hy)
theorem Bys.drop {l : List Int} (h : Bys l) (n : Nat) : Bys (l.drop n) := fun y hy => h y (List.mem_of_mem_drop hy)
theorem Bys.getD {l : List Int} (h : Bys l) (i : Nat) : 0 ≤ l.getD i 0 ∧ l.getD i 0 < 256 := by
  rw [List.getD_eq_getElem?_getD]
  by_cases hi : i < l.length
  · rw [List.getElem?_eq_getElem hi]
    exact h _ (List.getElem_mem hi)
  · rw [List.getElem?_eq_none (by omega)]
    exact ⟨by decide, by decide⟩
theorem nums_of (a : ByteArray) : ∃ l, Bys l ∧ a = strOfNums l := by
  refine ⟨a.data.toList.map fun u => (u.toNat : Int), ?_, ?_⟩
  · intro x hx
    obtain ⟨u, _, rfl⟩ := List.mem_map.1 hx
    have := u.toNat_lt
    omega
  · unfold strOfNums
    rw [List.map_map]
    have e : ((fun n : Int => UInt8.ofNat n.toNat) ∘ fun u : UInt8 => (u.toNat : Int)) = id := by
      funext u
      simp
    rw [e, List.map_id]
theorem str_size (l : List Int) : (strOfNums l).size = l.length := strOfNums_size l
theorem bt_str {l : List Int} (h : Bys l) (i : Int) : bt (strOfNums l) i = l.getD i.toNat 0 := by
  unfold bt
  rw [List.getD_eq_getElem?_getD]
  split
  · rename_i hi
    have hi' : i.toNat < l.length := by rw [← str_size]; exact hi
    rw [List.getElem?_eq_getElem hi']
    have hb := h _ (List.getElem_mem hi')
    have e : (strOfNums l)[i.toNat]'hi = UInt8.ofNat (l[i.toNat]).toNat := by
      simp [strOfNums, ByteArray.getElem_eq_getElem_data]
    rw [e, UInt8.toNat_ofNat']
    simp only [Option.getD_some]
    omega
  · rename_i hi
    rw [List.getElem?_eq_none (by rw [← str_size]; omega)]
    rfl
theorem bt_get {l : List Int} (h : Bys l) {i : Int} {n : Nat} (hi : i = (n : Int)) : bt (strOfNums l) i = l.getD n 0 := by
  rw [bt_str h, hi, Int.toNat_natCast]
theorem str_append (l m : List Int) : strOfNums l ++ strOfNums m = strOfNums (l ++ m) := by
  apply ByteArray.ext
  rw [ByteArray.data_append]
  unfold strOfNums
  simp
theorem str_empty : (⟨#[]⟩ : ByteArray) = strOfNums [] := rfl
theorem str_inj {l m : List Int} (hl : Bys l) (hm : Bys m) (h : strOfNums l = strOfNums m) : l = m := by
  have hs : l.length = m.length := by rw [← str_size l, ← str_size m, h]
  apply List.ext_getElem hs
  intro i h1 h2
  have e1 := bt_get hl (i := (i : Int)) rfl
  have e2 := bt_get hm (i := (i : Int)) rfl
  rw [h, e2] at e1
  simp [List.getD_eq_getElem?_getD, h1, h2] at e1
  exact e1.symm
theorem str_extract (l : List Int) (i j : Nat) : (strOfNums l).extract i j = strOfNums ((l.take j).drop i) := by
  apply ByteArray.ext
  rw [ByteArray.data_extract]
  unfold strOfNums
  apply Array.ext'
  simp [List.extract_eq_take_drop, List.drop_take, List.map_drop, List.map_take]
theorem getD_mid (pre suf : List Int) (x : Int) : (pre ++ x :: suf).getD pre.length 0 = x := by
  rw [List.getD_eq_getElem?_getD, List.getElem?_append_right (Nat.le_refl _)]
  simp
theorem bt_mid {pre suf : List Int} {x : Int} (h : Bys (pre ++ x :: suf)) : bt (strOfNums (pre ++ x :: suf)) (pre.length : Int) = x := by
  rw [bt_get h rfl, getD_mid]
theorem rd_mid (pre suf : List Int) (x : Int) : rd (pre ++ x :: suf) (pre.length : Int) = x := by
  unfold rd
  rw [Int.toNat_natCast, getD_mid]
theorem snoc_cons (pre suf : List Int) (x : Int) : pre ++ x :: suf = (pre ++ [x]) ++ suf := by simp
theorem next_len (pre : List Int) (x : Int) (h : pre.length < 4611686018427387904) : wrap64 ((pre.length : Int) + 1) = ((pre ++ [x]).length : Int) := by
  rw [w64 (by omega) (by omega)]
  simp
theorem lt_mid (pre suf : List Int) (x : Int) : (pre.length : Int) < ((strOfNums (pre ++ x :: suf)).size : Int) := by
  rw [str_size]
  simp
  omega
theorem ge_end (pre : List Int) : ¬ ((pre.length : Int) < ((strOfNums pre).size : Int)) := by
  rw [str_size]
  omega
theorem mid_byte {pre suf : List Int} {x : Int} (h : Bys (pre ++ x :: suf)) : 0 ≤ x ∧ x < 256 := h x (by simp)
theorem exact_sb {g h : Nat → Option (ByteArray × Bool)} {v : ByteArray × Bool} (hg : Ev g v) (hh : Ev h v) :
    Ev (fun k => (g k).bind fun b1 => (h k).bind fun b2 => if b2.1.toList = b1.1.toList then (if (b2.2 != b1.2) = true then some false else some true) else some false) true := by
  refine Ev.bind hg (Ev.bind hh ?_)
  simp only [if_true, bne_self_eq_false, Bool.false_eq_true, if_false]
  exact Ev.now _
theorem exact_i {g h : Nat → Option Int} {v : Int} (hg : Ev g v) (hh : Ev h v) :
    Ev (fun k => (g k).bind fun b1 => (h k).bind fun b2 => if b2 = b1 then some true else some false) true := by
  refine Ev.bind hg (Ev.bind hh ?_)
  simp only [if_true]
  exact Ev.now _
theorem exact_s {g h : Nat → Option ByteArray} {v : ByteArray} (hg : Ev g v) (hh : Ev h v) :
    Ev (fun k => (g k).bind fun b1 => (h k).bind fun b2 => if b2.toList = b1.toList then some true else some false) true := by
  refine Ev.bind hg (Ev.bind hh ?_)
  simp only [if_true]
  exact Ev.now _
theorem exact_ib {g h : Nat → Option (Int × Bool)} {v : Int × Bool} (hg : Ev g v) (hh : Ev h v) :
    Ev (fun k => (g k).bind fun b1 => (h k).bind fun b2 => if b2.1 = b1.1 then (if (b2.2 != b1.2) = true then some false else some true) else some false) true := by
  refine Ev.bind hg (Ev.bind hh ?_)
  simp only [if_true, bne_self_eq_false, Bool.false_eq_true, if_false]
  exact Ev.now _
theorem exact_iib {g h : Nat → Option (Int × Int × Bool)} {v : Int × Int × Bool} (hg : Ev g v) (hh : Ev h v) :
    Ev (fun k => (g k).bind fun b1 => (h k).bind fun b2 => if b2.1 = b1.1 then (if b2.2.1 = b1.2.1 then (if (b2.2.2 != b1.2.2) = true then some false else some true) else some false) else some false) true := by
  refine Ev.bind hg (Ev.bind hh ?_)
  simp only [if_true, bne_self_eq_false, Bool.false_eq_true, if_false]
  exact Ev.now _
theorem exact_b {g h : Nat → Option Bool} {v : Bool} (hg : Ev g v) (hh : Ev h v) :
    Ev (fun k => (g k).bind fun b1 => (h k).bind fun b2 => if (b2 != b1) = true then some false else some true) true := by
  refine Ev.bind hg (Ev.bind hh ?_)
  simp only [bne_self_eq_false, Bool.false_eq_true, if_false]
  exact Ev.now _
theorem ev_now {α : Type} {g : Nat → Option α} {v : α} (h : ∀ k, g k = some v) : Ev g v := Ev.congr h (Ev.now v)
theorem and255 (x : Int) : 0 ≤ Go.bits .and .i64 x 255 ∧ Go.bits .and .i64 x 255 ≤ 255 := by
  have h : ((BitVec.ofInt 64 x) &&& (BitVec.ofInt 64 255)).toNat ≤ 255 := by
    rw [BitVec.toNat_and]
    exact Nat.le_trans Nat.and_le_right (by decide)
  have e : Go.bits .and .i64 x 255 = ((((BitVec.ofInt 64 x) &&& (BitVec.ofInt 64 255)).toNat : Nat) : Int) := by
    show IntKind.i64.wrap ((((BitVec.ofInt 64 x) &&& (BitVec.ofInt 64 255)).toNat : Nat) : Int) = _
    rw [IntKind.wrap_i64]
    omega
  omega
/-- A byte is drawn. -/
theorem byte_ev {l : List Int} {a : Int} (n : Int) (h0 : 0 ≤ a) (hl : l.length ≤ maxLen) : ∃ v a' n', spec_l01Byte.f l a n = some (v, a', n') ∧ 0 ≤ v ∧ v ≤ 255 ∧ 0 ≤ a' := by
  have hm : maxLen ≤ 9223372036854775807 := by decide
  unfold spec_l01Byte.f
  by_cases h : a < (l.length : Int)
  · rw [if_pos h, if_pos h0]
    exact ⟨_, _, _, rfl, (and255 _).1, (and255 _).2, by rw [w64 (by omega) (by omega)]; omega⟩
  · rw [if_neg h]
    exact ⟨_, _, _, rfl, (and255 _).1, (and255 _).2, h0⟩
/-- A number below another is drawn. -/
theorem below_ev {l : List Int} {a : Int} (n : Int) {m : Int} (h0 : 0 ≤ a) (hl : l.length ≤ maxLen) (hm : 0 < m) : ∃ v a' n', spec_l01Below.f l a n m = some (v, a', n') ∧ 0 ≤ v ∧ v < m ∧ 0 ≤ a' := by
  unfold spec_l01Below.f
  rw [if_neg (by omega)]
  obtain ⟨v1, a1, n1, e1, l1, u1, p1⟩ := byte_ev n h0 hl
  by_cases h : m ≤ 256
  · rw [if_pos h, e1]
    simp only [Option.bind_some, if_neg (show ¬ m = 0 by omega)]
    refine ⟨_, _, _, rfl, ?_, ?_, p1⟩
    · exact Int.tmod_nonneg _ l1
    · exact Int.tmod_lt_of_pos _ hm
  · obtain ⟨v2, a2, n2, e2, l2, u2, p2⟩ := byte_ev n1 p1 hl
    obtain ⟨v3, a3, n3, e3, l3, u3, p3⟩ := byte_ev n2 p2 hl
    obtain ⟨v4, a4, n4, e4, l4, u4, p4⟩ := byte_ev n3 p3 hl
    rw [if_neg h, e1]
    simp only [Option.bind_some, e2, e3, e4, if_neg (show ¬ m = 0 by omega)]
    rw [w64 (x := v1 * 16777216) (by omega) (by omega), w64 (x := v2 * 65536) (by omega) (by omega), w64 (x := v3 * 256) (by omega) (by omega), w64 (x := v1 * 16777216 + v2 * 65536) (by omega) (by omega), w64 (x := v1 * 16777216 + v2 * 65536 + v3 * 256) (by omega) (by omega), w64 (x := v1 * 16777216 + v2 * 65536 + v3 * 256 + v4) (by omega) (by omega)]
    refine ⟨_, _, _, rfl, ?_, ?_, p4⟩
    · exact Int.tmod_nonneg _ (by omega)
    · exact Int.tmod_lt_of_pos _ hm
theorem new_loop {l : List Int} (hl : l.length ≤ maxLen) : ∀ (d i : Nat) (h : Int), i + d = min l.length 4000 → ∃ s, Ev (fun k => spec_l01New.l0 k l h (i : Int)) (l, 0, s)
  | 0, i, h, hi => by
    refine ⟨h, Ev.step (f := fun _ => some (l, 0, h)) (fun k => ?_) (Ev.now _)⟩
    simp only [spec_l01New.l0]
    by_cases h1 : (i : Int) < (l.length : Int)
    · rw [if_pos h1, if_neg (by omega)]
    · rw [if_neg h1]
  | d + 1, i, h, hi => by
    obtain ⟨s, hs⟩ := new_loop hl d (i + 1) (Go.bits .and .i64 (wrap64 ((wrap64 ((wrap64 (h * 131)) + (wrap64 (rd l (i : Int))))) + 7)) 1073741823) (by omega)
    refine ⟨s, Ev.step (fun k => ?_) hs⟩
    simp only [spec_l01New.l0]
    rw [if_pos (by omega), if_pos (by omega), if_pos (by omega), w64 (x := (i : Int) + 1) (by omega) (by omega)]
    rfl
theorem new_ev {l : List Int} (hl : l.length ≤ maxLen) : ∃ s, Ev (fun k => spec_l01New.f k l) (l, 0, s) := by
  unfold spec_l01New.f
  exact new_loop hl (min l.length 4000) 0 _ (by omega)
def inSide (x : Int) : Bool := decide (1 ≤ x ∧ x ≤ 8)
def sideOk (l : List Int) : Bool := decide (1 ≤ l.length ∧ l.length ≤ 4) && l.all inSide
def sumI : List Int → Int
  | [] => 0
  | x :: l => x + sumI l
/-- SquaresOf. -/
def sqv (c r : List Int) : Int := if sideOk c = true ∧ sideOk r = true then sumI c * sumI r else 0
def lvSq (n : Int) : Int := if n = 1 then 16 else if n = 2 then 64 else if n = 3 then 256 else 0
/-- SeqOk. -/
def seqOk (a b : Int) (c r : List Int) : Bool := decide (1 ≤ sqv c r ∧ sqv c r ≤ lvSq a) && decide (3 ≤ b ∧ b ≤ 8)
theorem sumI_bounds : ∀ l : List Int, l.all inSide = true → (l.length : Int) ≤ sumI l ∧ sumI l ≤ 8 * (l.length : Int)
  | [], _ => by simp [sumI]
  | x :: l, h => by
    rw [List.all_cons, Bool.and_eq_true] at h
    have hx : 1 ≤ x ∧ x ≤ 8 := of_decide_eq_true h.1
    have := sumI_bounds l h.2
    simp only [sumI, List.length_cons]
    omega
theorem sideOk_facts {l : List Int} (h : sideOk l = true) : 1 ≤ l.length ∧ l.length ≤ 4 ∧ l.all inSide = true ∧ 1 ≤ sumI l ∧ sumI l ≤ 32 := by
  unfold sideOk at h
  rw [Bool.and_eq_true] at h
  have h1 : 1 ≤ l.length ∧ l.length ≤ 4 := of_decide_eq_true h.1
  have := sumI_bounds l h.2
  exact ⟨h1.1, h1.2, h.2, by omega, by omega⟩
theorem sqv_bounds (c r : List Int) : 0 ≤ sqv c r ∧ sqv c r ≤ 1024 := by
  unfold sqv
  split
  · rename_i h
    obtain ⟨_, _, _, h1, h2⟩ := sideOk_facts h.1
    obtain ⟨_, _, _, h3, h4⟩ := sideOk_facts h.2
    have e1 : 0 ≤ sumI c * sumI r := Int.mul_nonneg (by omega) (by omega)
    have e2 : sumI c * sumI r ≤ 32 * 32 := Int.mul_le_mul h2 h4 (by omega) (by decide)
    exact ⟨e1, by omega⟩
  · exact ⟨by decide, by decide⟩
theorem seqOk_facts {a b : Int} {c r : List Int} (h : seqOk a b c r = true) : sideOk c = true ∧ sideOk r = true ∧ 1 ≤ a ∧ a ≤ 3 ∧ 3 ≤ b ∧ b ≤ 8 ∧ sqv c r = sumI c * sumI r := by
  unfold seqOk at h
  rw [Bool.and_eq_true] at h
  have h1 : 1 ≤ sqv c r ∧ sqv c r ≤ lvSq a := of_decide_eq_true h.1
  have h2 : 3 ≤ b ∧ b ≤ 8 := of_decide_eq_true h.2
  have h3 : 1 ≤ a ∧ a ≤ 3 := by
    have := h1.2
    unfold lvSq at this
    split at this
    · omega
    · split at this
      · omega
      · split at this <;> omega
  have h4 : sideOk c = true ∧ sideOk r = true := by
    by_cases h5 : sideOk c = true ∧ sideOk r = true
    · exact h5
    · have e : sqv c r = 0 := by unfold sqv; rw [if_neg h5]
      omega
  exact ⟨h4.1, h4.2, h3.1, h3.2, h2.1, h2.2, by unfold sqv; rw [if_pos h4]⟩
theorem in_yes {x lo hi : Int} (h0 : lo ≤ x) (h1 : x ≤ hi) : spec_l01In.f x lo hi = some true := by
  unfold spec_l01In.f
  rw [if_pos h0, decide_eq_true h1]
theorem in_no {x lo hi : Int} (h : ¬ (lo ≤ x ∧ x ≤ hi)) : spec_l01In.f x lo hi = some false := by
  unfold spec_l01In.f
  by_cases h0 : lo ≤ x
  · rw [if_pos h0, decide_eq_false (fun h1 => h ⟨h0, h1⟩)]
  · rw [if_neg h0]
theorem in_any (x lo hi : Int) : spec_l01In.f x lo hi = some (decide (lo ≤ x ∧ x ≤ hi)) := by
  by_cases h : lo ≤ x ∧ x ≤ hi
  · rw [in_yes h.1 h.2, decide_eq_true h]
  · rw [in_no h, decide_eq_false h]
theorem spec_sum_loop : ∀ (suf pre : List Int) (acc : Int), (pre ++ suf).length ≤ 4 → 0 ≤ acc → acc ≤ 8 * (pre.length : Int) →
    Ev (fun k => spec_l05Sum.l0 k (pre ++ suf) acc (pre.length : Int)) (if suf.all inSide = true then acc + sumI suf else 0)
  | [], pre, acc, hl, h0, h1 => by
    refine Ev.step (f := fun _ => some acc) (fun k => ?_) (by simp only [List.all_nil, if_true, sumI, Int.add_zero]; exact Ev.now _)
    simp only [spec_l05Sum.l0, List.append_nil]
    rw [if_neg (by omega)]
  | x :: suf, pre, acc, hl, h0, h1 => by
    have hl' : pre.length + (suf.length + 1) ≤ 4 := by simpa using hl
    by_cases hx : 1 ≤ x ∧ x ≤ 8
    · have ih := spec_sum_loop suf (pre ++ [x]) (acc + x) (by rw [← snoc_cons]; exact hl) (by omega) (by simp; omega)
      rw [← snoc_cons] at ih
      have e : (if (x :: suf).all inSide = true then acc + sumI (x :: suf) else 0) = (if suf.all inSide = true then acc + x + sumI suf else 0) := by
        rw [List.all_cons, show inSide x = true from decide_eq_true hx, Bool.true_and, sumI, Int.add_assoc]
      rw [e]
      refine Ev.step (fun k => ?_) ih
      simp only [spec_l05Sum.l0]
      rw [if_pos (by simp; omega), if_pos (by omega), rd_mid, in_yes hx.1 hx.2]
      simp only [Option.bind_some, if_true]
      rw [w64 (x := acc + x) (by omega) (by omega), next_len pre x (by omega)]
    · have e : (if (x :: suf).all inSide = true then acc + sumI (x :: suf) else 0) = 0 := by
        rw [List.all_cons, show inSide x = false from decide_eq_false hx, Bool.false_and]
        rfl
      rw [e]
      refine Ev.step (f := fun _ => some 0) (fun k => ?_) (Ev.now _)
      simp only [spec_l05Sum.l0]
      rw [if_pos (by simp; omega), if_pos (by omega), rd_mid, in_no hx]
      rfl
theorem spec_sum_ev (l : List Int) : Ev (fun k => spec_l05Sum.f k l) (if sideOk l = true then sumI l else 0) := by
  unfold spec_l05Sum.f sideOk
  by_cases h : 1 ≤ l.length ∧ l.length ≤ 4
  · simp only [if_neg (show ¬ (l.length : Int) < 1 by omega), decide_eq_true h, Bool.true_and, decide_eq_false (show ¬ (l.length : Int) > 4 by omega)]
    have := spec_sum_loop l [] 0 h.2 (by decide) (by decide)
    rw [Int.zero_add] at this
    refine Ev.step (fun k => ?_) this
    simp only [spec_l05Sum.j0, Bool.false_eq_true, if_false]
    rfl
  · have no : Ev (fun k => spec_l05Sum.j0 k l true) 0 := Ev.step (f := fun _ => some 0) (fun k => by simp only [spec_l05Sum.j0, if_true]) (Ev.now _)
    rw [decide_eq_false h, Bool.false_and]
    by_cases h1 : (l.length : Int) < 1
    · simp only [if_pos h1, Bool.false_eq_true, if_false]
      exact no
    · simp only [if_neg h1, Bool.false_eq_true, if_false, decide_eq_true (show (l.length : Int) > 4 by omega)]
      exact no
theorem spec_sq_ev (a b : Int) (c r : List Int) : Ev (fun k => spec_SquaresOf.f k a b c r) (sqv c r) := by
  unfold spec_SquaresOf.f
  refine Ev.bind (spec_sum_ev c) (Ev.bind (spec_sum_ev r) ?_)
  have hb := sqv_bounds c r
  have e : (if sideOk c = true then sumI c else 0) * (if sideOk r = true then sumI r else 0) = sqv c r := by
    unfold sqv
    cases sideOk c <;> cases sideOk r <;> simp
  rw [e, w64 (by omega) (by omega)]
  exact Ev.now _
theorem spec_lv (n : Int) : spec_LevelSquares.f n = some (lvSq n) := by
  unfold spec_LevelSquares.f lvSq
  split
  · rfl
  · split
    · rfl
    · split <;> rfl
theorem spec_seqok_ev (a b : Int) (c r : List Int) : Ev (fun k => spec_SeqOk.f k a b c r) (seqOk a b c r) := by
  unfold spec_SeqOk.f seqOk
  refine Ev.bind (spec_sq_ev a b c r) ?_
  simp only [spec_lv, Option.bind_some, in_any]
  by_cases h : 1 ≤ sqv c r ∧ sqv c r ≤ lvSq a
  · simp only [decide_eq_true h, if_true, Bool.true_and]
    exact Ev.now _
  · simp only [decide_eq_false h, Bool.false_eq_true, if_false, Bool.false_and]
    exact Ev.now _
/-- TilesOf. -/
def tilesV (a b : Int) (c r : List Int) : Int := if seqOk a b c r = true then (c.length : Int) * (r.length : Int) else 0
theorem tiles_bounds {a b : Int} {c r : List Int} (h : seqOk a b c r = true) : 1 ≤ (c.length : Int) * (r.length : Int) ∧ (c.length : Int) * (r.length : Int) ≤ 16 := by
  obtain ⟨h1, h2, _⟩ := seqOk_facts h
  obtain ⟨g1, g2, _⟩ := sideOk_facts h1
  obtain ⟨g3, g4, _⟩ := sideOk_facts h2
  have e1 : (1 : Int) * 1 ≤ (c.length : Int) * (r.length : Int) := Int.mul_le_mul (by omega) (by omega) (by decide) (by omega)
  have e2 : (c.length : Int) * (r.length : Int) ≤ 4 * 4 := Int.mul_le_mul (by omega) (by omega) (by omega) (by decide)
  exact ⟨by omega, by omega⟩
theorem spec_tiles_ev (a b : Int) (c r : List Int) : Ev (fun k => spec_TilesOf.f k a b c r) (tilesV a b c r) := by
  unfold spec_TilesOf.f tilesV
  refine Ev.bind (spec_seqok_ev a b c r) ?_
  by_cases h : seqOk a b c r = true
  · have := tiles_bounds h
    simp only [h, if_true]
    rw [w64 (by omega) (by omega)]
    exact Ev.now _
  · simp only [if_neg h]
    exact Ev.now _
/-- ParOk. -/
def parOkV (q : Int) (a b c : Bool) : Bool := decide (0 ≤ q ∧ q ≤ 40) && !(a && b)
theorem shl_small_val : ∀ m : Fin 31, shl .i64 1 ((m : Nat) : Int) = 2 ^ (m : Nat) ∧ (2 : Int) ^ (m : Nat) ≤ 1073741824 ∧ (1 : Int) ≤ 2 ^ (m : Nat) ∧ IntKind.u64.wrap ((m : Nat) : Int) = ((m : Nat) : Int) := by decide +kernel
theorem shl_val (w : Nat) (h : w ≤ 30) : shl .i64 1 (w : Int) = 2 ^ w := (shl_small_val ⟨w, by omega⟩).1
theorem pow_le (w : Nat) (h : w ≤ 30) : (2 : Int) ^ w ≤ 1073741824 := (shl_small_val ⟨w, by omega⟩).2.1
theorem pow_pos (w : Nat) (h : w ≤ 30) : (1 : Int) ≤ 2 ^ w := (shl_small_val ⟨w, by omega⟩).2.2.1
theorem u64_val (w : Nat) (h : w ≤ 30) : IntKind.u64.wrap (w : Int) = (w : Int) := (shl_small_val ⟨w, by omega⟩).2.2.2
/-- HeadOk. -/
def headOk (a b : Int) (c r : List Int) (q : Int) (x y z : Bool) (t f h : Int) : Bool :=
  seqOk a b c r && (parOkV q x y z && (decide (0 ≤ t ∧ t < tilesV a b c r) && (decide (0 ≤ f ∧ f < 2 ^ b.toNat) && decide (0 ≤ h ∧ h ≤ 40))))
/-- Sides, as they are drawn. -/
def SidesOk (l : List Int) : Prop := 1 ≤ l.length ∧ l.length ≤ 3 ∧ ∀ x, x ∈ l → 1 ≤ x ∧ x ≤ 2
theorem sides_loop {l : List Int} (hl : l.length ≤ maxLen) : ∀ (d i : Nat) (acc : List Int) (a n : Int), i + d = 3 → acc.length = i → 0 ≤ a → (∀ x, x ∈ acc → 1 ≤ x ∧ x ≤ 2) →
    ∃ s a' n', Ev (fun k => spec_l05Sides.l0 k acc (i : Int) l a n) (s, a', n') ∧ SidesOk s ∧ 0 ≤ a'
  | d, i, acc, a, n, hi, ha, h0, hx => by
    obtain ⟨v, a1, n1, e1, v0, v1, p1⟩ := below_ev n h0 hl (show (0 : Int) < 3 by decide)
    by_cases hv : (i : Int) ≤ v
    · obtain ⟨d, rfl⟩ : ∃ e, d = e + 1 := ⟨d - 1, by omega⟩
      obtain ⟨w, a2, n2, e2, w0, w1, p2⟩ := below_ev n1 p1 hl (show (0 : Int) < 2 by decide)
      obtain ⟨s, a', n', hs, hg, hp⟩ := sides_loop hl d (i + 1) (acc ++ [1 + w]) a2 n2 (by omega) (by simp; omega) p2 (fun x h => by
        rcases List.mem_append.1 h with h | h
        · exact hx x h
        · rw [List.mem_singleton.1 h]
          omega)
      refine ⟨s, a', n', Ev.step (fun k => ?_) hs, hg, hp⟩
      simp only [spec_l05Sides.l0]
      rw [e1]
      simp only [Option.bind_some, if_pos hv, e2, if_pos (show acc.length < 17592186044416 by omega)]
      rw [w64 (x := (i : Int) + 1) (by omega) (by omega), w64 (x := 1 + w) (by omega) (by omega)]
      rfl
    · refine ⟨acc, a1, n1, Ev.step (f := fun _ => some (acc, a1, n1)) (fun k => ?_) (Ev.now _), ⟨by omega, by omega, hx⟩, p1⟩
      simp only [spec_l05Sides.l0]
      rw [e1]
      simp only [Option.bind_some, if_neg hv]
  termination_by d => d
theorem sides_ev {l : List Int} (hl : l.length ≤ maxLen) {a : Int} (n : Int) (h0 : 0 ≤ a) : ∃ s a' n', Ev (fun k => spec_l05Sides.f k l a n) (s, a', n') ∧ SidesOk s ∧ 0 ≤ a' := by
  unfold spec_l05Sides.f
  exact sides_loop hl 3 0 [] a n rfl rfl h0 (fun x h => by cases h)
theorem sides_sum : ∀ l : List Int, (∀ x, x ∈ l → 1 ≤ x ∧ x ≤ 2) → l.all inSide = true ∧ (l.length : Int) ≤ sumI l ∧ sumI l ≤ 2 * (l.length : Int)
  | [], _ => ⟨rfl, by simp [sumI], by simp [sumI]⟩
  | x :: l, h => by
    have hx := h x (List.mem_cons_self ..)
    obtain ⟨i1, i2, i3⟩ := sides_sum l (fun y hy => h y (List.mem_cons_of_mem _ hy))
    refine ⟨?_, by simp only [sumI, List.length_cons]; omega, by simp only [sumI, List.length_cons]; omega⟩
    rw [List.all_cons, i1, Bool.and_true]
    exact decide_eq_true (by omega)
theorem sides_facts {l : List Int} (h : SidesOk l) : sideOk l = true ∧ 1 ≤ sumI l ∧ sumI l ≤ 6 := by
  obtain ⟨h1, h2, h3⟩ := h
  obtain ⟨i1, i2, i3⟩ := sides_sum l h3
  refine ⟨?_, by omega, by omega⟩
  unfold sideOk
  rw [i1, Bool.and_true]
  exact decide_eq_true (by omega)
theorem sq_sides {c r : List Int} (hc : SidesOk c) (hr : SidesOk r) : sqv c r = sumI c * sumI r ∧ 1 ≤ sqv c r ∧ sqv c r ≤ 36 := by
  obtain ⟨c1, c2, c3⟩ := sides_facts hc
  obtain ⟨r1, r2, r3⟩ := sides_facts hr
  have e : sqv c r = sumI c * sumI r := if_pos ⟨c1, r1⟩
  rw [e]
  refine ⟨rfl, ?_, ?_⟩
  · have := Int.mul_le_mul (show (1 : Int) ≤ sumI c by omega) (show (1 : Int) ≤ sumI r by omega) (by decide) (by omega)
    omega
  · have := Int.mul_le_mul (show sumI c ≤ 6 by omega) (show sumI r ≤ 6 by omega) (by omega) (by decide)
    omega
/-- A set, as it is drawn. -/
def SetOk (a b : Int) (c r : List Int) : Prop := SidesOk c ∧ SidesOk r ∧ (a = 3 ∨ a = 1) ∧ 3 ≤ b ∧ b ≤ 5 ∧ seqOk a b c r = true
theorem right_ev {l : List Int} (hl : l.length ≤ maxLen) {a : Int} (n : Int) (h0 : 0 ≤ a) : ∃ lv b c r a' n', Ev (fun k => spec_l05Right.f k l a n) (lv, b, c, r, a', n') ∧ SetOk lv b c r ∧ 0 ≤ a' := by
  obtain ⟨v, a1, n1, e1, v0, v1, p1⟩ := below_ev n h0 hl (show (0 : Int) < 3 by decide)
  obtain ⟨c, a2, n2, hc, sc, p2⟩ := sides_ev hl n1 p1
  obtain ⟨r, a3, n3, hr, sr, p3⟩ := sides_ev hl n2 p2
  obtain ⟨w, a4, n4, e4, w0, w1, p4⟩ := below_ev n3 p3 hl (show (0 : Int) < 2 by decide)
  have hsq := sq_sides sc sr
  have hseq : ∀ lv, (lv = 3 ∨ (lv = 1 ∧ sqv c r ≤ 16)) → seqOk lv (3 + v) c r = true := by
    intro lv h
    unfold seqOk lvSq
    rw [Bool.and_eq_true]
    refine ⟨decide_eq_true ?_, decide_eq_true (by omega)⟩
    rcases h with rfl | ⟨rfl, h⟩
    · exact ⟨hsq.2.1, Int.le_trans hsq.2.2 (by decide)⟩
    · exact ⟨hsq.2.1, Int.le_trans h (by decide)⟩
  have three : SetOk 3 (3 + v) c r := ⟨sc, sr, Or.inl rfl, by omega, by omega, hseq 3 (Or.inl rfl)⟩
  have eo : spec_l01Once.f l a3 n3 2 = some ((w == 0), a4, n4) := by
    unfold spec_l01Once.f
    rw [e4]
    rfl
  unfold spec_l05Right.f
  rw [e1]
  simp only [Option.bind_some]
  rw [w64 (x := 3 + v) (by omega) (by omega)]
  cases hw : (w == 0)
  · refine ⟨3, 3 + v, c, r, a4, n4, Ev.bind hc (Ev.bind hr ?_), three, p4⟩
    simp only [eo, hw, Option.bind_some, Bool.false_eq_true, if_false]
    exact Ev.now _
  · by_cases h16 : sqv c r ≤ 16
    · refine ⟨1, 3 + v, c, r, a4, n4, Ev.bind hc (Ev.bind hr ?_), ⟨sc, sr, Or.inr rfl, by omega, by omega, hseq 1 (Or.inr ⟨rfl, h16⟩)⟩, p4⟩
      simp only [eo, hw, Option.bind_some, if_true]
      refine Ev.bind (spec_sq_ev _ _ _ _) ?_
      simp only [if_pos h16]
      exact Ev.now _
    · refine ⟨3, 3 + v, c, r, a4, n4, Ev.bind hc (Ev.bind hr ?_), three, p4⟩
      simp only [eo, hw, Option.bind_some, if_true]
      refine Ev.bind (spec_sq_ev _ _ _ _) ?_
      simp only [if_neg h16]
      exact Ev.now _
theorem parright_ev {l : List Int} (hl : l.length ≤ maxLen) {a : Int} (n : Int) (h0 : 0 ≤ a) : ∃ q x y z a' n', spec_l05ParRight.f l a n = some (q, x, y, z, a', n') ∧ parOkV q x y z = true ∧ 0 ≤ a' := by
  obtain ⟨v, a1, n1, e1, v0, v1, p1⟩ := below_ev n h0 hl (show (0 : Int) < 41 by decide)
  obtain ⟨w, a2, n2, e2, w0, w1, p2⟩ := below_ev n1 p1 hl (show (0 : Int) < 4 by decide)
  obtain ⟨u, a3, n3, e3, u0, u1, p3⟩ := below_ev n2 p2 hl (show (0 : Int) < 3 by decide)
  have hq : ∀ x y z : Bool, (x && y) = false → parOkV v x y z = true := by
    intro x y z h
    unfold parOkV
    rw [decide_eq_true (show 0 ≤ v ∧ v ≤ 40 by omega), h]
    rfl
  unfold spec_l05ParRight.f spec_l01Once.f
  rw [e1]
  simp only [Option.bind_some, e2, e3]
  by_cases h : u = 0
  · rw [if_pos h]
    exact ⟨_, _, _, _, _, _, rfl, hq _ _ _ rfl, p3⟩
  · rw [if_neg h]
    by_cases h1 : u = 1
    · rw [if_pos h1]
      exact ⟨_, _, _, _, _, _, rfl, hq _ _ _ rfl, p3⟩
    · rw [if_neg h1]
      exact ⟨_, _, _, _, _, _, rfl, hq _ _ _ rfl, p3⟩
theorem head_ev {l : List Int} (hl : l.length ≤ maxLen) {a : Int} (n : Int) (h0 : 0 ≤ a) {lv b : Int} {c r : List Int} {q : Int} {x y z : Bool} (hs : SetOk lv b c r) (hp : parOkV q x y z = true) : ∃ t f h a' n', Ev (fun k => spec_l07Head.f k l a n lv b c r) (t, f, h, a', n') ∧ headOk lv b c r q x y z t f h = true := by
  obtain ⟨_, _, _, b0, b1, ok⟩ := hs
  have ht := tiles_bounds ok
  have htv : tilesV lv b c r = (c.length : Int) * (r.length : Int) := if_pos ok
  obtain ⟨t, a1, n1, e1, t0, t1, p1⟩ := below_ev n h0 hl (show (0 : Int) < tilesV lv b c r by omega)
  obtain ⟨h, a2, n2, e2, q0, q1, p2⟩ := below_ev n1 p1 hl (show (0 : Int) < 41 by decide)
  obtain ⟨w, rfl⟩ := Int.eq_ofNat_of_zero_le (show 0 ≤ b by omega)
  have hb2 := pow_pos w (by omega)
  obtain ⟨f, a3, n3, e3, f0, f1, p3⟩ := below_ev n2 p2 hl (show (0 : Int) < 2 ^ w by omega)
  refine ⟨t, f, h, a3, n3, ?_, ?_⟩
  · unfold spec_l07Head.f
    refine Ev.bind (spec_tiles_ev _ _ _ _) ?_
    rw [in_yes (by omega) (by omega), u64_val w (by omega), shl_val w (by omega)]
    simp only [e1, e2, Option.bind_some, if_true, if_pos (show (0 : Int) ≤ (w : Int) by omega), e3]
    exact Ev.now _
  · unfold headOk
    rw [ok, hp, decide_eq_true ⟨t0, t1⟩, Int.toNat_natCast, decide_eq_true ⟨f0, f1⟩, decide_eq_true ⟨q0, show h ≤ 40 by omega⟩]
    rfl
/-- DrawSets: a right set, a right par and a right head. -/
theorem sets_ev {l : List Int} (hl : l.length ≤ maxLen) : ∃ lv b c r q x y z t f h, Ev (fun k => spec_DrawSets.f k l) (lv, b, c, r, q, x, y, z, t, f, h) ∧ SetOk lv b c r ∧ parOkV q x y z = true ∧ headOk lv b c r q x y z t f h = true := by
  obtain ⟨s, hs⟩ := new_ev hl
  obtain ⟨lv, b, c, r, a1, n1, h1, s1, p1⟩ := right_ev (a := 0) hl s (by decide)
  obtain ⟨q, x, y, z, a2, n2, h2, s2, p2⟩ := parright_ev hl n1 p1
  obtain ⟨t, f, h, a3, n3, h3, s3⟩ := head_ev hl n2 p2 s1 s2
  refine ⟨lv, b, c, r, q, x, y, z, t, f, h, ?_, s1, s2, s3⟩
  unfold spec_DrawSets.f
  refine Ev.bind hs (Ev.bind h1 ?_)
  simp only [h2, Option.bind_some]
  exact Ev.bind h3 (Ev.now _)
theorem drawsigns_loop {l : List Int} (hl : l.length ≤ maxLen) : ∀ (d i m : Nat) (acc : List Int) (a n : Int), i + d = m → m ≤ 1000 → acc.length = i → 0 ≤ a → (∀ x, x ∈ acc → x = 48 ∨ x = 49) → ∃ p a' n', Ev (fun k => spec_l02Signs.l0 k (m : Int) acc (i : Int) l a n) (strOfNums p, a', n') ∧ p.length = m ∧ (∀ x, x ∈ p → x = 48 ∨ x = 49) ∧ 0 ≤ a'
  | 0, i, m, acc, a, n, hi, hm, ha, h0, hx => by
    refine ⟨acc, a, n, Ev.step (f := fun _ => some (strOfNums acc, a, n)) (fun k => ?_) (Ev.now _), by omega, hx, h0⟩
    simp only [spec_l02Signs.l0]
    rw [if_neg (by omega)]
  | d + 1, i, m, acc, a, n, hi, hm, ha, h0, hx => by
    obtain ⟨v, a', n', e, v0, v1, p1⟩ := below_ev n h0 hl (show (0 : Int) < 2 by decide)
    obtain ⟨p, a2, n2, hp, hlen, hq, p2⟩ := drawsigns_loop hl d (i + 1) m (acc ++ [48 + v]) a' n' (by omega) hm (by simp; omega) p1 (fun x h => by
      rcases List.mem_append.1 h with h | h
      · exact hx x h
      · rw [List.mem_singleton.1 h]
        omega)
    refine ⟨p, a2, n2, Ev.step (fun k => ?_) hp, hlen, hq, p2⟩
    simp only [spec_l02Signs.l0]
    rw [if_pos (by omega), e]
    simp only [Option.bind_some, if_pos (show acc.length < 140737488355328 by omega)]
    rw [w64 (x := (i : Int) + 1) (by omega) (by omega), w64 (x := 48 + v) (by omega) (by omega), Int.emod_eq_of_lt (by omega) (by omega)]
    rfl
theorem row_ev {l : List Int} (hl : l.length ≤ maxLen) : ∃ p, Ev (fun k => spec_DrawRow.f k l) (strOfNums p) ∧ p.length ≤ 60 ∧ ∀ x, x ∈ p → x = 48 ∨ x = 49 := by
  obtain ⟨s, hs⟩ := new_ev hl
  obtain ⟨v, a', n', e, v0, v1, p1⟩ := below_ev (a := 0) s (by decide) hl (show (0 : Int) < 61 by decide)
  obtain ⟨m, rfl⟩ := Int.eq_ofNat_of_zero_le v0
  obtain ⟨p, a2, n2, hp, hlen, hq, _⟩ := drawsigns_loop hl m 0 m [] a' n' (by omega) (by omega) rfl p1 (fun x h => by cases h)
  refine ⟨p, ?_, by omega, hq⟩
  unfold spec_DrawRow.f
  refine Ev.bind hs ?_
  simp only [e, Option.bind_some]
  unfold spec_l02Signs.f
  exact Ev.bind hp (Ev.now _)
theorem Bys.signs {p : List Int} (h : ∀ x, x ∈ p → x = 48 ∨ x = 49) : Bys p := fun x hx => by
  rcases h x hx with h | h <;> omega
/-- The signs of a number, so many. -/
def sg : Nat → Int → List Int
  | 0, _ => []
  | w + 1, n => sg w (n / 2) ++ [48 + n % 2]
theorem sg_len : ∀ (w : Nat) (n : Int), (sg w n).length = w
  | 0, _ => rfl
  | w + 1, n => by simp [sg, sg_len w]
theorem sg_row : ∀ (w : Nat) (n : Int), ∀ x, x ∈ sg w n → x = 48 ∨ x = 49
  | 0, _ => fun _ h => by cases h
  | w + 1, n => fun x hx => by
    rcases List.mem_append.1 hx with h | h
    · exact sg_row w _ x h
    · have : x = 48 + n % 2 := by simpa using h
      omega
theorem sg_bys (w : Nat) (n : Int) : Bys (sg w n) := fun x hx => by
  rcases sg_row w n x hx with h | h <;> omega
theorem set_rep (j : Nat) (v : Int) (tl : List Int) : (List.replicate (j + 1) (0 : Int) ++ tl).set j v = List.replicate j 0 ++ v :: tl := by
  rw [List.replicate_succ', List.append_assoc, List.set_append_right _ _ (by simp)]
  simp
/-- How many binary figures a number has. -/
def bl (n : Nat) : Nat := if h : n = 0 then 0 else bl (n / 2) + 1
termination_by n
decreasing_by omega
theorem bl_zero : bl 0 = 0 := by rw [bl]; simp
theorem bl_pos (n : Nat) (h : n ≠ 0) : bl n = bl (n / 2) + 1 := by rw [bl]; simp [h]
theorem bl_small : ∀ (j n : Nat), n < 2 ^ j → bl n ≤ j
  | 0, n, h => by
    have : n = 0 := by simpa using h
    subst this
    rw [bl_zero]
    exact Nat.le_refl _
  | j + 1, n, h => by
    by_cases h0 : n = 0
    · subst h0
      rw [bl_zero]
      omega
    · rw [bl_pos n h0]
      have := bl_small j (n / 2) (by rw [Nat.pow_succ] at h; omega)
      omega
theorem lt_bl (j : Nat) : ∀ n : Nat, n < j → n < 2 ^ bl n := by
  induction j with
  | zero => intro n h; omega
  | succ j ih =>
    intro n h
    by_cases h0 : n = 0
    · subst h0
      rw [bl_zero]
      decide
    · rw [bl_pos n h0, Nat.pow_succ]
      have := ih (n / 2) (by omega)
      omega
theorem lt_two_bl (n : Nat) : n < 2 ^ bl n := lt_bl (n + 1) n (Nat.lt_succ_self n)
theorem bl_one (n : Nat) (h : n ≠ 0) : 1 ≤ bl n := by rw [bl_pos n h]; omega
theorem sg_zero : ∀ j : Nat, sg j 0 = List.replicate j 48
  | 0 => rfl
  | j + 1 => by
    rw [sg, show (0 : Int) / 2 = 0 by decide, sg_zero j, List.replicate_succ']
    rfl
/-- Noughts ahead. -/
theorem sg_pad (j : Nat) : ∀ (w : Nat) (n : Nat), n < 2 ^ w → sg (j + w) (n : Int) = List.replicate j 48 ++ sg w (n : Int)
  | 0, n, h => by
    have : n = 0 := by simpa using h
    subst this
    simp [sg, sg_zero]
  | w + 1, n, h => by
    have h2 : n / 2 < 2 ^ w := by rw [Nat.pow_succ] at h; omega
    have ih := sg_pad j w (n / 2) h2
    rw [← Nat.add_assoc, sg, sg, show ((n : Int) / 2) = ((n / 2 : Nat) : Int) by omega, ih, List.append_assoc]
/-- The row of a counted number. -/
def ueL (n : Nat) : List Int := sg (2 * bl (n + 1) - 1) ((n + 1 : Nat) : Int)
theorem ueL_len (n : Nat) : (ueL n).length = 2 * bl (n + 1) - 1 := sg_len _ _
theorem ueL_eq (n : Nat) : ueL n = List.replicate (bl (n + 1) - 1) 48 ++ sg (bl (n + 1)) ((n + 1 : Nat) : Int) := by
  unfold ueL
  have h := bl_one (n + 1) (by omega)
  rw [show 2 * bl (n + 1) - 1 = (bl (n + 1) - 1) + bl (n + 1) by omega]
  exact sg_pad _ _ _ (lt_two_bl (n + 1))
theorem ueL_bys (n : Nat) : Bys (ueL n) := sg_bys _ _
/-- The number that signs tell, behind n. -/
def vb : Int → List Int → Int
  | n, [] => n
  | n, x :: l => vb (2 * n + (x - 48)) l
theorem vb_bounds : ∀ (l : List Int) (n : Int) (j : Nat), (∀ x, x ∈ l → x = 48 ∨ x = 49) → 0 ≤ n → n < 2 ^ j → 0 ≤ vb n l ∧ vb n l < 2 ^ (j + l.length)
  | [], n, j, _, h0, h1 => ⟨h0, by simpa [vb] using h1⟩
  | x :: l, n, j, hm, h0, h1 => by
    have hx := hm x (by simp)
    have h2 : 2 * n + (x - 48) < 2 ^ (j + 1) := by
      rw [Int.pow_succ]
      rcases hx with rfl | rfl <;> omega
    have := vb_bounds l (2 * n + (x - 48)) (j + 1) (fun y hy => hm y (by simp [hy])) (by rcases hx with rfl | rfl <;> omega) h2
    rw [show j + (x :: l).length = j + 1 + l.length by simp; omega]
    exact this
theorem vb_append : ∀ (l m : List Int) (n : Int), vb n (l ++ m) = vb (vb n l) m
  | [], _, _ => rfl
  | x :: l, m, n => by simp only [List.cons_append, vb, vb_append l m]
theorem vb_zeros : ∀ (j : Nat) (l : List Int), vb 0 (List.replicate j 48 ++ l) = vb 0 l
  | 0, _ => rfl
  | j + 1, l => by
    rw [List.replicate_succ, List.cons_append, vb]
    exact vb_zeros j l
/-- How many noughts a list begins with. -/
def lz : List Int → Nat
  | [] => 0
  | x :: l => if x = 48 then lz l + 1 else 0
theorem lz_le : ∀ l : List Int, lz l ≤ l.length
  | [] => Nat.le_refl _
  | x :: l => by
    unfold lz
    split
    · have := lz_le l
      simp only [List.length_cons]
      omega
    · exact Nat.zero_le _
theorem lz_get : ∀ (l : List Int) (i : Nat), i < lz l → l.getD i 0 = 48
  | [], i, h => by simp [lz] at h
  | x :: l, i, h => by
    unfold lz at h
    split at h
    · rename_i hx
      cases i with
      | zero => simpa using hx
      | succ i =>
        have := lz_get l i (by omega)
        simpa using this
    · omega
theorem lz_stop : ∀ (l : List Int), lz l < l.length → l.getD (lz l) 0 ≠ 48
  | [], h => by simp [lz] at h
  | x :: l, h => by
    unfold lz at h ⊢
    split
    · rename_i hx
      rw [if_pos hx] at h
      have := lz_stop l (by simp only [List.length_cons] at h; omega)
      simpa using this
    · rename_i hx
      simpa using hx
theorem lz_split : ∀ (l : List Int), l = List.replicate (lz l) 48 ++ l.drop (lz l)
  | [] => rfl
  | x :: l => by
    unfold lz
    split
    · rename_i hx
      rw [List.replicate_succ, List.drop_succ_cons, List.cons_append, ← lz_split l, hx]
    · rfl
theorem getD_drop (l : List Int) (p i : Nat) : (l.drop p).getD i 0 = l.getD (p + i) 0 := by
  rw [List.getD_eq_getElem?_getD, List.getD_eq_getElem?_getD, List.getElem?_drop]
/-- ReadUe of a row, at a place in it. -/
def rdUe (l : List Int) (p : Nat) : Option (Nat × Nat) :=
  if lz (l.drop p) ≤ 20 ∧ p + (2 * lz (l.drop p) + 1) ≤ l.length ∧ vb 0 ((l.drop p).take (2 * lz (l.drop p) + 1)) - 1 ≤ 1000000 then some ((vb 0 ((l.drop p).take (2 * lz (l.drop p) + 1)) - 1).toNat, p + (2 * lz (l.drop p) + 1)) else none
theorem take_split (m : List Int) (w : Nat) : m.take (lz m + w) = List.replicate (lz m) 48 ++ (m.drop (lz m)).take w := by
  refine (congrArg (List.take (lz m + w)) (lz_split m)).trans ?_
  rw [List.take_append, List.take_of_length_le (by rw [List.length_replicate]; omega), List.length_replicate, Nat.add_sub_cancel_left]
theorem vb_big {m : List Int} (hm : ∀ x, x ∈ m → x = 48 ∨ x = 49) (w : Nat) (h : lz m + (w + 1) ≤ m.length) : 2 ^ w ≤ vb 0 ((m.drop (lz m)).take (w + 1)) ∧ vb 0 ((m.drop (lz m)).take (w + 1)) < 2 ^ (w + 1) := by
  have hlt : lz m < m.length := by omega
  have hx : m[lz m] = 49 := by
    have h1 := lz_stop m hlt
    rw [List.getD_eq_getElem?_getD, List.getElem?_eq_getElem hlt] at h1
    rcases hm _ (List.getElem_mem hlt) with h2 | h2
    · exact absurd h2 h1
    · exact h2
  have hd : (m.drop (lz m)).take (w + 1) = 49 :: (m.drop (lz m + 1)).take w := by
    rw [List.drop_eq_getElem_cons hlt, List.take_succ_cons, hx]
  have hmem : ∀ x, x ∈ (m.drop (lz m + 1)).take w → x = 48 ∨ x = 49 := fun x hx => hm x (List.mem_of_mem_drop (List.mem_of_mem_take hx))
  have hlen : ((m.drop (lz m + 1)).take w).length = w := by
    rw [List.length_take, List.length_drop]
    omega
  have lowb : ∀ (t : List Int) (n : Int), (∀ x, x ∈ t → x = 48 ∨ x = 49) → 1 ≤ n → 2 ^ t.length * n ≤ vb n t := by
    intro t
    induction t with
    | nil => intro n _ _; simp [vb]
    | cons y t ih =>
      intro n ht hn
      have hy := ht y (by simp)
      have := ih (2 * n + (y - 48)) (fun z hz => ht z (by simp [hz])) (by rcases hy with h | h <;> rw [h] <;> omega)
      rw [vb, List.length_cons, Int.pow_succ]
      have h2 : (2 : Int) ^ t.length * 2 * n ≤ 2 ^ t.length * (2 * n + (y - 48)) := by
        rw [Int.mul_assoc]
        apply Int.mul_le_mul_of_nonneg_left
        · rcases hy with h | h <;> rw [h] <;> omega
        · exact Int.pow_nonneg (by decide)
      omega
  rw [hd, vb, show (2 : Int) * 0 + (49 - 48) = 1 by decide]
  have h1 := lowb _ 1 hmem (by decide)
  have h2 := vb_bounds _ 1 1 hmem (by decide) (by decide)
  rw [hlen] at h1 h2
  rw [show w + 1 = 1 + w by omega]
  exact ⟨by omega, h2.2⟩
theorem vb_sg : ∀ (w : Nat) (n : Int), 0 ≤ n → n < 2 ^ w → vb 0 (sg w n) = n
  | 0, n, h0, h1 => by
    simp only [Int.pow_zero] at h1
    simp only [sg, vb]
    omega
  | w + 1, n, h0, h1 => by
    rw [Int.pow_succ] at h1
    rw [sg, vb_append, vb_sg w (n / 2) (by omega) (by omega)]
    simp only [vb]
    omega
theorem bl_low (j : Nat) : ∀ n : Nat, n < j → n ≠ 0 → 2 ^ (bl n - 1) ≤ n := by
  induction j with
  | zero => intro n h _; omega
  | succ j ih =>
    intro n h h0
    rw [bl_pos n h0, Nat.add_sub_cancel]
    by_cases h2 : n / 2 = 0
    · rw [h2, bl_zero]
      omega
    · have i1 := ih (n / 2) (by omega) h2
      have i2 := bl_one (n / 2) h2
      rw [show bl (n / 2) = (bl (n / 2) - 1) + 1 by omega, Nat.pow_succ]
      omega
theorem bl_mono {n m : Nat} (h : n ≤ m) : bl n ≤ bl m := bl_small _ _ (Nat.lt_of_le_of_lt h (lt_two_bl m))
theorem sg_top : ∀ (w n : Nat), 2 ^ w ≤ n → n < 2 ^ (w + 1) → ∃ t, sg (w + 1) (n : Int) = 49 :: t
  | 0, n, h0, h1 => by
    have : n = 1 := by simp at h0 h1; omega
    subst this
    exact ⟨[], rfl⟩
  | w + 1, n, h0, h1 => by
    rw [Nat.pow_succ] at h0 h1
    obtain ⟨t, ht⟩ := sg_top w (n / 2) (by omega) (by rw [Nat.pow_succ] at h1 ⊢; omega)
    refine ⟨t ++ [48 + (n : Int) % 2], ?_⟩
    rw [sg, show (n : Int) / 2 = ((n / 2 : Nat) : Int) by omega, ht, List.cons_append]
theorem lz_rep (m : List Int) : ∀ j : Nat, lz (List.replicate j 48 ++ m) = j + lz m
  | 0 => by rw [List.replicate_zero, List.nil_append, Nat.zero_add]
  | j + 1 => by
    rw [List.replicate_succ, List.cons_append, lz, if_pos rfl, lz_rep m j]
    omega
theorem ueL_row (n : Nat) : ∀ x, x ∈ ueL n → x = 48 ∨ x = 49 := sg_row _ _
theorem bl_count {n : Nat} (hn : n ≤ 1000000) : bl (n + 1) ≤ 20 := bl_small 20 (n + 1) (Nat.lt_of_le_of_lt (Nat.succ_le_succ hn) (by decide))
theorem ueL_size {n : Nat} (hn : n ≤ 1000000) : 1 ≤ (ueL n).length ∧ (ueL n).length ≤ 39 := by
  have h1 := bl_one (n + 1) (by omega)
  have h2 := bl_count hn
  rw [ueL_len]
  omega
/-- What UeRow wrote, ReadUe reads. -/
theorem rdUe_ue {pre suf : List Int} {n : Nat} (hn : n ≤ 1000000) : rdUe (pre ++ (ueL n ++ suf)) pre.length = some (n, pre.length + (ueL n).length) := by
  have h1 := bl_one (n + 1) (by omega)
  have h2 := bl_count hn
  have h3 := bl_low (n + 2) (n + 1) (by omega) (by omega)
  have h4 := lt_two_bl (n + 1)
  have hlen := ueL_len n
  obtain ⟨t, ht⟩ := sg_top (bl (n + 1) - 1) (n + 1) h3 (by rw [show bl (n + 1) - 1 + 1 = bl (n + 1) by omega]; exact h4)
  have e : bl (n + 1) - 1 + 1 = bl (n + 1) := by omega
  rw [e] at ht
  have hlz : lz (ueL n ++ suf) = bl (n + 1) - 1 := by
    rw [ueL_eq, ht, List.append_assoc, lz_rep, List.cons_append, lz, if_neg (by decide), Nat.add_zero]
  have hw : 2 * (bl (n + 1) - 1) + 1 = (ueL n).length := by omega
  have ht2 : (ueL n ++ suf).take (ueL n).length = ueL n := List.take_left' rfl
  have hv : vb 0 (ueL n) = ((n + 1 : Nat) : Int) := by
    unfold ueL
    refine vb_sg _ _ (by omega) ?_
    have h5 : (2 : Nat) ^ bl (n + 1) ≤ 2 ^ (2 * bl (n + 1) - 1) := Nat.pow_le_pow_right (by decide) (by omega)
    have h6 : n + 1 < 2 ^ (2 * bl (n + 1) - 1) := Nat.lt_of_lt_of_le h4 h5
    exact_mod_cast h6
  unfold rdUe
  rw [List.drop_left, hlz, hw, ht2, hv, if_pos ⟨by omega, by rw [List.length_append, List.length_append]; omega, by omega⟩, show (((n + 1 : Nat) : Int) - 1).toNat = n by omega]
theorem ueL_short {n : Nat} (h : n ≤ 1000000) : (ueL n).length ≤ 39 := by
  have := bl_small 20 (n + 1) (by omega)
  rw [ueL_len]
  omega
/-- Counted numbers, one behind the other. -/
def uesL : List Int → List Int
  | [] => []
  | x :: l => ueL x.toNat ++ uesL l
def listL (l : List Int) : List Int := ueL l.length ++ uesL l
/-- SeqRow. -/
def seqL (a b : Int) (c r : List Int) : List Int := ueL a.toNat ++ sg 4 b ++ listL c ++ listL r
theorem uesL_len : ∀ {l : List Int}, l.all inSide = true → (uesL l).length ≤ 39 * l.length
  | [], _ => Nat.le_refl _
  | x :: l, h => by
    rw [List.all_cons, Bool.and_eq_true] at h
    have hx : 1 ≤ x ∧ x ≤ 8 := of_decide_eq_true h.1
    have h1 := uesL_len h.2
    have h2 := ueL_short (n := x.toNat) (by omega)
    simp only [uesL, List.length_append, List.length_cons]
    omega
theorem listL_len {l : List Int} (h : sideOk l = true) : (listL l).length ≤ 200 := by
  obtain ⟨h1, h2, h3, _⟩ := sideOk_facts h
  have := uesL_len h3
  have h4 := ueL_short (n := l.length) (by omega)
  unfold listL
  rw [List.length_append]
  omega
theorem and1_val (n : Int) (h0 : 0 ≤ n) (h1 : n < 4611686018427387904) : Go.bits .and .i64 n 1 = n % 2 := by
  have h := Go.bits_mask .i64 62 (by decide) (fun m hm0 hm1 => by rw [Go.IntKind.wrap_i64]; omega) 1 (by decide) n h0 (by omega)
  simpa using h
theorem signs_loop : ∀ (j : Nat) (n : Int) (tl : List Int), 0 ≤ n → n < 4611686018427387904 → j ≤ 1000000 →
    Ev (fun k => impl_signs.l0 k n (List.replicate j 0 ++ tl) ((j : Int) - 1)) (strOfNums (sg j n ++ tl))
  | 0, n, tl, h0, h1, hj => by
    refine Ev.step (f := fun _ => some (strOfNums tl)) (fun k => ?_) (by simp only [sg, List.nil_append]; exact Ev.now _)
    simp only [impl_signs.l0, List.replicate_zero, List.nil_append]
    rw [if_neg (by omega)]
  | j + 1, n, tl, h0, h1, hj => by
    have ih := signs_loop j (n / 2) ((48 + n % 2) :: tl) (by omega) (by omega) (by omega)
    have e : sg (j + 1) n ++ tl = sg j (n / 2) ++ (48 + n % 2) :: tl := by simp [sg]
    rw [e]
    refine Ev.step (fun k => ?_) ih
    simp only [impl_signs.l0]
    rw [if_pos (by omega), if_pos (by omega), if_pos (by simp; omega), and1_val n h0 h1, w64 (x := 48 + n % 2) (by omega) (by omega)]
    rw [Int.emod_eq_of_lt (a := 48 + n % 2) (by omega) (by omega), show (((j + 1 : Nat) : Int) - 1).toNat = j by omega, set_rep]
    rw [w64 (by omega) (by omega), show ((j + 1 : Nat) : Int) - 1 - 1 = (j : Int) - 1 by omega]
theorem signs_ev (n : Int) (w : Nat) (h0 : 0 ≤ n) (h1 : n < 4611686018427387904) (hw : w ≤ 1000000) : Ev (fun k => impl_signs.f k n (w : Int)) (strOfNums (sg w n)) := by
  have h := signs_loop w n [] h0 h1 hw
  rw [List.append_nil, List.append_nil] at h
  refine Ev.congr (fun k => ?_) h
  unfold impl_signs.f
  rw [if_pos (by omega), if_pos (by omega), Int.toNat_natCast, w64 (by omega) (by omega)]
theorem figs_loop : ∀ (j n : Nat) (c : Int), n < 2 ^ j → 0 ≤ c → c + j ≤ 1000 → Ev (fun k => impl_figuresOf.l0 k (n : Int) c) (c + (bl n : Int))
  | j, n, c, hn, h0, h1 => by
    by_cases hz : n = 0
    · subst hz
      rw [bl_zero]
      refine Ev.step (f := fun _ => some c) (fun k => ?_) (by simp only [Int.natCast_zero, Int.add_zero]; exact Ev.now _)
      simp only [impl_figuresOf.l0]
      rw [if_neg (by omega)]
    · obtain ⟨j, rfl⟩ : ∃ i, j = i + 1 := by
        cases j with
        | zero => simp at hn; omega
        | succ i => exact ⟨i, rfl⟩
      have ih := figs_loop j (n / 2) (c + 1) (by rw [Nat.pow_succ] at hn; omega) (by omega) (by omega)
      rw [bl_pos n hz, show c + ((bl (n / 2) + 1 : Nat) : Int) = c + 1 + (bl (n / 2) : Int) by omega]
      refine Ev.step (fun k => ?_) ih
      simp only [impl_figuresOf.l0]
      rw [if_pos (by omega), w64 (x := c + 1) (by omega) (by omega), show (n : Int) / 2 = ((n / 2 : Nat) : Int) by omega]
theorem impl_ue_ev (n : Nat) (h : n < 2 ^ 60) : Ev (fun k => impl_ue.f k (n : Int)) (strOfNums (ueL n)) := by
  have hb := bl_small 61 (n + 1) (by omega)
  have h1 := bl_one (n + 1) (by omega)
  have hf := figs_loop 61 (n + 1) 0 (by omega) (by decide) (by decide)
  rw [Int.zero_add] at hf
  have hs := signs_ev ((n + 1 : Nat) : Int) (2 * bl (n + 1) - 1) (by omega) (by omega) (by omega)
  unfold impl_ue.f impl_figuresOf.f
  rw [w64 (x := (n : Int) + 1) (by omega) (by omega), show (n : Int) + 1 = ((n + 1 : Nat) : Int) by omega]
  refine Ev.bind hf ?_
  rw [w64 (x := 2 * ((bl (n + 1) : Nat) : Int)) (by omega) (by omega), w64 (by omega) (by omega), show 2 * ((bl (n + 1) : Nat) : Int) - 1 = ((2 * bl (n + 1) - 1 : Nat) : Int) by omega]
  exact Ev.bind hs (Ev.now _)
theorem within_yes {x lo hi : Int} (h0 : lo ≤ x) (h1 : x ≤ hi) : impl_within.f x lo hi = some true := by
  unfold impl_within.f
  rw [if_pos h0, decide_eq_true h1]
theorem within_no {x lo hi : Int} (h : ¬ (lo ≤ x ∧ x ≤ hi)) : impl_within.f x lo hi = some false := by
  unfold impl_within.f
  by_cases h0 : lo ≤ x
  · rw [if_pos h0, decide_eq_false (fun h1 => h ⟨h0, h1⟩)]
  · rw [if_neg h0]
theorem within_any (x lo hi : Int) : impl_within.f x lo hi = some (decide (lo ≤ x ∧ x ≤ hi)) := by
  by_cases h : lo ≤ x ∧ x ≤ hi
  · rw [within_yes h.1 h.2, decide_eq_true h]
  · rw [within_no h, decide_eq_false h]
theorem sumOf_loop : ∀ (suf pre : List Int) (acc : Int), (pre ++ suf).length ≤ 4 → suf.all inSide = true → 0 ≤ acc → acc ≤ 8 * (pre.length : Int) →
    Ev (fun k => impl_sumOf.l0 k acc (pre ++ suf) ((pre ++ suf).length : Int) (pre.length : Int)) (acc + sumI suf)
  | [], pre, acc, hl, _, h0, h1 => by
    refine Ev.step (f := fun _ => some acc) (fun k => ?_) (by simp only [sumI, Int.add_zero]; exact Ev.now _)
    simp only [impl_sumOf.l0, List.append_nil]
    rw [if_neg (by omega)]
  | x :: suf, pre, acc, hl, ha, h0, h1 => by
    have hl' : pre.length + (suf.length + 1) ≤ 4 := by simpa using hl
    rw [List.all_cons, Bool.and_eq_true] at ha
    have hx : 1 ≤ x ∧ x ≤ 8 := of_decide_eq_true ha.1
    have ih := sumOf_loop suf (pre ++ [x]) (acc + x) (by rw [← snoc_cons]; exact hl) ha.2 (by omega) (by simp; omega)
    rw [← snoc_cons] at ih
    rw [sumI, ← Int.add_assoc]
    refine Ev.step (fun k => ?_) ih
    simp only [impl_sumOf.l0]
    rw [if_pos (by simp; omega), if_pos (by omega), if_pos (by simp; omega), rd_mid, w64 (x := acc + x) (by omega) (by omega), next_len pre x (by omega)]
theorem sumOf_ev {l : List Int} (h : sideOk l = true) : Ev (fun k => impl_sumOf.f k l) (sumI l) := by
  obtain ⟨_, h1, h2, _⟩ := sideOk_facts h
  have := sumOf_loop l [] 0 h1 h2 (by decide) (by decide)
  rw [Int.zero_add] at this
  exact this
theorem sq_inner {c r : List Int} {a b : Int} {j : Int} {R : Int} : ∀ (suf pre : List Int), (pre ++ suf).length ≤ 4 → (suf.all inSide = true → Ev (fun k => impl_SquaresOf.l0 k [c, r] 2 (wrap64 (j + 1)) a b c r) R) →
    Ev (fun k => impl_SquaresOf.l1 k [c, r] 2 j (pre ++ suf) ((pre ++ suf).length : Int) (pre.length : Int) a b c r) (if suf.all inSide = true then R else 0)
  | [], pre, hl, h => by
    have h' := h rfl
    simp only [List.all_nil, if_true]
    refine Ev.step (fun k => ?_) h'
    simp only [impl_SquaresOf.l1, List.append_nil]
    rw [if_neg (by omega)]
  | x :: suf, pre, hl, h => by
    have hl' : pre.length + (suf.length + 1) ≤ 4 := by simpa using hl
    by_cases hx : 1 ≤ x ∧ x ≤ 8
    · have hxs : inSide x = true := decide_eq_true hx
      have ih := sq_inner suf (pre ++ [x]) (by rw [← snoc_cons]; exact hl) (fun hs => h (by rw [List.all_cons, hxs, hs]; rfl))
      rw [← snoc_cons] at ih
      rw [List.all_cons, hxs, Bool.true_and]
      refine Ev.step (fun k => ?_) ih
      simp only [impl_SquaresOf.l1]
      rw [if_pos (by simp; omega), if_pos (by omega), if_pos (by simp; omega), rd_mid, within_yes hx.1 hx.2]
      simp only [Option.bind_some, if_true]
      rw [next_len pre x (by omega)]
    · rw [List.all_cons, show inSide x = false from decide_eq_false hx, Bool.false_and]
      simp only [Bool.false_eq_true, if_false]
      refine Ev.step (f := fun _ => some 0) (fun k => ?_) (Ev.now _)
      simp only [impl_SquaresOf.l1]
      rw [if_pos (by simp; omega), if_pos (by omega), if_pos (by simp; omega), rd_mid, within_no hx]
      rfl
theorem sq_round {c r t : List Int} {a b : Int} {j : Int} {R : Int} (h0 : 0 ≤ j) (h2 : j < 2) (ht : rd_L2 [c, r] j = t) (h : sideOk t = true → Ev (fun k => impl_SquaresOf.l0 k [c, r] 2 (wrap64 (j + 1)) a b c r) R) :
    Ev (fun k => impl_SquaresOf.l0 k [c, r] 2 j a b c r) (if sideOk t = true then R else 0) := by
  by_cases hlen : 1 ≤ t.length ∧ t.length ≤ 4
  · have e : (if sideOk t = true then R else 0) = (if t.all inSide = true then R else 0) := by
      unfold sideOk
      rw [decide_eq_true hlen, Bool.true_and]
    rw [e]
    have hi := sq_inner (c := c) (r := r) (a := a) (b := b) (j := j) (R := R) t [] hlen.2 (fun hs => h (by unfold sideOk; rw [decide_eq_true hlen, hs]; rfl))
    refine Ev.step (fun k => ?_) hi
    simp only [impl_SquaresOf.l0]
    rw [if_pos h2, if_pos h0, if_pos (by simpa using h2), ht, within_yes (by omega) (by omega)]
    rfl
  · have e : (if sideOk t = true then R else 0) = 0 := by
      unfold sideOk
      rw [decide_eq_false hlen, Bool.false_and]
      rfl
    rw [e]
    refine Ev.step (f := fun _ => some 0) (fun k => ?_) (Ev.now _)
    simp only [impl_SquaresOf.l0]
    rw [if_pos h2, if_pos h0, if_pos (by simpa using h2), ht, within_no (by omega)]
    rfl
theorem impl_sq_ev (a b : Int) (c r : List Int) : Ev (fun k => impl_SquaresOf.f k a b c r) (sqv c r) := by
  have e : sqv c r = if sideOk c = true then (if sideOk r = true then sumI c * sumI r else 0) else 0 := by
    unfold sqv
    cases sideOk c <;> cases sideOk r <;> simp
  have hb := sqv_bounds c r
  unfold impl_SquaresOf.f
  simp only [Option.bind_some]
  rw [e]
  refine sq_round (by decide) (by decide) rfl (fun h1 => ?_)
  rw [show wrap64 (0 + 1) = 1 from w64 (by decide) (by decide)]
  refine sq_round (by decide) (by decide) rfl (fun h2 => ?_)
  rw [show wrap64 (1 + 1) = 2 from w64 (by decide) (by decide)]
  rw [e, if_pos h1, if_pos h2] at hb
  refine Ev.step (f := fun k => (impl_sumOf.f k c).bind fun x => (impl_sumOf.f k r).bind fun y => some (wrap64 (x * y))) (fun k => ?_) (Ev.bind (sumOf_ev h1) (Ev.bind (sumOf_ev h2) ?_))
  · simp only [impl_SquaresOf.l0]
    rw [if_neg (by decide)]
  · rw [w64 (by omega) (by omega)]
    exact Ev.now _
theorem impl_lv (n : Int) : impl_LevelSquares.f n = some (lvSq n) := by
  by_cases h : 1 ≤ n ∧ n ≤ 3
  · obtain rfl | rfl | rfl : n = 1 ∨ n = 2 ∨ n = 3 := by omega
    all_goals decide +kernel
  · unfold impl_LevelSquares.f lvSq
    rw [within_no h, if_neg (by omega), if_neg (by omega), if_neg (by omega)]
    rfl
theorem impl_seqok_ev (a b : Int) (c r : List Int) : Ev (fun k => impl_SeqOk.f k a b c r) (seqOk a b c r) := by
  unfold impl_SeqOk.f seqOk
  refine Ev.bind (impl_sq_ev a b c r) ?_
  simp only [impl_lv, Option.bind_some, within_any]
  by_cases h : 1 ≤ sqv c r ∧ sqv c r ≤ lvSq a
  · simp only [decide_eq_true h, if_true, Bool.true_and]
    exact Ev.now _
  · simp only [decide_eq_false h, Bool.false_eq_true, if_false, Bool.false_and]
    exact Ev.now _
theorem row_inner {c r : List Int} {j : Int} {R : ByteArray × Bool} : ∀ (suf pre acc : List Int), (pre ++ suf).length ≤ 4 → suf.all inSide = true → acc.length + 39 * suf.length ≤ 1000000 → Ev (fun k => impl_SeqRow.l0 k (strOfNums (acc ++ uesL suf)) [c, r] 2 (wrap64 (j + 1))) R →
    Ev (fun k => impl_SeqRow.l1 k (strOfNums acc) [c, r] 2 j (pre ++ suf) ((pre ++ suf).length : Int) (pre.length : Int)) R
  | [], pre, acc, hl, _, _, h => by
    simp only [uesL, List.append_nil] at h
    refine Ev.step (fun k => ?_) h
    simp only [impl_SeqRow.l1, List.append_nil]
    rw [if_neg (by omega)]
  | x :: suf, pre, acc, hl, ha, hs, h => by
    have hl' : pre.length + (suf.length + 1) ≤ 4 := by simpa using hl
    rw [List.all_cons, Bool.and_eq_true] at ha
    have hx : 1 ≤ x ∧ x ≤ 8 := of_decide_eq_true ha.1
    have h2 := ueL_short (n := x.toNat) (by omega)
    have ih := row_inner (c := c) (r := r) (j := j) (R := R) suf (pre ++ [x]) (acc ++ ueL x.toNat) (by rw [← snoc_cons]; exact hl) ha.2 (by rw [List.length_append]; simp at hs; omega) (by rw [List.append_assoc]; exact h)
    rw [← snoc_cons] at ih
    have hue := impl_ue_ev x.toNat (by omega)
    rw [Int.toNat_of_nonneg (by omega)] at hue
    refine Ev.step (f := fun k => (impl_ue.f k x).bind fun t => (if (strOfNums acc).size + t.size ≤ 9223372036854775807 then (impl_SeqRow.l1 k (strOfNums acc ++ t) [c, r] 2 j (pre ++ x :: suf) ((pre ++ x :: suf).length : Int) ((pre ++ [x]).length : Int)) else (none))) (fun k => ?_) (Ev.bind hue ?_)
    · simp only [impl_SeqRow.l1]
      rw [if_pos (by simp; omega), if_pos (by omega), if_pos (by simp; omega), rd_mid, next_len pre x (by omega)]
    · simp only [str_size, if_pos (show acc.length + (ueL x.toNat).length ≤ 9223372036854775807 by omega), str_append]
      exact ih
theorem row_round {c r t acc : List Int} {j : Int} {R : ByteArray × Bool} (h0 : 0 ≤ j) (h2 : j < 2) (ht : rd_L2 [c, r] j = t) (hs : sideOk t = true) (ha : acc.length ≤ 10000) (h : Ev (fun k => impl_SeqRow.l0 k (strOfNums (acc ++ listL t)) [c, r] 2 (wrap64 (j + 1))) R) :
    Ev (fun k => impl_SeqRow.l0 k (strOfNums acc) [c, r] 2 j) R := by
  obtain ⟨g1, g2, g3, _⟩ := sideOk_facts hs
  have k1 := ueL_short (n := t.length) (by omega)
  have hi := row_inner (c := c) (r := r) (j := j) (R := R) t [] (acc ++ ueL t.length) g2 g3 (by rw [List.length_append]; omega) (by rw [List.append_assoc]; exact h)
  refine Ev.step (f := fun k => (impl_ue.f k (t.length : Int)).bind fun u => (if (strOfNums acc).size + u.size ≤ 9223372036854775807 then (impl_SeqRow.l1 k (strOfNums acc ++ u) [c, r] 2 j t (t.length : Int) 0) else (none))) (fun k => ?_) (Ev.bind (impl_ue_ev t.length (by omega)) ?_)
  · simp only [impl_SeqRow.l0]
    rw [if_pos h2, if_pos h0, if_pos (by simpa using h2), ht]
  · simp only [str_size, if_pos (show acc.length + (ueL t.length).length ≤ 9223372036854775807 by omega), str_append]
    exact hi
theorem impl_seqrow_ev (a b : Int) (c r : List Int) : Ev (fun k => impl_SeqRow.f k a b c r) (if seqOk a b c r = true then (strOfNums (seqL a b c r), true) else (strOfNums [], false)) := by
  unfold impl_SeqRow.f
  refine Ev.bind (impl_seqok_ev a b c r) ?_
  by_cases h : seqOk a b c r = true
  · obtain ⟨h1, h2, h3, h4, h5, h6, _⟩ := seqOk_facts h
    have k1 := ueL_short (n := a.toNat) (by omega)
    have k2 := listL_len h1
    have k3 := listL_len h2
    have hue := impl_ue_ev a.toNat (by omega)
    rw [Int.toNat_of_nonneg (by omega)] at hue
    have hfix := signs_ev b 4 (by omega) (by omega) (by decide)
    simp only [h, if_true]
    refine Ev.bind hue (Ev.bind hfix ?_)
    simp only [str_size, sg_len, if_pos (show (ueL a.toNat).length + 4 ≤ 9223372036854775807 by omega), str_append, Option.bind_some]
    refine row_round (t := c) (by decide) (by decide) rfl h1 (by rw [List.length_append, sg_len]; omega) ?_
    rw [show wrap64 (0 + 1) = 1 from w64 (by decide) (by decide)]
    refine row_round (t := r) (by decide) (by decide) rfl h2 (by rw [List.length_append, List.length_append, sg_len]; omega) ?_
    rw [show wrap64 (1 + 1) = 2 from w64 (by decide) (by decide)]
    refine Ev.step (f := fun _ => some (strOfNums (seqL a b c r), true)) (fun k => ?_) (Ev.now _)
    simp only [impl_SeqRow.l0]
    rw [if_neg (by decide)]
    rfl
  · simp only [if_neg h]
    exact Ev.now _
def flag (b : Bool) : List Int := if b = true then [49] else [48]
def parL (q : Int) (x y z : Bool) : List Int := sg 6 q ++ flag x ++ flag y ++ flag z
theorem flag_len (b : Bool) : (flag b).length = 1 := by cases b <;> rfl
theorem parOk_range {q : Int} {x y : Bool} {z : Bool} (h : parOkV q x y z = true) : 0 ≤ q ∧ q ≤ 40 := by
  unfold parOkV at h
  rw [Bool.and_eq_true] at h
  exact of_decide_eq_true h.1
theorem impl_parok (q : Int) (a b c : Bool) : impl_ParOk.f q a b c = some (parOkV q a b c) := by
  unfold impl_ParOk.f parOkV
  rw [within_any]
  simp only [Option.bind_some]
  cases decide (0 ≤ q ∧ q ≤ 40) <;> cases a <;> cases b <;> rfl
theorem impl_sign_val (b : Bool) : impl_sign.f b = some (strOfNums (flag b)) := by cases b <;> rfl
theorem impl_parrow_ev (q : Int) (x y z : Bool) : Ev (fun k => impl_ParRow.f k q x y z) (if parOkV q x y z = true then (strOfNums (parL q x y z), true) else (strOfNums [], false)) := by
  unfold impl_ParRow.f
  simp only [impl_parok, Option.bind_some]
  by_cases h : parOkV q x y z = true
  · have hq := parOk_range h
    simp only [h, if_true]
    refine Ev.bind (signs_ev q 6 hq.1 (by omega) (by decide)) ?_
    simp only [impl_sign_val, Option.bind_some, str_size, sg_len, flag_len, str_append, List.length_append]
    exact Ev.now _
  · simp only [if_neg h]
    exact Ev.now _
theorem rdUe_bounds {l : List Int} {p v q : Nat} (h : rdUe l p = some (v, q)) : v ≤ 1000000 ∧ p < q ∧ q ≤ l.length := by
  unfold rdUe at h
  split at h
  · rename_i hc
    obtain ⟨h1, h2, h3⟩ := hc
    have hv := Prod.mk.inj (Option.some.inj h)
    omega
  · cases h
/-- So many numbers, one behind the other. -/
def rdMany (l : List Int) : Nat → Nat → List Int → Option (List Int × Nat)
  | 0, p, acc => some (acc, p)
  | d + 1, p, acc => match rdUe l p with | some (v, q) => rdMany l d q (acc ++ [(v : Int)]) | none => none
/-- A list of at most four numbers, its length ahead of it. -/
def rdList (l : List Int) (p : Nat) : Option (List Int × Nat) := match rdUe l p with | some (n, q) => if n ≤ 4 then rdMany l n q [] else none | none => none
theorem rdMany_bounds {l : List Int} : ∀ (d p : Nat) (acc xs : List Int) (q : Nat), p ≤ l.length → rdMany l d p acc = some (xs, q) → q ≤ l.length ∧ xs.length = acc.length + d
  | 0, p, acc, xs, q, hp, h => by
    simp only [rdMany, Option.some.injEq, Prod.mk.injEq] at h
    obtain ⟨rfl, rfl⟩ := h
    exact ⟨hp, rfl⟩
  | d + 1, p, acc, xs, q, hp, h => by
    unfold rdMany at h
    cases e : rdUe l p with
    | none => rw [e] at h; cases h
    | some u =>
      obtain ⟨v, q'⟩ := u
      rw [e] at h
      have hb := rdUe_bounds e
      have ih := rdMany_bounds d q' (acc ++ [(v : Int)]) xs q (by omega) h
      rw [List.length_append, List.length_singleton] at ih
      exact ⟨ih.1, by omega⟩
theorem rdList_bounds {l : List Int} {p q : Nat} {xs : List Int} (hp : p ≤ l.length) (h : rdList l p = some (xs, q)) : q ≤ l.length ∧ xs.length ≤ 4 := by
  unfold rdList at h
  cases e : rdUe l p with
  | none => rw [e] at h; cases h
  | some u =>
    obtain ⟨n, q'⟩ := u
    rw [e] at h
    dsimp only at h
    split at h
    · have hb := rdUe_bounds e
      have := rdMany_bounds n q' [] xs q (by omega) h
      simp only [List.length_nil] at this
      exact ⟨this.1, by omega⟩
    · cases h
/-- A row: signs alone, not too many. -/
def isRow (l : List Int) : Bool := l.all fun x => x == 48 || x == 49
def rowOk (l : List Int) : Bool := decide (l.length ≤ 400000) && isRow l
theorem impl_row_loop : ∀ (suf pre : List Int), Bys (pre ++ suf) → (pre ++ suf).length ≤ 1048576 → Ev (fun k => impl_RowOk.l0 k (strOfNums (pre ++ suf)) (pre.length : Int)) (isRow suf)
  | [], pre, hb, hl => by
    refine Ev.step (f := fun _ => some true) (fun k => ?_) (Ev.now _)
    simp only [impl_RowOk.l0, List.append_nil]
    rw [if_neg (ge_end pre)]
  | x :: suf, pre, hb, hl => by
    have hl' : pre.length + (suf.length + 1) ≤ 1048576 := by simpa using hl
    have ih := impl_row_loop suf (pre ++ [x]) (by rw [← snoc_cons]; exact hb) (by rw [← snoc_cons]; exact hl)
    rw [← snoc_cons] at ih
    have hlt := lt_mid pre suf x
    have hn := next_len pre x (by omega)
    have e : isRow (x :: suf) = ((x == 48 || x == 49) && isRow suf) := rfl
    by_cases h0 : x = 48
    · rw [e, beq_iff_eq.2 h0, Bool.true_or, Bool.true_and]
      refine Ev.step (fun k => ?_) ih
      simp only [impl_RowOk.l0]
      rw [if_pos hlt, if_pos (by omega), bt_mid hb, if_pos h0, hn]
    · by_cases h1 : x = 49
      · rw [e, beq_iff_eq.2 h1, Bool.or_true, Bool.true_and]
        refine Ev.step (fun k => ?_) ih
        simp only [impl_RowOk.l0]
        rw [if_pos hlt, if_pos (by omega), bt_mid hb, if_neg h0, if_pos h1, hn]
      · rw [e, beq_eq_false_iff_ne.2 h0, beq_eq_false_iff_ne.2 h1, Bool.or_false, Bool.false_and]
        refine Ev.step (f := fun _ => some false) (fun k => ?_) (Ev.now _)
        simp only [impl_RowOk.l0]
        rw [if_pos hlt, if_pos (by omega), bt_mid hb, if_neg h0, if_neg h1]
theorem impl_rowok_ev {l : List Int} (hb : Bys l) (hl : l.length ≤ 1048576) : Ev (fun k => impl_RowOk.f k (strOfNums l)) (rowOk l) := by
  unfold impl_RowOk.f rowOk
  by_cases h : l.length ≤ 400000
  · simp only [if_neg (show ¬ ((strOfNums l).size : Int) > 400000 by rw [str_size]; omega), decide_eq_true h, Bool.true_and]
    exact impl_row_loop l [] hb hl
  · simp only [if_pos (show ((strOfNums l).size : Int) > 400000 by rw [str_size]; omega), decide_eq_false h, Bool.false_and]
    exact Ev.now _
theorem rowOk_len {l : List Int} (h : rowOk l = true) : l.length ≤ 400000 := by
  unfold rowOk at h
  rw [Bool.and_eq_true] at h
  exact of_decide_eq_true h.1
theorem rowOk_mem {l : List Int} (h : rowOk l = true) : ∀ x, x ∈ l → x = 48 ∨ x = 49 := by
  unfold rowOk isRow at h
  rw [Bool.and_eq_true, List.all_eq_true] at h
  intro x hx
  have := h.2 x hx
  rw [Bool.or_eq_true, beq_iff_eq, beq_iff_eq] at this
  exact this
theorem rowOk_mk {l : List Int} (h : l.length ≤ 400000) (hm : ∀ x, x ∈ l → x = 48 ∨ x = 49) : rowOk l = true := by
  unfold rowOk isRow
  rw [decide_eq_true h, Bool.true_and, List.all_eq_true]
  intro x hx
  rw [Bool.or_eq_true, beq_iff_eq, beq_iff_eq]
  exact hm x hx
theorem or_bit : ∀ (n : Int) (b : Int), 0 ≤ n → n < 1152921504606846976 → (b = 0 ∨ b = 1) → Go.bits .or .i64 (wrap64 (n * 2)) b = 2 * n + b := by
  intro n b h0 h1 hb
  rw [w64 (by omega) (by omega)]
  have h := Go.bits_join .i64 62 (by decide) (fun m hm0 hm1 => by rw [Go.IntKind.wrap_i64]; omega) 1 (n * 2) b (by omega) (by omega) (by omega) (by omega) (by omega) (by omega)
  rw [h]
  omega
/-- scan.fix: what is read at a place, so many signs. -/
theorem scan_fix_loop : ∀ (d : Nat) (l : List Int) (at_ i w : Nat) (n : Int) (b : Bool), Bys l → (∀ x, x ∈ l → x = 48 ∨ x = 49) → l.length ≤ 400000 → at_ + w ≤ l.length → w ≤ 60 → i + d = w → 0 ≤ n → n < 2 ^ i →
    Ev (fun k => impl_scan_fix.l0 k (w : Int) n (i : Int) (strOfNums l) (at_ : Int) b) (vb n ((l.drop (at_ + i)).take d), strOfNums l, ((at_ + w : Nat) : Int), b)
  | 0, l, at_, i, w, n, b, hb, hm, hl, ha, hw, hi, h0, h1 => by
    refine Ev.step (f := fun _ => some (n, strOfNums l, ((at_ + w : Nat) : Int), b)) (fun k => ?_) (by simp only [List.take_zero, vb]; exact Ev.now _)
    simp only [impl_scan_fix.l0]
    rw [if_neg (by omega), w64 (by omega) (by omega)]
    rfl
  | d + 1, l, at_, i, w, n, b, hb, hm, hl, ha, hw, hi, h0, h1 => by
    have hlt : at_ + i < l.length := by omega
    have hx := hm _ (List.getElem_mem hlt)
    have hd : (l.drop (at_ + i)).take (d + 1) = l[at_ + i] :: (l.drop (at_ + (i + 1))).take d := by
      rw [List.drop_eq_getElem_cons hlt, List.take_succ_cons]
      rfl
    have hg : bt (strOfNums l) ((at_ : Int) + (i : Int)) = l[at_ + i] := by
      rw [bt_get hb (n := at_ + i) (by omega), List.getD_eq_getElem?_getD, List.getElem?_eq_getElem hlt]
      rfl
    have hn59 : n < 2 ^ 59 := by
      have : (2 : Int) ^ i ≤ 2 ^ 59 := by
        have : (2 : Nat) ^ i ≤ 2 ^ 59 := Nat.pow_le_pow_right (by decide) (by omega)
        exact_mod_cast this
      omega
    have ih := scan_fix_loop d l at_ (i + 1) w (2 * n + (l[at_ + i] - 48)) b hb hm hl ha hw (by omega) (by rcases hx with h | h <;> rw [h] <;> omega) (by rw [Int.pow_succ]; rcases hx with h | h <;> rw [h] <;> omega)
    rw [hd, vb]
    refine Ev.step (fun k => ?_) ih
    simp only [impl_scan_fix.l0]
    rw [if_pos (by omega), w64 (x := (at_ : Int) + (i : Int)) (by omega) (by omega), if_pos (by omega), if_pos (by rw [str_size]; omega), hg, w64 (x := (i : Int) + 1) (by omega) (by omega)]
    rw [Int.emod_eq_of_lt (a := l[at_ + i] - 48) (by rcases hx with h | h <;> rw [h] <;> decide) (by rcases hx with h | h <;> rw [h] <;> decide)]
    rw [or_bit n _ h0 (by omega) (by rcases hx with h | h <;> rw [h] <;> decide)]
    rfl
theorem scan_fix_yes {l : List Int} {at_ w : Nat} (hb : Bys l) (hr : rowOk l = true) (ha : at_ + w ≤ l.length) (hw : w ≤ 60) :
    Ev (fun k => impl_scan_fix.f k (strOfNums l) (at_ : Int) false (w : Int)) (vb 0 ((l.drop at_).take w), strOfNums l, ((at_ + w : Nat) : Int), false) := by
  have hl := rowOk_len hr
  have h := scan_fix_loop w l at_ 0 w 0 false hb (rowOk_mem hr) hl ha hw (by omega) (by decide) (by decide)
  rw [Nat.add_zero] at h
  unfold impl_scan_fix.f
  simp only [Bool.false_eq_true, if_false]
  rw [decide_eq_false (by rw [str_size, w64 (by omega) (by omega)]; omega)]
  refine Ev.step (fun k => ?_) h
  simp only [impl_scan_fix.j0, Bool.false_eq_true, if_false]
  rfl
theorem scan_fix_short {l : List Int} {at_ : Nat} {w : Int} (hl : l.length ≤ 1048576) (hle : at_ ≤ l.length) (ha : ((l.length : Int) - (at_ : Int)) < w) :
    Ev (fun k => impl_scan_fix.f k (strOfNums l) (at_ : Int) false w) (0, strOfNums l, (at_ : Int), true) := by
  unfold impl_scan_fix.f
  simp only [Bool.false_eq_true, if_false]
  rw [decide_eq_true (by rw [str_size, w64 (by omega) (by omega)]; exact ha)]
  refine Ev.step (f := fun _ => some (0, strOfNums l, (at_ : Int), true)) (fun k => ?_) (Ev.now _)
  simp only [impl_scan_fix.j0, if_true]
theorem scan_fix_bad (s : ByteArray) (at_ w : Int) : Ev (fun k => impl_scan_fix.f k s at_ true w) (0, s, at_, true) := by
  unfold impl_scan_fix.f
  simp only [if_true]
  refine Ev.step (f := fun _ => some (0, s, at_, true)) (fun k => ?_) (Ev.now _)
  simp only [impl_scan_fix.j0, if_true]
theorem ue_count {l : List Int} {p : Nat} (hb : Bys l) (hl : l.length ≤ 1048576) (hp : p ≤ l.length) {R : Int × ByteArray × Int × Bool} (h : Ev (fun k => impl_scan_ue.j1 k (lz (l.drop p) : Int) (strOfNums l) (p : Int) false) R) :
    ∀ (d z : Nat), z + d = lz (l.drop p) → Ev (fun k => impl_scan_ue.l0 k (z : Int) (strOfNums l) (p : Int) false) R
  | 0, z, hz => by
    have hzz : z = lz (l.drop p) := by omega
    subst hzz
    refine Ev.step (fun k => ?_) h
    have hle := lz_le (l.drop p)
    rw [List.length_drop] at hle
    simp only [impl_scan_ue.l0, Bool.false_eq_true, if_false]
    rw [w64 (by omega) (by omega)]
    by_cases hlt : p + lz (l.drop p) < l.length
    · rw [if_pos (by rw [str_size]; omega), if_pos (by omega), bt_get hb (n := p + lz (l.drop p)) (by omega), ← getD_drop, if_neg (lz_stop _ (by rw [List.length_drop]; omega))]
    · rw [if_neg (by rw [str_size]; omega)]
  | d + 1, z, hz => by
    have ih := ue_count hb hl hp h d (z + 1) (by omega)
    refine Ev.step (fun k => ?_) ih
    have hle := lz_le (l.drop p)
    rw [List.length_drop] at hle
    simp only [impl_scan_ue.l0, Bool.false_eq_true, if_false]
    rw [w64 (by omega) (by omega), if_pos (by rw [str_size]; omega), if_pos (by omega), bt_get hb (n := p + z) (by omega), ← getD_drop, if_pos (lz_get _ z (by omega)), w64 (by omega) (by omega)]
    rfl
theorem scan_ue_some {l : List Int} {p v q : Nat} (hb : Bys l) (hr : rowOk l = true) (hp : p ≤ l.length) (h : rdUe l p = some (v, q)) :
    Ev (fun k => impl_scan_ue.f k (strOfNums l) (p : Int) false) ((v : Int), strOfNums l, (q : Int), false) := by
  have hl := rowOk_len hr
  unfold rdUe at h
  split at h
  · rename_i hc
    obtain ⟨h1, h2, h3⟩ := hc
    have hv := (Prod.mk.inj (Option.some.inj h))
    have hm : ∀ x, x ∈ l.drop p → x = 48 ∨ x = 49 := fun x hx => rowOk_mem hr x (List.mem_of_mem_drop hx)
    have hbig := vb_big hm (lz (l.drop p)) (by rw [List.length_drop]; omega)
    have hts := take_split (l.drop p) (lz (l.drop p) + 1)
    rw [show lz (l.drop p) + (lz (l.drop p) + 1) = 2 * lz (l.drop p) + 1 by omega] at hts
    have heq : vb 0 ((l.drop p).take (2 * lz (l.drop p) + 1)) = vb 0 (((l.drop p).drop (lz (l.drop p))).take (lz (l.drop p) + 1)) := by rw [hts, vb_zeros]
    have hpos : (0 : Int) < 2 ^ lz (l.drop p) := Int.pow_pos (by decide)
    refine ue_count hb (by omega) hp ?_ (lz (l.drop p)) 0 (by omega)
    refine Ev.step (fun k => ?_) (Ev.bind (scan_fix_yes hb hr (at_ := p) (w := 2 * lz (l.drop p) + 1) h2 (by omega)) (f := fun k b => if b.2.2.2 = true then (some (0, b.2.1, b.2.2.1, true)) else (if (wrap64 (b.1 - 1)) > 1000000 then (some (0, b.2.1, b.2.2.1, true)) else (some (wrap64 (b.1 - 1), b.2.1, b.2.2.1, b.2.2.2)))) ?_)
    · simp only [impl_scan_ue.j1]
      rw [if_neg (by omega), w64 (x := 2 * ((lz (l.drop p) : Nat) : Int)) (by omega) (by omega), w64 (by omega) (by omega)]
      rfl
    · simp only [Bool.false_eq_true, if_false]
      rw [w64 (by omega) (by omega), if_neg (by omega), ← hv.1, ← hv.2, Int.toNat_of_nonneg (by omega)]
      exact Ev.now _
  · cases h
theorem scan_ue_none {l : List Int} {p : Nat} (hb : Bys l) (hr : rowOk l = true) (hp : p ≤ l.length) (h : rdUe l p = none) :
    ∃ q, Ev (fun k => impl_scan_ue.f k (strOfNums l) (p : Int) false) (0, strOfNums l, q, true) := by
  have hl := rowOk_len hr
  have hle := lz_le (l.drop p)
  rw [List.length_drop] at hle
  by_cases h1 : lz (l.drop p) ≤ 20
  · by_cases h2 : p + (2 * lz (l.drop p) + 1) ≤ l.length
    · have h3 : ¬ vb 0 ((l.drop p).take (2 * lz (l.drop p) + 1)) - 1 ≤ 1000000 := by
        intro h3
        unfold rdUe at h
        rw [if_pos ⟨h1, h2, h3⟩] at h
        cases h
      have hb2 := vb_bounds ((l.drop p).take (2 * lz (l.drop p) + 1)) 0 1 (fun x hx => rowOk_mem hr x (List.mem_of_mem_drop (List.mem_of_mem_take hx))) (by decide) (by decide)
      have hp60 : (2 : Int) ^ (1 + ((l.drop p).take (2 * lz (l.drop p) + 1)).length) ≤ 2 ^ 60 := by
        have : (2 : Nat) ^ (1 + ((l.drop p).take (2 * lz (l.drop p) + 1)).length) ≤ 2 ^ 60 := Nat.pow_le_pow_right (by decide) (by rw [List.length_take, List.length_drop]; omega)
        exact_mod_cast this
      refine ⟨((p + (2 * lz (l.drop p) + 1) : Nat) : Int), ue_count hb (by omega) hp ?_ (lz (l.drop p)) 0 (by omega)⟩
      refine Ev.step (fun k => ?_) (Ev.bind (scan_fix_yes hb hr (at_ := p) (w := 2 * lz (l.drop p) + 1) h2 (by omega)) (f := fun k b => if b.2.2.2 = true then (some (0, b.2.1, b.2.2.1, true)) else (if (wrap64 (b.1 - 1)) > 1000000 then (some (0, b.2.1, b.2.2.1, true)) else (some (wrap64 (b.1 - 1), b.2.1, b.2.2.1, b.2.2.2)))) ?_)
      · simp only [impl_scan_ue.j1]
        rw [if_neg (by omega), w64 (x := 2 * ((lz (l.drop p) : Nat) : Int)) (by omega) (by omega), w64 (by omega) (by omega)]
        rfl
      · simp only [Bool.false_eq_true, if_false]
        rw [w64 (by omega) (by omega), if_pos (by omega)]
        exact Ev.now _
    · refine ⟨(p : Int), ue_count hb (by omega) hp ?_ (lz (l.drop p)) 0 (by omega)⟩
      refine Ev.step (fun k => ?_) (Ev.bind (scan_fix_short (l := l) (at_ := p) (w := ((2 * lz (l.drop p) + 1 : Nat) : Int)) (by omega) hp (by omega)) (f := fun k b => if b.2.2.2 = true then (some (0, b.2.1, b.2.2.1, true)) else (if (wrap64 (b.1 - 1)) > 1000000 then (some (0, b.2.1, b.2.2.1, true)) else (some (wrap64 (b.1 - 1), b.2.1, b.2.2.1, b.2.2.2)))) ?_)
      · simp only [impl_scan_ue.j1]
        rw [if_neg (by omega), w64 (x := 2 * ((lz (l.drop p) : Nat) : Int)) (by omega) (by omega), w64 (by omega) (by omega)]
        rfl
      · simp only [if_true]
        exact Ev.now _
  · refine ⟨(p : Int), ue_count hb (by omega) hp ?_ (lz (l.drop p)) 0 (by omega)⟩
    refine Ev.step (fun k => ?_) (Ev.bind (scan_fix_bad (strOfNums l) (p : Int) (wrap64 ((wrap64 (2 * ((lz (l.drop p) : Nat) : Int))) + 1))) (f := fun k b => if b.2.2.2 = true then (some (0, b.2.1, b.2.2.1, true)) else (if (wrap64 (b.1 - 1)) > 1000000 then (some (0, b.2.1, b.2.2.1, true)) else (some (wrap64 (b.1 - 1), b.2.1, b.2.2.1, b.2.2.2)))) ?_)
    · simp only [impl_scan_ue.j1]
      rw [if_pos (by omega)]
    · simp only [if_true]
      exact Ev.now _
theorem scan_ue_bad (s : ByteArray) (p : Int) : Ev (fun k => impl_scan_ue.f k s p true) (0, s, p, true) := by
  have hj : Ev (fun k => impl_scan_ue.j1 k 0 s p true) (0, s, p, true) := by
    refine Ev.step (fun k => ?_) (Ev.bind (scan_fix_bad s p (wrap64 ((wrap64 (2 * 0)) + 1))) (f := fun k b => if b.2.2.2 = true then (some (0, b.2.1, b.2.2.1, true)) else (if (wrap64 (b.1 - 1)) > 1000000 then (some (0, b.2.1, b.2.2.1, true)) else (some (wrap64 (b.1 - 1), b.2.1, b.2.2.1, b.2.2.2)))) ?_)
    · simp only [impl_scan_ue.j1]
      rw [if_neg (by decide)]
    · simp only [if_true]
      exact Ev.now _
  unfold impl_scan_ue.f
  refine Ev.step (fun k => ?_) hj
  simp only [impl_scan_ue.l0, if_true]
theorem scan_stop (acc : List Int) (n i : Int) (s : ByteArray) (p : Int) : Ev (fun k => impl_scan_list.l0 k acc n i s p true) (acc, s, p, true) := by
  refine Ev.step (f := fun _ => some (acc, s, p, true)) (fun k => ?_) (Ev.now _)
  simp only [impl_scan_list.l0, if_true, ite_self]
theorem scan_many_some {l : List Int} (hb : Bys l) (hr : rowOk l = true) : ∀ (d p i n q : Nat) (acc xs : List Int), p ≤ l.length → i + d = n → n ≤ 4 → acc.length = i → rdMany l d p acc = some (xs, q) → Ev (fun k => impl_scan_list.l0 k acc (n : Int) (i : Int) (strOfNums l) (p : Int) false) (xs, strOfNums l, (q : Int), false)
  | 0, p, i, n, q, acc, xs, hp, hi, hn, ha, h => by
    simp only [rdMany, Option.some.injEq, Prod.mk.injEq] at h
    obtain ⟨rfl, rfl⟩ := h
    refine Ev.step (f := fun _ => some (acc, strOfNums l, (p : Int), false)) (fun k => ?_) (Ev.now _)
    simp only [impl_scan_list.l0]
    rw [if_neg (by omega)]
  | d + 1, p, i, n, q, acc, xs, hp, hi, hn, ha, h => by
    unfold rdMany at h
    cases e : rdUe l p with
    | none => rw [e] at h; cases h
    | some u =>
      obtain ⟨v, q'⟩ := u
      rw [e] at h
      have hq := rdUe_bounds e
      have hs := scan_ue_some hb hr hp e
      refine Ev.step (f := fun k => (impl_scan_ue.f k (strOfNums l) (p : Int) false).bind fun b => impl_scan_list.l0 k (acc ++ [b.1]) (n : Int) ((i + 1 : Nat) : Int) b.2.1 b.2.2.1 b.2.2.2) (fun k => ?_) ?_
      · simp only [impl_scan_list.l0, Bool.false_eq_true, if_false]
        rw [if_pos (by omega), w64 (x := (i : Int) + 1) (by omega) (by omega)]
        simp only [if_pos (show acc.length < 17592186044416 by omega)]
        rfl
      · exact Ev.bind hs (scan_many_some hb hr d q' (i + 1) n q (acc ++ [(v : Int)]) xs hq.2.2 (by omega) hn (by simp; omega) h)
theorem scan_list_some {l : List Int} {p q : Nat} {xs : List Int} (hb : Bys l) (hr : rowOk l = true) (hp : p ≤ l.length) (h : rdList l p = some (xs, q)) : Ev (fun k => impl_scan_list.f k (strOfNums l) (p : Int) false) (xs, strOfNums l, (q : Int), false) := by
  unfold impl_scan_list.f
  simp only [Option.bind_some]
  unfold rdList at h
  cases e : rdUe l p with
  | none => rw [e] at h; cases h
  | some u =>
    obtain ⟨n, q'⟩ := u
    rw [e] at h
    dsimp only at h
    split at h
    · rename_i h4
      have hq := rdUe_bounds e
      refine Ev.bind (scan_ue_some hb hr hp e) ?_
      simp only [if_neg (show ¬ ((n : Int) > 4) by omega)]
      refine Ev.step (f := fun k => impl_scan_list.l0 k [] (n : Int) ((0 : Nat) : Int) (strOfNums l) (q' : Int) false) (fun k => ?_) (scan_many_some hb hr n q' 0 n q [] xs hq.2.2 (by omega) h4 rfl h)
      simp only [impl_scan_list.j0]
      rfl
    · cases h
theorem opened_ev {l : List Int} (hb : Bys l) (hl : l.length ≤ 1048576) (a : Int) : Ev (fun k => impl_opened.f k (strOfNums l) a) (strOfNums l, a, !(rowOk l && decide (0 ≤ a ∧ a ≤ (l.length : Int)))) := by
  unfold impl_opened.f
  refine Ev.bind (impl_rowok_ev hb hl) ?_
  cases h : rowOk l
  · exact Ev.now _
  · simp only [if_true, within_any, Option.bind_some, str_size, Bool.true_and]
    exact Ev.now _
theorem impl_readseq_ev {l : List Int} {p a p1 p2 p3 : Nat} {b : Int} {c r : List Int} (hb : Bys l) (hr : rowOk l = true) (hp : p ≤ l.length) (e1 : rdUe l p = some (a, p1)) (hw : p1 + 4 ≤ l.length) (eb : vb 0 ((l.drop p1).take 4) = b) (e2 : rdList l (p1 + 4) = some (c, p2)) (e3 : rdList l p2 = some (r, p3)) (ok : seqOk (a : Int) b c r = true) :
    Ev (fun k => impl_ReadSeq.f k (strOfNums l) (p : Int)) ((a : Int), b, c, r, (p3 : Int), true) := by
  have hl4 := rowOk_len hr
  have ho := opened_ev hb (show l.length ≤ 1048576 by omega) (p : Int)
  rw [hr, decide_eq_true (show 0 ≤ (p : Int) ∧ (p : Int) ≤ (l.length : Int) by omega)] at ho
  have k2 := rdList_bounds hw e2
  have hi1 := scan_ue_some hb hr hp e1
  have hi2 := scan_fix_yes hb hr hw (show 4 ≤ 60 by decide)
  have hi3 := scan_list_some hb hr hw e2
  have hi4 := scan_list_some hb hr k2.1 e3
  rw [eb] at hi2
  unfold impl_ReadSeq.f
  refine Ev.bind ho ?_
  simp only [Bool.and_self, Bool.not_true]
  refine Ev.bind hi1 (Ev.bind hi2 (Ev.bind hi3 (Ev.bind hi4 ?_)))
  simp only [Bool.false_eq_true, if_false]
  refine Ev.bind (impl_seqok_ev _ _ _ _) ?_
  simp only [ok, if_true]
  exact Ev.now _
theorem impl_readpar_ev {l : List Int} {p : Nat} {q : Int} {x y z : Bool} (hb : Bys l) (hr : rowOk l = true) (hp : p + 9 ≤ l.length) (eq : vb 0 ((l.drop p).take 6) = q) (ex : (vb 0 ((l.drop (p + 6)).take 1) == 1) = x) (ey : (vb 0 ((l.drop (p + 6 + 1)).take 1) == 1) = y) (ez : (vb 0 ((l.drop (p + 6 + 1 + 1)).take 1) == 1) = z) (ok : parOkV q x y z = true) :
    Ev (fun k => impl_ReadPar.f k (strOfNums l) (p : Int)) (q, x, y, z, ((p + 9 : Nat) : Int), true) := by
  have hl4 := rowOk_len hr
  have ho := opened_ev hb (show l.length ≤ 1048576 by omega) (p : Int)
  rw [hr, decide_eq_true (show 0 ≤ (p : Int) ∧ (p : Int) ≤ (l.length : Int) by omega)] at ho
  unfold impl_ReadPar.f
  refine Ev.bind ho ?_
  simp only [Bool.and_self, Bool.not_true]
  refine Ev.bind (scan_fix_yes hb hr (at_ := p) (w := 6) (by omega) (by decide)) ?_
  refine Ev.bind (scan_fix_yes hb hr (at_ := p + 6) (w := 1) (by omega) (by decide)) ?_
  refine Ev.bind (scan_fix_yes hb hr (at_ := p + 6 + 1) (w := 1) (by omega) (by decide)) ?_
  refine Ev.bind (scan_fix_yes hb hr (at_ := p + 6 + 1 + 1) (w := 1) (by omega) (by decide)) ?_
  simp only [Bool.false_eq_true, if_false, impl_parok, eq, ex, ey, ez, ok, Option.bind_some, if_true]
  exact Ev.now _
theorem rdMany_ues {suf : List Int} : ∀ (l pre acc : List Int), l.all inSide = true → rdMany (pre ++ (uesL l ++ suf)) l.length pre.length acc = some (acc ++ l, pre.length + (uesL l).length)
  | [], pre, acc, _ => by simp [rdMany, uesL]
  | x :: l, pre, acc, h => by
    rw [List.all_cons, Bool.and_eq_true] at h
    have hx : 1 ≤ x ∧ x ≤ 8 := of_decide_eq_true h.1
    have e := rdUe_ue (pre := pre) (suf := uesL l ++ suf) (n := x.toNat) (by omega)
    have ih := rdMany_ues (suf := suf) l (pre ++ ueL x.toNat) (acc ++ [((x.toNat : Nat) : Int)]) h.2
    have a1 : pre ++ (uesL (x :: l) ++ suf) = pre ++ (ueL x.toNat ++ (uesL l ++ suf)) := by simp only [uesL, List.append_assoc]
    have a2 : pre ++ ueL x.toNat ++ (uesL l ++ suf) = pre ++ (ueL x.toNat ++ (uesL l ++ suf)) := by simp only [List.append_assoc]
    rw [a2, List.length_append] at ih
    rw [a1, List.length_cons, rdMany, e]
    dsimp only
    rw [ih, Int.toNat_of_nonneg (by omega)]
    simp only [uesL, List.length_append, List.append_assoc, List.singleton_append, Nat.add_assoc]
theorem rdList_list {l pre suf : List Int} (h : sideOk l = true) : rdList (pre ++ (listL l ++ suf)) pre.length = some (l, pre.length + (listL l).length) := by
  obtain ⟨h1, h2, h3, _⟩ := sideOk_facts h
  have e := rdUe_ue (pre := pre) (suf := uesL l ++ suf) (n := l.length) (by omega)
  have e2 := rdMany_ues (suf := suf) l (pre ++ ueL l.length) [] h3
  have a1 : pre ++ (listL l ++ suf) = pre ++ (ueL l.length ++ (uesL l ++ suf)) := by simp only [listL, List.append_assoc]
  have a2 : pre ++ ueL l.length ++ (uesL l ++ suf) = pre ++ (ueL l.length ++ (uesL l ++ suf)) := by simp only [List.append_assoc]
  rw [a2, List.length_append, List.nil_append] at e2
  unfold rdList
  rw [a1, e]
  dsimp only
  rw [if_pos h2, e2]
  simp only [listL, List.length_append, Nat.add_assoc]
theorem sameInts_loop : ∀ (suf pre : List Int), (pre ++ suf).length ≤ 1048576 → Ev (fun k => laws_sameInts.l0 k (pre ++ suf) (pre ++ suf) (pre.length : Int)) true
  | [], pre, hl => by
    refine Ev.step (f := fun _ => some true) (fun k => ?_) (Ev.now _)
    simp only [laws_sameInts.l0, List.append_nil]
    rw [if_neg (by omega)]
  | x :: suf, pre, hl => by
    have hl' : pre.length + (suf.length + 1) ≤ 1048576 := by simpa using hl
    have ih := sameInts_loop suf (pre ++ [x]) (by rw [← snoc_cons]; exact hl)
    rw [← snoc_cons] at ih
    refine Ev.step (fun k => ?_) ih
    simp only [laws_sameInts.l0]
    rw [if_pos (by simp; omega), if_pos (by omega), if_pos (by simp; omega), if_pos trivial, next_len pre x (by omega)]
theorem sameInts_ev {l : List Int} (hl : l.length ≤ 1048576) : Ev (fun k => laws_sameInts.f k l l) true := by
  unfold laws_sameInts.f
  simp only [if_true]
  exact sameInts_loop l [] hl
theorem sameSeq_ev {a b : Int} {c r : List Int} (hc : c.length ≤ 1048576) (hr : r.length ≤ 1048576) : Ev (fun k => laws_sameSeq.f k a b c r a b c r) true := by
  unfold laws_sameSeq.f
  simp only [if_true]
  refine Ev.bind (sameInts_ev hc) ?_
  simp only [if_true]
  exact Ev.bind (sameInts_ev hr) (Ev.now _)
theorem flag_bit (b : Bool) : (vb 0 (flag b) == 1) = b := by cases b <;> rfl
theorem flag_row (b : Bool) : ∀ u, u ∈ flag b → u = 48 ∨ u = 49 := by
  cases b <;> intro u hu <;> simp [flag] at hu <;> omega
theorem drop_at (pre l : List Int) {n : Nat} (h : pre.length = n) : (pre ++ l).drop n = l := by rw [← h, List.drop_left]
theorem FnSets : laws_FnSets.Pure := by
  intro l hl _ _
  refine Ev.rounds ?_
  unfold laws_FnSets.f laws_big.f
  simp only [Option.bind_some]
  by_cases hbig : (l.length : Int) > 1048576
  · rw [decide_eq_true hbig]
    exact Ev.now _
  · rw [decide_eq_false hbig]
    simp only [Bool.false_eq_true, if_false]
    obtain ⟨lv, b, c, r, q, x, y, z, t, f, h, hd, hs, hp, ho⟩ := sets_ev hl
    obtain ⟨m, hm, h60, hmx⟩ := row_ev hl
    obtain ⟨sc, sr, hlv, b0, b1, ok⟩ := hs
    have fc := sides_facts sc
    have fr := sides_facts sr
    have hq : 0 ≤ q ∧ q ≤ 40 := by
      have h2 := hp
      unfold parOkV at h2
      rw [Bool.and_eq_true] at h2
      exact of_decide_eq_true h2.1
    obtain ⟨n, rfl⟩ := Int.eq_ofNat_of_zero_le (show 0 ≤ lv by omega)
    have s1 := ueL_size (n := n) (by omega)
    have lc := listL_len fc.1
    have lr := listL_len fr.1
    have g4 := sg_len 4 b
    have g6 := sg_len 6 q
    have fx := flag_len x
    have fy := flag_len y
    have fz := flag_len z
    have h1 := impl_seqrow_ev (n : Int) b c r
    rw [if_pos ok] at h1
    have h2 := impl_parrow_ev q x y z
    rw [if_pos hp] at h2
    have hS : seqL (n : Int) b c r = ueL n ++ (sg 4 b ++ (listL c ++ listL r)) := by
      unfold seqL
      rw [Int.toNat_natCast]
      simp only [List.append_assoc]
    have hP : parL q x y z = sg 6 q ++ (flag x ++ (flag y ++ flag z)) := by
      unfold parL
      simp only [List.append_assoc]
    have hSl : (seqL (n : Int) b c r).length = (ueL n).length + (4 + ((listL c).length + (listL r).length)) := by rw [hS, List.length_append, List.length_append, List.length_append, g4]
    have hPl : (parL q x y z).length = 9 := by rw [hP, List.length_append, List.length_append, List.length_append, g6, fx, fy, fz]
    have rowsL : ∀ k : List Int, ∀ u, u ∈ listL k → u = 48 ∨ u = 49 := by
      intro k u hu
      have ues : ∀ k : List Int, ∀ u, u ∈ uesL k → u = 48 ∨ u = 49 := by
        intro k
        induction k with
        | nil => intro u hu; simp [uesL] at hu
        | cons a k ih =>
          intro u hu
          rw [uesL] at hu
          rcases List.mem_append.1 hu with hu | hu
          · exact ueL_row _ u hu
          · exact ih u hu
      unfold listL at hu
      rcases List.mem_append.1 hu with hu | hu
      · exact ueL_row _ u hu
      · exact ues k u hu
    have hRx : ∀ u, u ∈ m ++ seqL (n : Int) b c r ++ parL q x y z → u = 48 ∨ u = 49 := by
      intro u hu
      rw [hS, hP] at hu
      simp only [List.mem_append] at hu
      rcases hu with (hu | hu | hu | hu | hu) | hu | hu | hu | hu
      · exact hmx u hu
      · exact ueL_row _ u hu
      · exact sg_row _ _ u hu
      · exact rowsL c u hu
      · exact rowsL r u hu
      · exact sg_row _ _ u hu
      · exact flag_row x u hu
      · exact flag_row y u hu
      · exact flag_row z u hu
    have hRl : (m ++ seqL (n : Int) b c r ++ parL q x y z).length = m.length + ((ueL n).length + (4 + ((listL c).length + (listL r).length))) + 9 := by rw [List.length_append, List.length_append, hSl, hPl]
    have hok := rowOk_mk (l := m ++ seqL (n : Int) b c r ++ parL q x y z) (by omega) hRx
    have a1 : m ++ (ueL n ++ (sg 4 b ++ (listL c ++ (listL r ++ parL q x y z)))) = m ++ seqL (n : Int) b c r ++ parL q x y z := by rw [hS]; simp only [List.append_assoc]
    have a2 : m ++ ueL n ++ (sg 4 b ++ (listL c ++ (listL r ++ parL q x y z))) = m ++ seqL (n : Int) b c r ++ parL q x y z := by rw [hS]; simp only [List.append_assoc]
    have a3 : m ++ ueL n ++ sg 4 b ++ (listL c ++ (listL r ++ parL q x y z)) = m ++ seqL (n : Int) b c r ++ parL q x y z := by rw [hS]; simp only [List.append_assoc]
    have a4 : m ++ ueL n ++ sg 4 b ++ listL c ++ (listL r ++ parL q x y z) = m ++ seqL (n : Int) b c r ++ parL q x y z := by rw [hS]; simp only [List.append_assoc]
    have e1 := rdUe_ue (pre := m) (suf := sg 4 b ++ (listL c ++ (listL r ++ parL q x y z))) (n := n) (by omega)
    rw [a1] at e1
    have e2 := rdList_list (pre := m ++ ueL n ++ sg 4 b) (suf := listL r ++ parL q x y z) fc.1
    have e3 := rdList_list (pre := m ++ ueL n ++ sg 4 b ++ listL c) (suf := parL q x y z) fr.1
    rw [a3, List.length_append, List.length_append, g4] at e2
    rw [a4, List.length_append, List.length_append, List.length_append, g4] at e3
    have ebv : vb 0 (((m ++ seqL (n : Int) b c r ++ parL q x y z).drop (m.length + (ueL n).length)).take 4) = b := by
      rw [← a2, drop_at (m ++ ueL n) _ (by rw [List.length_append]), List.take_left' g4]
      exact vb_sg 4 b (by omega) (Int.lt_of_le_of_lt b1 (by decide))
    have hrs := impl_readseq_ev (Bys.signs hRx) hok (p := m.length) (by omega) e1 (by omega) ebv e2 e3 ok
    have d0 : m ++ seqL (n : Int) b c r ++ (sg 6 q ++ (flag x ++ (flag y ++ flag z))) = m ++ seqL (n : Int) b c r ++ parL q x y z := by rw [hP]
    have d1 : m ++ seqL (n : Int) b c r ++ sg 6 q ++ (flag x ++ (flag y ++ flag z)) = m ++ seqL (n : Int) b c r ++ parL q x y z := by rw [hP]; simp only [List.append_assoc]
    have d2 : m ++ seqL (n : Int) b c r ++ sg 6 q ++ flag x ++ (flag y ++ flag z) = m ++ seqL (n : Int) b c r ++ parL q x y z := by rw [hP]; simp only [List.append_assoc]
    have d3 : m ++ seqL (n : Int) b c r ++ sg 6 q ++ flag x ++ flag y ++ flag z = m ++ seqL (n : Int) b c r ++ parL q x y z := by rw [hP]; simp only [List.append_assoc]
    have pl : (m ++ seqL (n : Int) b c r).length = m.length + (ueL n).length + 4 + (listL c).length + (listL r).length := by rw [List.length_append, hSl]; omega
    have hrp := impl_readpar_ev (l := m ++ seqL (n : Int) b c r ++ parL q x y z) (p := m.length + (ueL n).length + 4 + (listL c).length + (listL r).length) (q := q) (x := x) (y := y) (z := z) (Bys.signs hRx) hok (by omega)
      (by rw [← d0, drop_at _ _ pl, List.take_left' g6]; exact vb_sg 6 q hq.1 (Int.lt_of_le_of_lt hq.2 (by decide)))
      (by rw [← d1, drop_at _ _ (by rw [List.length_append, pl, g6]), List.take_left' fx]; exact flag_bit x)
      (by rw [← d2, drop_at _ _ (by rw [List.length_append, List.length_append, pl, g6, fx]), List.take_left' fy]; exact flag_bit y)
      (by rw [← d3, drop_at _ _ (by rw [List.length_append, List.length_append, List.length_append, pl, g6, fx, fy]), List.take_of_length_le (by rw [fz]; exact Nat.le_refl _)]; exact flag_bit z)
      hp
    obtain ⟨c1, c2, _⟩ := sc
    obtain ⟨r1, r2, _⟩ := sr
    refine Ev.bind hd (Ev.bind hd (Ev.bind hm (Ev.bind h1 (Ev.bind h2 ?_))))
    simp only [str_size, str_append, List.length_append, hSl, hPl, if_pos (show m.length + ((ueL n).length + (4 + ((listL c).length + (listL r).length))) ≤ 9223372036854775807 by omega), if_pos (show m.length + ((ueL n).length + (4 + ((listL c).length + (listL r).length))) + 9 ≤ 9223372036854775807 by omega)]
    refine Ev.bind hrs (Ev.bind hrp ?_)
    simp only [if_true]
    refine Ev.bind (sameSeq_ev (by omega) (by omega)) ?_
    simp only [if_true, beq_self_eq_true, Bool.and_self]
    rw [w64 (x := (m.length : Int) + (((ueL n).length + (4 + ((listL c).length + (listL r).length)) : Nat) : Int)) (by omega) (by omega), if_pos (by omega), w64 (by omega) (by omega), if_pos (by omega)]
    exact Ev.now _

end Go.Proofs.Ytkbehnnnfiakgaa.Pure
