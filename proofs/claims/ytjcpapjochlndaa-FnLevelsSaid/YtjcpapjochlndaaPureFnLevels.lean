/- A drawn right set keeps the limit of its level, is right at the LevelFor it, and not below. -/
import Derived.Test.YtjcpapjochlndaaQFnLevelsx5
set_option linter.unusedVariables false
set_option linter.unusedSimpArgs false
namespace Go.Proofs.Ytjcpapjochlndaa.Pure
open Go.RowKit Go.Proofs.Ytjcpapjochlndaa.QFnLevels Go.Proofs.YtjcpapjochlndaaW.PrintWords Go.Proofs.YtjcpapjochlndaaW.PrintLast Go.Proofs.YtjcpapjochlndaaW.PrintMore

/-! ### Bytes as lists of numbers, and some plain facts -/
theorem w64 {x : Int} (h0 : -9223372036854775808 ≤ x) (h1 : x ≤ 9223372036854775807) : wrap64 x = x := by
  unfold wrap64
  omega
theorem i64_bounds {x : Int} (h : (Lit.int .i64 x).wf = true) : -9223372036854775808 ≤ x ∧ x ≤ 9223372036854775807 := by
  have e := h
  simp [Lit.wf, IntKind.min, IntKind.max, IntKind.signed, IntKind.bits] at e
  omega
/-- All numbers of the list are bytes. -/
def Bys (l : List Int) : Prop := ∀ x, x ∈ l → 0 ≤ x ∧ x < 256
theorem Bys.nil : Bys [] := fun _ h => by cases h
theorem Bys.cons {x : Int} {l : List Int} (h0 : 0 ≤ x) (h1 : x < 256) (h : Bys l) : Bys (x :: l) := fun y hy => by
  rcases List.mem_cons.1 hy with rfl | hy
  · exact ⟨h0, h1⟩
  · exact h y hy
theorem Bys.append {l m : List Int} (h : Bys l) (h' : Bys m) : Bys (l ++ m) := fun y hy => by
  rcases List.mem_append.1 hy with hy | hy
  · exact h y hy
  · exact h' y hy
theorem Bys.left {l m : List Int} (h : Bys (l ++ m)) : Bys l := fun y hy => h y (List.mem_append_left _ hy)
theorem Bys.right {l m : List Int} (h : Bys (l ++ m)) : Bys m := fun y hy => h y (List.mem_append_right _ hy)
theorem Bys.take {l : List Int} (h : Bys l) (n : Nat) : Bys (l.take n) := fun y hy => h y (List.mem_of_mem_take hy)
theorem Bys.drop {l : List Int} (h : Bys l) (n : Nat) : Bys (l.drop n) := fun y hy => h y (List.mem_of_mem_drop hy)
theorem Bys.getD {l : List Int} (h : Bys l) (i : Nat) : 0 ≤ l.getD i 0 ∧ l.getD i 0 < 256 := by
  rw [List.getD_eq_getElem?_getD]
  by_cases hi : i < l.length
  · rw [List.getElem?_eq_getElem hi]
    exact h _ (List.getElem_mem hi)
  · rw [List.getElem?_eq_none (by omega)]
    exact ⟨by decide, by decide⟩
theorem nums_of (a : ByteArray) : ∃ l, Bys l ∧ a = strOfNums l := by
  refine ⟨a.data.toList.map fun u => (u.toNat : Int), ?_, ?_⟩
  · intro x hx
    obtain ⟨u, _, rfl⟩ := List.mem_map.1 hx
    have := u.toNat_lt
    omega
  · unfold strOfNums
    rw [List.map_map]
    have e : ((fun n : Int => UInt8.ofNat n.toNat) ∘ fun u : UInt8 => (u.toNat : Int)) = id := by
      funext u
      simp
    rw [e, List.map_id]
theorem str_size (l : List Int) : (strOfNums l).size = l.length := strOfNums_size l
theorem bt_str {l : List Int} (h : Bys l) (i : Int) : bt (strOfNums l) i = l.getD i.toNat 0 := by
  unfold bt
  rw [List.getD_eq_getElem?_getD]
  split
  · rename_i hi
    have hi' : i.toNat < l.length := by rw [← str_size]; exact hi
    rw [List.getElem?_eq_getElem hi']
    have hb := h _ (List.getElem_mem hi')
    have e : (strOfNums l)[i.toNat]'hi = UInt8.ofNat (l[i.toNat]).toNat := by
      simp [strOfNums, ByteArray.getElem_eq_getElem_data]
    rw [e, UInt8.toNat_ofNat']
    simp only [Option.getD_some]
    omega
  · rename_i hi
    rw [List.getElem?_eq_none (by rw [← str_size]; omega)]
    rfl
theorem bt_get {l : List Int} (h : Bys l) {i : Int} {n : Nat} (hi : i = (n : Int)) : bt (strOfNums l) i = l.getD n 0 := by
  rw [bt_str h, hi, Int.toNat_natCast]
theorem str_append (l m : List Int) : strOfNums l ++ strOfNums m = strOfNums (l ++ m) := by
  apply ByteArray.ext
  rw [ByteArray.data_append]
  unfold strOfNums
  simp
theorem str_empty : (⟨#[]⟩ : ByteArray) = strOfNums [] := rfl
theorem str_inj {l m : List Int} (hl : Bys l) (hm : Bys m) (h : strOfNums l = strOfNums m) : l = m := by
  have hs : l.length = m.length := by rw [← str_size l, ← str_size m, h]
  apply List.ext_getElem hs
  intro i h1 h2
  have e1 := bt_get hl (i := (i : Int)) rfl
  have e2 := bt_get hm (i := (i : Int)) rfl
  rw [h, e2] at e1
  simp [List.getD_eq_getElem?_getD, h1, h2] at e1
  exact e1.symm
theorem str_extract (l : List Int) (i j : Nat) : (strOfNums l).extract i j = strOfNums ((l.take j).drop i) := by
  apply ByteArray.ext
  rw [ByteArray.data_extract]
  unfold strOfNums
  apply Array.ext'
  simp [List.extract_eq_take_drop, List.drop_take, List.map_drop, List.map_take]
theorem getD_mid (pre suf : List Int) (x : Int) : (pre ++ x :: suf).getD pre.length 0 = x := by
  rw [List.getD_eq_getElem?_getD, List.getElem?_append_right (Nat.le_refl _)]
  simp
theorem bt_mid {pre suf : List Int} {x : Int} (h : Bys (pre ++ x :: suf)) : bt (strOfNums (pre ++ x :: suf)) (pre.length : Int) = x := by
  rw [bt_get h rfl, getD_mid]
theorem rd_mid (pre suf : List Int) (x : Int) : rd (pre ++ x :: suf) (pre.length : Int) = x := by
  unfold rd
  rw [Int.toNat_natCast, getD_mid]
theorem snoc_cons (pre suf : List Int) (x : Int) : pre ++ x :: suf = (pre ++ [x]) ++ suf := by simp
theorem next_len (pre : List Int) (x : Int) (h : pre.length < 4611686018427387904) : wrap64 ((pre.length : Int) + 1) = ((pre ++ [x]).length : Int) := by
  rw [w64 (by omega) (by omega)]
  simp
theorem lt_mid (pre suf : List Int) (x : Int) : (pre.length : Int) < ((strOfNums (pre ++ x :: suf)).size : Int) := by
  rw [str_size]
  simp
  omega
theorem ge_end (pre : List Int) : ¬ ((pre.length : Int) < ((strOfNums pre).size : Int)) := by
  rw [str_size]
  omega
theorem mid_byte {pre suf : List Int} {x : Int} (h : Bys (pre ++ x :: suf)) : 0 ≤ x ∧ x < 256 := h x (by simp)
theorem exact_sb {g h : Nat → Option (ByteArray × Bool)} {v : ByteArray × Bool} (hg : Ev g v) (hh : Ev h v) :
    Ev (fun k => (g k).bind fun b1 => (h k).bind fun b2 => if b2.1.toList = b1.1.toList then (if (b2.2 != b1.2) = true then some false else some true) else some false) true := by
  refine Ev.bind hg (Ev.bind hh ?_)
  simp only [if_true, bne_self_eq_false, Bool.false_eq_true, if_false]
  exact Ev.now _
theorem exact_i {g h : Nat → Option Int} {v : Int} (hg : Ev g v) (hh : Ev h v) :
    Ev (fun k => (g k).bind fun b1 => (h k).bind fun b2 => if b2 = b1 then some true else some false) true := by
  refine Ev.bind hg (Ev.bind hh ?_)
  simp only [if_true]
  exact Ev.now _
theorem exact_s {g h : Nat → Option ByteArray} {v : ByteArray} (hg : Ev g v) (hh : Ev h v) :
    Ev (fun k => (g k).bind fun b1 => (h k).bind fun b2 => if b2.toList = b1.toList then some true else some false) true := by
  refine Ev.bind hg (Ev.bind hh ?_)
  simp only [if_true]
  exact Ev.now _
theorem exact_ib {g h : Nat → Option (Int × Bool)} {v : Int × Bool} (hg : Ev g v) (hh : Ev h v) :
    Ev (fun k => (g k).bind fun b1 => (h k).bind fun b2 => if b2.1 = b1.1 then (if (b2.2 != b1.2) = true then some false else some true) else some false) true := by
  refine Ev.bind hg (Ev.bind hh ?_)
  simp only [if_true, bne_self_eq_false, Bool.false_eq_true, if_false]
  exact Ev.now _
theorem exact_iib {g h : Nat → Option (Int × Int × Bool)} {v : Int × Int × Bool} (hg : Ev g v) (hh : Ev h v) :
    Ev (fun k => (g k).bind fun b1 => (h k).bind fun b2 => if b2.1 = b1.1 then (if b2.2.1 = b1.2.1 then (if (b2.2.2 != b1.2.2) = true then some false else some true) else some false) else some false) true := by
  refine Ev.bind hg (Ev.bind hh ?_)
  simp only [if_true, bne_self_eq_false, Bool.false_eq_true, if_false]
  exact Ev.now _
theorem exact_b {g h : Nat → Option Bool} {v : Bool} (hg : Ev g v) (hh : Ev h v) :
    Ev (fun k => (g k).bind fun b1 => (h k).bind fun b2 => if (b2 != b1) = true then some false else some true) true := by
  refine Ev.bind hg (Ev.bind hh ?_)
  simp only [bne_self_eq_false, Bool.false_eq_true, if_false]
  exact Ev.now _
theorem ev_now {α : Type} {g : Nat → Option α} {v : α} (h : ∀ k, g k = some v) : Ev g v := Ev.congr h (Ev.now v)
theorem and255 (x : Int) : 0 ≤ Go.bits .and .i64 x 255 ∧ Go.bits .and .i64 x 255 ≤ 255 := by
  have h : ((BitVec.ofInt 64 x) &&& (BitVec.ofInt 64 255)).toNat ≤ 255 := by
    rw [BitVec.toNat_and]
    exact Nat.le_trans Nat.and_le_right (by decide)
  have e : Go.bits .and .i64 x 255 = ((((BitVec.ofInt 64 x) &&& (BitVec.ofInt 64 255)).toNat : Nat) : Int) := by
    show IntKind.i64.wrap ((((BitVec.ofInt 64 x) &&& (BitVec.ofInt 64 255)).toNat : Nat) : Int) = _
    rw [IntKind.wrap_i64]
    omega
  omega
/-- A byte is drawn. -/
theorem byte_ev {l : List Int} {a : Int} (n : Int) (h0 : 0 ≤ a) (hl : l.length ≤ maxLen) : ∃ v a' n', spec_l01Byte.f l a n = some (v, a', n') ∧ 0 ≤ v ∧ v ≤ 255 ∧ 0 ≤ a' := by
  have hm : maxLen ≤ 9223372036854775807 := by decide
  unfold spec_l01Byte.f
  by_cases h : a < (l.length : Int)
  · rw [if_pos h, if_pos h0]
    exact ⟨_, _, _, rfl, (and255 _).1, (and255 _).2, by rw [w64 (by omega) (by omega)]; omega⟩
  · rw [if_neg h]
    exact ⟨_, _, _, rfl, (and255 _).1, (and255 _).2, h0⟩
/-- A number below another is drawn. -/
theorem below_ev {l : List Int} {a : Int} (n : Int) {m : Int} (h0 : 0 ≤ a) (hl : l.length ≤ maxLen) (hm : 0 < m) : ∃ v a' n', spec_l01Below.f l a n m = some (v, a', n') ∧ 0 ≤ v ∧ v < m ∧ 0 ≤ a' := by
  unfold spec_l01Below.f
  rw [if_neg (by omega)]
  obtain ⟨v1, a1, n1, e1, l1, u1, p1⟩ := byte_ev n h0 hl
  by_cases h : m ≤ 256
  · rw [if_pos h, e1]
    simp only [Option.bind_some, if_neg (show ¬ m = 0 by omega)]
    refine ⟨_, _, _, rfl, ?_, ?_, p1⟩
    · exact Int.tmod_nonneg _ l1
    · exact Int.tmod_lt_of_pos _ hm
  · obtain ⟨v2, a2, n2, e2, l2, u2, p2⟩ := byte_ev n1 p1 hl
    obtain ⟨v3, a3, n3, e3, l3, u3, p3⟩ := byte_ev n2 p2 hl
    obtain ⟨v4, a4, n4, e4, l4, u4, p4⟩ := byte_ev n3 p3 hl
    rw [if_neg h, e1]
    simp only [Option.bind_some, e2, e3, e4, if_neg (show ¬ m = 0 by omega)]
    rw [w64 (x := v1 * 16777216) (by omega) (by omega), w64 (x := v2 * 65536) (by omega) (by omega), w64 (x := v3 * 256) (by omega) (by omega), w64 (x := v1 * 16777216 + v2 * 65536) (by omega) (by omega), w64 (x := v1 * 16777216 + v2 * 65536 + v3 * 256) (by omega) (by omega), w64 (x := v1 * 16777216 + v2 * 65536 + v3 * 256 + v4) (by omega) (by omega)]
    refine ⟨_, _, _, rfl, ?_, ?_, p4⟩
    · exact Int.tmod_nonneg _ (by omega)
    · exact Int.tmod_lt_of_pos _ hm
theorem new_loop {l : List Int} (hl : l.length ≤ maxLen) : ∀ (d i : Nat) (h : Int), i + d = min l.length 4000 → ∃ s, Ev (fun k => spec_l01New.l0 k l h (i : Int)) (l, 0, s)
  | 0, i, h, hi => by
    refine ⟨h, Ev.step (f := fun _ => some (l, 0, h)) (fun k => ?_) (Ev.now _)⟩
    simp only [spec_l01New.l0]
    by_cases h1 : (i : Int) < (l.length : Int)
    · rw [if_pos h1, if_neg (by omega)]
    · rw [if_neg h1]
  | d + 1, i, h, hi => by
    obtain ⟨s, hs⟩ := new_loop hl d (i + 1) (Go.bits .and .i64 (wrap64 ((wrap64 ((wrap64 (h * 131)) + (wrap64 (rd l (i : Int))))) + 7)) 1073741823) (by omega)
    refine ⟨s, Ev.step (fun k => ?_) hs⟩
    simp only [spec_l01New.l0]
    rw [if_pos (by omega), if_pos (by omega), if_pos (by omega), w64 (x := (i : Int) + 1) (by omega) (by omega)]
    rfl
theorem new_ev {l : List Int} (hl : l.length ≤ maxLen) : ∃ s, Ev (fun k => spec_l01New.f k l) (l, 0, s) := by
  unfold spec_l01New.f
  exact new_loop hl (min l.length 4000) 0 _ (by omega)
def inSide (x : Int) : Bool := decide (1 ≤ x ∧ x ≤ 8)
def sideOk (l : List Int) : Bool := decide (1 ≤ l.length ∧ l.length ≤ 4) && l.all inSide
def sumI : List Int → Int
  | [] => 0
  | x :: l => x + sumI l
/-- SquaresOf. -/
def sqv (c r : List Int) : Int := if sideOk c = true ∧ sideOk r = true then sumI c * sumI r else 0
def lvSq (n : Int) : Int := if n = 1 then 16 else if n = 2 then 64 else if n = 3 then 256 else 0
/-- SeqOk. -/
def seqOk (a b : Int) (c r : List Int) : Bool := decide (1 ≤ sqv c r ∧ sqv c r ≤ lvSq a) && decide (3 ≤ b ∧ b ≤ 8)
theorem sumI_bounds : ∀ l : List Int, l.all inSide = true → (l.length : Int) ≤ sumI l ∧ sumI l ≤ 8 * (l.length : Int)
  | [], _ => by simp [sumI]
  | x :: l, h => by
    rw [List.all_cons, Bool.and_eq_true] at h
    have hx : 1 ≤ x ∧ x ≤ 8 := of_decide_eq_true h.1
    have := sumI_bounds l h.2
    simp only [sumI, List.length_cons]
    omega
theorem sideOk_facts {l : List Int} (h : sideOk l = true) : 1 ≤ l.length ∧ l.length ≤ 4 ∧ l.all inSide = true ∧ 1 ≤ sumI l ∧ sumI l ≤ 32 := by
  unfold sideOk at h
  rw [Bool.and_eq_true] at h
  have h1 : 1 ≤ l.length ∧ l.length ≤ 4 := of_decide_eq_true h.1
  have := sumI_bounds l h.2
  exact ⟨h1.1, h1.2, h.2, by omega, by omega⟩
theorem sqv_bounds (c r : List Int) : 0 ≤ sqv c r ∧ sqv c r ≤ 1024 := by
  unfold sqv
  split
  · rename_i h
    obtain ⟨_, _, _, h1, h2⟩ := sideOk_facts h.1
    obtain ⟨_, _, _, h3, h4⟩ := sideOk_facts h.2
    have e1 : 0 ≤ sumI c * sumI r := Int.mul_nonneg (by omega) (by omega)
    have e2 : sumI c * sumI r ≤ 32 * 32 := Int.mul_le_mul h2 h4 (by omega) (by decide)
    exact ⟨e1, by omega⟩
  · exact ⟨by decide, by decide⟩
theorem seqOk_facts {a b : Int} {c r : List Int} (h : seqOk a b c r = true) : sideOk c = true ∧ sideOk r = true ∧ 1 ≤ a ∧ a ≤ 3 ∧ 3 ≤ b ∧ b ≤ 8 ∧ sqv c r = sumI c * sumI r := by
  unfold seqOk at h
  rw [Bool.and_eq_true] at h
  have h1 : 1 ≤ sqv c r ∧ sqv c r ≤ lvSq a := of_decide_eq_true h.1
  have h2 : 3 ≤ b ∧ b ≤ 8 := of_decide_eq_true h.2
  have h3 : 1 ≤ a ∧ a ≤ 3 := by
    have := h1.2
    unfold lvSq at this
    split at this
    · omega
    · split at this
      · omega
      · split at this <;> omega
  have h4 : sideOk c = true ∧ sideOk r = true := by
    by_cases h5 : sideOk c = true ∧ sideOk r = true
    · exact h5
    · have e : sqv c r = 0 := by unfold sqv; rw [if_neg h5]
      omega
  exact ⟨h4.1, h4.2, h3.1, h3.2, h2.1, h2.2, by unfold sqv; rw [if_pos h4]⟩
theorem in_yes {x lo hi : Int} (h0 : lo ≤ x) (h1 : x ≤ hi) : spec_l01In.f x lo hi = some true := by
  unfold spec_l01In.f
  rw [if_pos h0, decide_eq_true h1]
theorem in_no {x lo hi : Int} (h : ¬ (lo ≤ x ∧ x ≤ hi)) : spec_l01In.f x lo hi = some false := by
  unfold spec_l01In.f
  by_cases h0 : lo ≤ x
  · rw [if_pos h0, decide_eq_false (fun h1 => h ⟨h0, h1⟩)]
  · rw [if_neg h0]
theorem in_any (x lo hi : Int) : spec_l01In.f x lo hi = some (decide (lo ≤ x ∧ x ≤ hi)) := by
  by_cases h : lo ≤ x ∧ x ≤ hi
  · rw [in_yes h.1 h.2, decide_eq_true h]
  · rw [in_no h, decide_eq_false h]
theorem spec_sum_loop : ∀ (suf pre : List Int) (acc : Int), (pre ++ suf).length ≤ 4 → 0 ≤ acc → acc ≤ 8 * (pre.length : Int) →
    Ev (fun k => spec_l05Sum.l0 k (pre ++ suf) acc (pre.length : Int)) (if suf.all inSide = true then acc + sumI suf else 0)
  | [], pre, acc, hl, h0, h1 => by
    refine Ev.step (f := fun _ => some acc) (fun k => ?_) (by simp only [List.all_nil, if_true, sumI, Int.add_zero]; exact Ev.now _)
    simp only [spec_l05Sum.l0, List.append_nil]
    rw [if_neg (by omega)]
  | x :: suf, pre, acc, hl, h0, h1 => by
    have hl' : pre.length + (suf.length + 1) ≤ 4 := by simpa using hl
    by_cases hx : 1 ≤ x ∧ x ≤ 8
    · have ih := spec_sum_loop suf (pre ++ [x]) (acc + x) (by rw [← snoc_cons]; exact hl) (by omega) (by simp; omega)
      rw [← snoc_cons] at ih
      have e : (if (x :: suf).all inSide = true then acc + sumI (x :: suf) else 0) = (if suf.all inSide = true then acc + x + sumI suf else 0) := by
        rw [List.all_cons, show inSide x = true from decide_eq_true hx, Bool.true_and, sumI, Int.add_assoc]
      rw [e]
      refine Ev.step (fun k => ?_) ih
      simp only [spec_l05Sum.l0]
      rw [if_pos (by simp; omega), if_pos (by omega), rd_mid, in_yes hx.1 hx.2]
      simp only [Option.bind_some, if_true]
      rw [w64 (x := acc + x) (by omega) (by omega), next_len pre x (by omega)]
    · have e : (if (x :: suf).all inSide = true then acc + sumI (x :: suf) else 0) = 0 := by
        rw [List.all_cons, show inSide x = false from decide_eq_false hx, Bool.false_and]
        rfl
      rw [e]
      refine Ev.step (f := fun _ => some 0) (fun k => ?_) (Ev.now _)
      simp only [spec_l05Sum.l0]
      rw [if_pos (by simp; omega), if_pos (by omega), rd_mid, in_no hx]
      rfl
theorem spec_sum_ev (l : List Int) : Ev (fun k => spec_l05Sum.f k l) (if sideOk l = true then sumI l else 0) := by
  unfold spec_l05Sum.f sideOk
  by_cases h : 1 ≤ l.length ∧ l.length ≤ 4
  · simp only [if_neg (show ¬ (l.length : Int) < 1 by omega), decide_eq_true h, Bool.true_and, decide_eq_false (show ¬ (l.length : Int) > 4 by omega)]
    have := spec_sum_loop l [] 0 h.2 (by decide) (by decide)
    rw [Int.zero_add] at this
    refine Ev.step (fun k => ?_) this
    simp only [spec_l05Sum.j0, Bool.false_eq_true, if_false]
    rfl
  · have no : Ev (fun k => spec_l05Sum.j0 k l true) 0 := Ev.step (f := fun _ => some 0) (fun k => by simp only [spec_l05Sum.j0, if_true]) (Ev.now _)
    rw [decide_eq_false h, Bool.false_and]
    by_cases h1 : (l.length : Int) < 1
    · simp only [if_pos h1, Bool.false_eq_true, if_false]
      exact no
    · simp only [if_neg h1, Bool.false_eq_true, if_false, decide_eq_true (show (l.length : Int) > 4 by omega)]
      exact no
theorem spec_sq_ev (a b : Int) (c r : List Int) : Ev (fun k => spec_SquaresOf.f k a b c r) (sqv c r) := by
  unfold spec_SquaresOf.f
  refine Ev.bind (spec_sum_ev c) (Ev.bind (spec_sum_ev r) ?_)
  have hb := sqv_bounds c r
  have e : (if sideOk c = true then sumI c else 0) * (if sideOk r = true then sumI r else 0) = sqv c r := by
    unfold sqv
    cases sideOk c <;> cases sideOk r <;> simp
  rw [e, w64 (by omega) (by omega)]
  exact Ev.now _
theorem spec_lv (n : Int) : spec_LevelSquares.f n = some (lvSq n) := by
  unfold spec_LevelSquares.f lvSq
  split
  · rfl
  · split
    · rfl
    · split <;> rfl
theorem spec_seqok_ev (a b : Int) (c r : List Int) : Ev (fun k => spec_SeqOk.f k a b c r) (seqOk a b c r) := by
  unfold spec_SeqOk.f seqOk
  refine Ev.bind (spec_sq_ev a b c r) ?_
  simp only [spec_lv, Option.bind_some, in_any]
  by_cases h : 1 ≤ sqv c r ∧ sqv c r ≤ lvSq a
  · simp only [decide_eq_true h, if_true, Bool.true_and]
    exact Ev.now _
  · simp only [decide_eq_false h, Bool.false_eq_true, if_false, Bool.false_and]
    exact Ev.now _
/-- TilesOf. -/
def tilesV (a b : Int) (c r : List Int) : Int := if seqOk a b c r = true then (c.length : Int) * (r.length : Int) else 0
theorem tiles_bounds {a b : Int} {c r : List Int} (h : seqOk a b c r = true) : 1 ≤ (c.length : Int) * (r.length : Int) ∧ (c.length : Int) * (r.length : Int) ≤ 16 := by
  obtain ⟨h1, h2, _⟩ := seqOk_facts h
  obtain ⟨g1, g2, _⟩ := sideOk_facts h1
  obtain ⟨g3, g4, _⟩ := sideOk_facts h2
  have e1 : (1 : Int) * 1 ≤ (c.length : Int) * (r.length : Int) := Int.mul_le_mul (by omega) (by omega) (by decide) (by omega)
  have e2 : (c.length : Int) * (r.length : Int) ≤ 4 * 4 := Int.mul_le_mul (by omega) (by omega) (by omega) (by decide)
  exact ⟨by omega, by omega⟩
theorem spec_tiles_ev (a b : Int) (c r : List Int) : Ev (fun k => spec_TilesOf.f k a b c r) (tilesV a b c r) := by
  unfold spec_TilesOf.f tilesV
  refine Ev.bind (spec_seqok_ev a b c r) ?_
  by_cases h : seqOk a b c r = true
  · have := tiles_bounds h
    simp only [h, if_true]
    rw [w64 (by omega) (by omega)]
    exact Ev.now _
  · simp only [if_neg h]
    exact Ev.now _
/-- ParOk. -/
def parOkV (q : Int) (a b c : Bool) : Bool := decide (0 ≤ q ∧ q ≤ 40) && !(a && b)
theorem shl_small_val : ∀ m : Fin 31, shl .i64 1 ((m : Nat) : Int) = 2 ^ (m : Nat) ∧ (2 : Int) ^ (m : Nat) ≤ 1073741824 ∧ (1 : Int) ≤ 2 ^ (m : Nat) ∧ IntKind.u64.wrap ((m : Nat) : Int) = ((m : Nat) : Int) := by decide +kernel
theorem shl_val (w : Nat) (h : w ≤ 30) : shl .i64 1 (w : Int) = 2 ^ w := (shl_small_val ⟨w, by omega⟩).1
theorem pow_le (w : Nat) (h : w ≤ 30) : (2 : Int) ^ w ≤ 1073741824 := (shl_small_val ⟨w, by omega⟩).2.1
theorem pow_pos (w : Nat) (h : w ≤ 30) : (1 : Int) ≤ 2 ^ w := (shl_small_val ⟨w, by omega⟩).2.2.1
theorem u64_val (w : Nat) (h : w ≤ 30) : IntKind.u64.wrap (w : Int) = (w : Int) := (shl_small_val ⟨w, by omega⟩).2.2.2
/-- HeadOk. -/
def headOk (a b : Int) (c r : List Int) (q : Int) (x y z : Bool) (t f h : Int) : Bool :=
  seqOk a b c r && (parOkV q x y z && (decide (0 ≤ t ∧ t < tilesV a b c r) && (decide (0 ≤ f ∧ f < 2 ^ b.toNat) && decide (0 ≤ h ∧ h ≤ 40))))
/-- Sides, as they are drawn. -/
def SidesOk (l : List Int) : Prop := 1 ≤ l.length ∧ l.length ≤ 3 ∧ ∀ x, x ∈ l → 1 ≤ x ∧ x ≤ 2
theorem sides_loop {l : List Int} (hl : l.length ≤ maxLen) : ∀ (d i : Nat) (acc : List Int) (a n : Int), i + d = 3 → acc.length = i → 0 ≤ a → (∀ x, x ∈ acc → 1 ≤ x ∧ x ≤ 2) →
    ∃ s a' n', Ev (fun k => spec_l05Sides.l0 k acc (i : Int) l a n) (s, a', n') ∧ SidesOk s ∧ 0 ≤ a'
  | d, i, acc, a, n, hi, ha, h0, hx => by
    obtain ⟨v, a1, n1, e1, v0, v1, p1⟩ := below_ev n h0 hl (show (0 : Int) < 3 by decide)
    by_cases hv : (i : Int) ≤ v
    · obtain ⟨d, rfl⟩ : ∃ e, d = e + 1 := ⟨d - 1, by omega⟩
      obtain ⟨w, a2, n2, e2, w0, w1, p2⟩ := below_ev n1 p1 hl (show (0 : Int) < 2 by decide)
      obtain ⟨s, a', n', hs, hg, hp⟩ := sides_loop hl d (i + 1) (acc ++ [1 + w]) a2 n2 (by omega) (by simp; omega) p2 (fun x h => by
        rcases List.mem_append.1 h with h | h
        · exact hx x h
        · rw [List.mem_singleton.1 h]
          omega)
      refine ⟨s, a', n', Ev.step (fun k => ?_) hs, hg, hp⟩
      simp only [spec_l05Sides.l0]
      rw [e1]
      simp only [Option.bind_some, if_pos hv, e2, if_pos (show acc.length < 17592186044416 by omega)]
      rw [w64 (x := (i : Int) + 1) (by omega) (by omega), w64 (x := 1 + w) (by omega) (by omega)]
      rfl
    · refine ⟨acc, a1, n1, Ev.step (f := fun _ => some (acc, a1, n1)) (fun k => ?_) (Ev.now _), ⟨by omega, by omega, hx⟩, p1⟩
      simp only [spec_l05Sides.l0]
      rw [e1]
      simp only [Option.bind_some, if_neg hv]
  termination_by d => d
theorem sides_ev {l : List Int} (hl : l.length ≤ maxLen) {a : Int} (n : Int) (h0 : 0 ≤ a) : ∃ s a' n', Ev (fun k => spec_l05Sides.f k l a n) (s, a', n') ∧ SidesOk s ∧ 0 ≤ a' := by
  unfold spec_l05Sides.f
  exact sides_loop hl 3 0 [] a n rfl rfl h0 (fun x h => by cases h)
theorem sides_sum : ∀ l : List Int, (∀ x, x ∈ l → 1 ≤ x ∧ x ≤ 2) → l.all inSide = true ∧ (l.length : Int) ≤ sumI l ∧ sumI l ≤ 2 * (l.length : Int)
  | [], _ => ⟨rfl, by simp [sumI], by simp [sumI]⟩
  | x :: l, h => by
    have hx := h x (List.mem_cons_self ..)
    obtain ⟨i1, i2, i3⟩ := sides_sum l (fun y hy => h y (List.mem_cons_of_mem _ hy))
    refine ⟨?_, by simp only [sumI, List.length_cons]; omega, by simp only [sumI, List.length_cons]; omega⟩
    rw [List.all_cons, i1, Bool.and_true]
    exact decide_eq_true (by omega)
theorem sides_facts {l : List Int} (h : SidesOk l) : sideOk l = true ∧ 1 ≤ sumI l ∧ sumI l ≤ 6 := by
  obtain ⟨h1, h2, h3⟩ := h
  obtain ⟨i1, i2, i3⟩ := sides_sum l h3
  refine ⟨?_, by omega, by omega⟩
  unfold sideOk
  rw [i1, Bool.and_true]
  exact decide_eq_true (by omega)
theorem sq_sides {c r : List Int} (hc : SidesOk c) (hr : SidesOk r) : sqv c r = sumI c * sumI r ∧ 1 ≤ sqv c r ∧ sqv c r ≤ 36 := by
  obtain ⟨c1, c2, c3⟩ := sides_facts hc
  obtain ⟨r1, r2, r3⟩ := sides_facts hr
  have e : sqv c r = sumI c * sumI r := if_pos ⟨c1, r1⟩
  rw [e]
  refine ⟨rfl, ?_, ?_⟩
  · have := Int.mul_le_mul (show (1 : Int) ≤ sumI c by omega) (show (1 : Int) ≤ sumI r by omega) (by decide) (by omega)
    omega
  · have := Int.mul_le_mul (show sumI c ≤ 6 by omega) (show sumI r ≤ 6 by omega) (by omega) (by decide)
    omega
/-- A set, as it is drawn. -/
def SetOk (a b : Int) (c r : List Int) : Prop := SidesOk c ∧ SidesOk r ∧ (a = 3 ∨ a = 1) ∧ 3 ≤ b ∧ b ≤ 5 ∧ seqOk a b c r = true
theorem right_ev {l : List Int} (hl : l.length ≤ maxLen) {a : Int} (n : Int) (h0 : 0 ≤ a) : ∃ lv b c r a' n', Ev (fun k => spec_l05Right.f k l a n) (lv, b, c, r, a', n') ∧ SetOk lv b c r ∧ 0 ≤ a' := by
  obtain ⟨v, a1, n1, e1, v0, v1, p1⟩ := below_ev n h0 hl (show (0 : Int) < 3 by decide)
  obtain ⟨c, a2, n2, hc, sc, p2⟩ := sides_ev hl n1 p1
  obtain ⟨r, a3, n3, hr, sr, p3⟩ := sides_ev hl n2 p2
  obtain ⟨w, a4, n4, e4, w0, w1, p4⟩ := below_ev n3 p3 hl (show (0 : Int) < 2 by decide)
  have hsq := sq_sides sc sr
  have hseq : ∀ lv, (lv = 3 ∨ (lv = 1 ∧ sqv c r ≤ 16)) → seqOk lv (3 + v) c r = true := by
    intro lv h
    unfold seqOk lvSq
    rw [Bool.and_eq_true]
    refine ⟨decide_eq_true ?_, decide_eq_true (by omega)⟩
    rcases h with rfl | ⟨rfl, h⟩
    · exact ⟨hsq.2.1, Int.le_trans hsq.2.2 (by decide)⟩
    · exact ⟨hsq.2.1, Int.le_trans h (by decide)⟩
  have three : SetOk 3 (3 + v) c r := ⟨sc, sr, Or.inl rfl, by omega, by omega, hseq 3 (Or.inl rfl)⟩
  have eo : spec_l01Once.f l a3 n3 2 = some ((w == 0), a4, n4) := by
    unfold spec_l01Once.f
    rw [e4]
    rfl
  unfold spec_l05Right.f
  rw [e1]
  simp only [Option.bind_some]
  rw [w64 (x := 3 + v) (by omega) (by omega)]
  cases hw : (w == 0)
  · refine ⟨3, 3 + v, c, r, a4, n4, Ev.bind hc (Ev.bind hr ?_), three, p4⟩
    simp only [eo, hw, Option.bind_some, Bool.false_eq_true, if_false]
    exact Ev.now _
  · by_cases h16 : sqv c r ≤ 16
    · refine ⟨1, 3 + v, c, r, a4, n4, Ev.bind hc (Ev.bind hr ?_), ⟨sc, sr, Or.inr rfl, by omega, by omega, hseq 1 (Or.inr ⟨rfl, h16⟩)⟩, p4⟩
      simp only [eo, hw, Option.bind_some, if_true]
      refine Ev.bind (spec_sq_ev _ _ _ _) ?_
      simp only [if_pos h16]
      exact Ev.now _
    · refine ⟨3, 3 + v, c, r, a4, n4, Ev.bind hc (Ev.bind hr ?_), three, p4⟩
      simp only [eo, hw, Option.bind_some, if_true]
      refine Ev.bind (spec_sq_ev _ _ _ _) ?_
      simp only [if_neg h16]
      exact Ev.now _
theorem parright_ev {l : List Int} (hl : l.length ≤ maxLen) {a : Int} (n : Int) (h0 : 0 ≤ a) : ∃ q x y z a' n', spec_l05ParRight.f l a n = some (q, x, y, z, a', n') ∧ parOkV q x y z = true ∧ 0 ≤ a' := by
  obtain ⟨v, a1, n1, e1, v0, v1, p1⟩ := below_ev n h0 hl (show (0 : Int) < 41 by decide)
  obtain ⟨w, a2, n2, e2, w0, w1, p2⟩ := below_ev n1 p1 hl (show (0 : Int) < 4 by decide)
  obtain ⟨u, a3, n3, e3, u0, u1, p3⟩ := below_ev n2 p2 hl (show (0 : Int) < 3 by decide)
  have hq : ∀ x y z : Bool, (x && y) = false → parOkV v x y z = true := by
    intro x y z h
    unfold parOkV
    rw [decide_eq_true (show 0 ≤ v ∧ v ≤ 40 by omega), h]
    rfl
  unfold spec_l05ParRight.f spec_l01Once.f
  rw [e1]
  simp only [Option.bind_some, e2, e3]
  by_cases h : u = 0
  · rw [if_pos h]
    exact ⟨_, _, _, _, _, _, rfl, hq _ _ _ rfl, p3⟩
  · rw [if_neg h]
    by_cases h1 : u = 1
    · rw [if_pos h1]
      exact ⟨_, _, _, _, _, _, rfl, hq _ _ _ rfl, p3⟩
    · rw [if_neg h1]
      exact ⟨_, _, _, _, _, _, rfl, hq _ _ _ rfl, p3⟩
theorem head_ev {l : List Int} (hl : l.length ≤ maxLen) {a : Int} (n : Int) (h0 : 0 ≤ a) {lv b : Int} {c r : List Int} {q : Int} {x y z : Bool} (hs : SetOk lv b c r) (hp : parOkV q x y z = true) : ∃ t f h a' n', Ev (fun k => spec_l07Head.f k l a n lv b c r) (t, f, h, a', n') ∧ headOk lv b c r q x y z t f h = true := by
  obtain ⟨_, _, _, b0, b1, ok⟩ := hs
  have ht := tiles_bounds ok
  have htv : tilesV lv b c r = (c.length : Int) * (r.length : Int) := if_pos ok
  obtain ⟨t, a1, n1, e1, t0, t1, p1⟩ := below_ev n h0 hl (show (0 : Int) < tilesV lv b c r by omega)
  obtain ⟨h, a2, n2, e2, q0, q1, p2⟩ := below_ev n1 p1 hl (show (0 : Int) < 41 by decide)
  obtain ⟨w, rfl⟩ := Int.eq_ofNat_of_zero_le (show 0 ≤ b by omega)
  have hb2 := pow_pos w (by omega)
  obtain ⟨f, a3, n3, e3, f0, f1, p3⟩ := below_ev n2 p2 hl (show (0 : Int) < 2 ^ w by omega)
  refine ⟨t, f, h, a3, n3, ?_, ?_⟩
  · unfold spec_l07Head.f
    refine Ev.bind (spec_tiles_ev _ _ _ _) ?_
    rw [in_yes (by omega) (by omega), u64_val w (by omega), shl_val w (by omega)]
    simp only [e1, e2, Option.bind_some, if_true, if_pos (show (0 : Int) ≤ (w : Int) by omega), e3]
    exact Ev.now _
  · unfold headOk
    rw [ok, hp, decide_eq_true ⟨t0, t1⟩, Int.toNat_natCast, decide_eq_true ⟨f0, f1⟩, decide_eq_true ⟨q0, show h ≤ 40 by omega⟩]
    rfl
/-- DrawSets: a right set, a right par and a right head. -/
theorem sets_ev {l : List Int} (hl : l.length ≤ maxLen) : ∃ lv b c r q x y z t f h, Ev (fun k => spec_DrawSets.f k l) (lv, b, c, r, q, x, y, z, t, f, h) ∧ SetOk lv b c r ∧ parOkV q x y z = true ∧ headOk lv b c r q x y z t f h = true := by
  obtain ⟨s, hs⟩ := new_ev hl
  obtain ⟨lv, b, c, r, a1, n1, h1, s1, p1⟩ := right_ev (a := 0) hl s (by decide)
  obtain ⟨q, x, y, z, a2, n2, h2, s2, p2⟩ := parright_ev hl n1 p1
  obtain ⟨t, f, h, a3, n3, h3, s3⟩ := head_ev hl n2 p2 s1 s2
  refine ⟨lv, b, c, r, q, x, y, z, t, f, h, ?_, s1, s2, s3⟩
  unfold spec_DrawSets.f
  refine Ev.bind hs (Ev.bind h1 ?_)
  simp only [h2, Option.bind_some]
  exact Ev.bind h3 (Ev.now _)
theorem within_yes {x lo hi : Int} (h0 : lo ≤ x) (h1 : x ≤ hi) : impl_within.f x lo hi = some true := by
  unfold impl_within.f
  rw [if_pos h0, decide_eq_true h1]
theorem within_no {x lo hi : Int} (h : ¬ (lo ≤ x ∧ x ≤ hi)) : impl_within.f x lo hi = some false := by
  unfold impl_within.f
  by_cases h0 : lo ≤ x
  · rw [if_pos h0, decide_eq_false (fun h1 => h ⟨h0, h1⟩)]
  · rw [if_neg h0]
theorem within_any (x lo hi : Int) : impl_within.f x lo hi = some (decide (lo ≤ x ∧ x ≤ hi)) := by
  by_cases h : lo ≤ x ∧ x ≤ hi
  · rw [within_yes h.1 h.2, decide_eq_true h]
  · rw [within_no h, decide_eq_false h]
theorem sumOf_loop : ∀ (suf pre : List Int) (acc : Int), (pre ++ suf).length ≤ 4 → suf.all inSide = true → 0 ≤ acc → acc ≤ 8 * (pre.length : Int) →
    Ev (fun k => impl_sumOf.l0 k acc (pre ++ suf) ((pre ++ suf).length : Int) (pre.length : Int)) (acc + sumI suf)
  | [], pre, acc, hl, _, h0, h1 => by
    refine Ev.step (f := fun _ => some acc) (fun k => ?_) (by simp only [sumI, Int.add_zero]; exact Ev.now _)
    simp only [impl_sumOf.l0, List.append_nil]
    rw [if_neg (by omega)]
  | x :: suf, pre, acc, hl, ha, h0, h1 => by
    have hl' : pre.length + (suf.length + 1) ≤ 4 := by simpa using hl
    rw [List.all_cons, Bool.and_eq_true] at ha
    have hx : 1 ≤ x ∧ x ≤ 8 := of_decide_eq_true ha.1
    have ih := sumOf_loop suf (pre ++ [x]) (acc + x) (by rw [← snoc_cons]; exact hl) ha.2 (by omega) (by simp; omega)
    rw [← snoc_cons] at ih
    rw [sumI, ← Int.add_assoc]
    refine Ev.step (fun k => ?_) ih
    simp only [impl_sumOf.l0]
    rw [if_pos (by simp; omega), if_pos (by omega), if_pos (by simp; omega), rd_mid, w64 (x := acc + x) (by omega) (by omega), next_len pre x (by omega)]
theorem sumOf_ev {l : List Int} (h : sideOk l = true) : Ev (fun k => impl_sumOf.f k l) (sumI l) := by
  obtain ⟨_, h1, h2, _⟩ := sideOk_facts h
  have := sumOf_loop l [] 0 h1 h2 (by decide) (by decide)
  rw [Int.zero_add] at this
  exact this
theorem sq_inner {c r : List Int} {a b : Int} {j : Int} {R : Int} : ∀ (suf pre : List Int), (pre ++ suf).length ≤ 4 → (suf.all inSide = true → Ev (fun k => impl_SquaresOf.l0 k [c, r] 2 (wrap64 (j + 1)) a b c r) R) →
    Ev (fun k => impl_SquaresOf.l1 k [c, r] 2 j (pre ++ suf) ((pre ++ suf).length : Int) (pre.length : Int) a b c r) (if suf.all inSide = true then R else 0)
  | [], pre, hl, h => by
    have h' := h rfl
    simp only [List.all_nil, if_true]
    refine Ev.step (fun k => ?_) h'
    simp only [impl_SquaresOf.l1, List.append_nil]
    rw [if_neg (by omega)]
  | x :: suf, pre, hl, h => by
    have hl' : pre.length + (suf.length + 1) ≤ 4 := by simpa using hl
    by_cases hx : 1 ≤ x ∧ x ≤ 8
    · have hxs : inSide x = true := decide_eq_true hx
      have ih := sq_inner suf (pre ++ [x]) (by rw [← snoc_cons]; exact hl) (fun hs => h (by rw [List.all_cons, hxs, hs]; rfl))
      rw [← snoc_cons] at ih
      rw [List.all_cons, hxs, Bool.true_and]
      refine Ev.step (fun k => ?_) ih
      simp only [impl_SquaresOf.l1]
      rw [if_pos (by simp; omega), if_pos (by omega), if_pos (by simp; omega), rd_mid, within_yes hx.1 hx.2]
      simp only [Option.bind_some, if_true]
      rw [next_len pre x (by omega)]
    · rw [List.all_cons, show inSide x = false from decide_eq_false hx, Bool.false_and]
      simp only [Bool.false_eq_true, if_false]
      refine Ev.step (f := fun _ => some 0) (fun k => ?_) (Ev.now _)
      simp only [impl_SquaresOf.l1]
      rw [if_pos (by simp; omega), if_pos (by omega), if_pos (by simp; omega), rd_mid, within_no hx]
      rfl
theorem sq_round {c r t : List Int} {a b : Int} {j : Int} {R : Int} (h0 : 0 ≤ j) (h2 : j < 2) (ht : rd_L2 [c, r] j = t) (h : sideOk t = true → Ev (fun k => impl_SquaresOf.l0 k [c, r] 2 (wrap64 (j + 1)) a b c r) R) :
    Ev (fun k => impl_SquaresOf.l0 k [c, r] 2 j a b c r) (if sideOk t = true then R else 0) := by
  by_cases hlen : 1 ≤ t.length ∧ t.length ≤ 4
  · have e : (if sideOk t = true then R else 0) = (if t.all inSide = true then R else 0) := by
      unfold sideOk
      rw [decide_eq_true hlen, Bool.true_and]
    rw [e]
    have hi := sq_inner (c := c) (r := r) (a := a) (b := b) (j := j) (R := R) t [] hlen.2 (fun hs => h (by unfold sideOk; rw [decide_eq_true hlen, hs]; rfl))
    refine Ev.step (fun k => ?_) hi
    simp only [impl_SquaresOf.l0]
    rw [if_pos h2, if_pos h0, if_pos (by simpa using h2), ht, within_yes (by omega) (by omega)]
    rfl
  · have e : (if sideOk t = true then R else 0) = 0 := by
      unfold sideOk
      rw [decide_eq_false hlen, Bool.false_and]
      rfl
    rw [e]
    refine Ev.step (f := fun _ => some 0) (fun k => ?_) (Ev.now _)
    simp only [impl_SquaresOf.l0]
    rw [if_pos h2, if_pos h0, if_pos (by simpa using h2), ht, within_no (by omega)]
    rfl
theorem impl_sq_ev (a b : Int) (c r : List Int) : Ev (fun k => impl_SquaresOf.f k a b c r) (sqv c r) := by
  have e : sqv c r = if sideOk c = true then (if sideOk r = true then sumI c * sumI r else 0) else 0 := by
    unfold sqv
    cases sideOk c <;> cases sideOk r <;> simp
  have hb := sqv_bounds c r
  unfold impl_SquaresOf.f
  simp only [Option.bind_some]
  rw [e]
  refine sq_round (by decide) (by decide) rfl (fun h1 => ?_)
  rw [show wrap64 (0 + 1) = 1 from w64 (by decide) (by decide)]
  refine sq_round (by decide) (by decide) rfl (fun h2 => ?_)
  rw [show wrap64 (1 + 1) = 2 from w64 (by decide) (by decide)]
  rw [e, if_pos h1, if_pos h2] at hb
  refine Ev.step (f := fun k => (impl_sumOf.f k c).bind fun x => (impl_sumOf.f k r).bind fun y => some (wrap64 (x * y))) (fun k => ?_) (Ev.bind (sumOf_ev h1) (Ev.bind (sumOf_ev h2) ?_))
  · simp only [impl_SquaresOf.l0]
    rw [if_neg (by decide)]
  · rw [w64 (by omega) (by omega)]
    exact Ev.now _
theorem impl_lv (n : Int) : impl_LevelSquares.f n = some (lvSq n) := by
  by_cases h : 1 ≤ n ∧ n ≤ 3
  · obtain rfl | rfl | rfl : n = 1 ∨ n = 2 ∨ n = 3 := by omega
    all_goals decide +kernel
  · unfold impl_LevelSquares.f lvSq
    rw [within_no h, if_neg (by omega), if_neg (by omega), if_neg (by omega)]
    rfl
theorem impl_seqok_ev (a b : Int) (c r : List Int) : Ev (fun k => impl_SeqOk.f k a b c r) (seqOk a b c r) := by
  unfold impl_SeqOk.f seqOk
  refine Ev.bind (impl_sq_ev a b c r) ?_
  simp only [impl_lv, Option.bind_some, within_any]
  by_cases h : 1 ≤ sqv c r ∧ sqv c r ≤ lvSq a
  · simp only [decide_eq_true h, if_true, Bool.true_and]
    exact Ev.now _
  · simp only [decide_eq_false h, Bool.false_eq_true, if_false, Bool.false_and]
    exact Ev.now _
theorem seq_true {a b : Int} {c r : List Int} (h1 : 1 ≤ sqv c r) (h2 : sqv c r ≤ lvSq a) (h3 : 3 ≤ b) (h4 : b ≤ 8) : seqOk a b c r = true := by
  unfold seqOk
  rw [decide_eq_true ⟨h1, h2⟩, decide_eq_true ⟨h3, h4⟩]
  rfl
theorem seq_false {a b : Int} {c r : List Int} (h : lvSq a < sqv c r) : seqOk a b c r = false := by
  unfold seqOk
  rw [decide_eq_false (by omega)]
  rfl
theorem lev_yes {c r : List Int} {n : Int} (hn : n ≤ 3) (h : seqOk n 3 c r = true) : Ev (fun k => impl_LevelFor.l0 k c r n) n := by
  refine Ev.step (f := fun k => (impl_SeqOk.f k n 3 c r).bind fun t => (if t = true then (some n) else (impl_LevelFor.l0 k c r (wrap64 (n + 1))))) (fun k => ?_) (Ev.bind (impl_seqok_ev n 3 c r) ?_)
  · rw [impl_LevelFor.l0, if_pos hn]
  · simp only [if_pos h]
    exact Ev.now _
theorem lev_no {c r : List Int} {n v : Int} (hn : n ≤ 3) (h0 : 0 ≤ n) (h : seqOk n 3 c r = false) (hv : Ev (fun k => impl_LevelFor.l0 k c r (n + 1)) v) : Ev (fun k => impl_LevelFor.l0 k c r n) v := by
  refine Ev.step (f := fun k => (impl_SeqOk.f k n 3 c r).bind fun t => (if t = true then (some n) else (impl_LevelFor.l0 k c r (wrap64 (n + 1))))) (fun k => ?_) (Ev.bind (impl_seqok_ev n 3 c r) ?_)
  · rw [impl_LevelFor.l0, if_pos hn]
  · simp only [h, Bool.false_eq_true, if_false]
    rw [w64 (by omega) (by omega)]
    exact hv
/-- LevelFor: the least level that takes so many squares. -/
theorem level_ev {c r : List Int} (h1 : 1 ≤ sqv c r) (h2 : sqv c r ≤ 256) : ∃ v, Ev (fun k => impl_LevelFor.f k c r) v ∧ 1 ≤ v ∧ sqv c r ≤ lvSq v ∧ lvSq (v - 1) < sqv c r ∧ (∀ a, 1 ≤ a → sqv c r ≤ lvSq a → v ≤ a) := by
  have e0 : lvSq 0 = 0 := rfl
  have e1 : lvSq 1 = 16 := rfl
  have e2 : lvSq 2 = 64 := rfl
  have e3 : lvSq 3 = 256 := rfl
  have hle : ∀ v : Int, v ≤ 3 → lvSq (v - 1) < sqv c r → 1 ≤ v → ∀ a, 1 ≤ a → sqv c r ≤ lvSq a → v ≤ a := by
    intro v hv3 hv hv1 a ha hs
    by_cases h : v ≤ a
    · exact h
    · obtain rfl | rfl : v = 2 ∨ v = 3 := by omega
      · obtain rfl : a = 1 := by omega
        have : (2 : Int) - 1 = 1 := rfl
        rw [this] at hv
        omega
      · have h31 : (3 : Int) - 1 = 2 := rfl
        rw [h31] at hv
        obtain rfl | rfl : a = 1 ∨ a = 2 := by omega
        · omega
        · omega
  unfold impl_LevelFor.f
  by_cases s1 : sqv c r ≤ 16
  · refine ⟨1, lev_yes (by decide) (seq_true h1 (by omega) (by decide) (by decide)), by decide, by omega, ?_, hle 1 (by decide) ?_ (by decide)⟩
    · show lvSq 0 < _
      omega
    · show lvSq 0 < _
      omega
  · by_cases s2 : sqv c r ≤ 64
    · refine ⟨2, lev_no (by decide) (by decide) (seq_false (by omega)) (lev_yes (by decide) (seq_true h1 (by show _ ≤ lvSq 2; omega) (by decide) (by decide))), by decide, by omega, ?_, hle 2 (by decide) ?_ (by decide)⟩
      · show lvSq 1 < _
        omega
      · show lvSq 1 < _
        omega
    · refine ⟨3, lev_no (by decide) (by decide) (seq_false (by omega)) (lev_no (by decide) (by decide) (seq_false (by show lvSq 2 < _; omega)) (lev_yes (by decide) (seq_true h1 (by show _ ≤ lvSq 3; omega) (by decide) (by decide)))), by decide, by omega, ?_, hle 3 (by decide) ?_ (by decide)⟩
      · show lvSq 2 < _
        omega
      · show lvSq 2 < _
        omega
theorem lev_tail {l : List Int} {lv b : Int} {c r : List Int} {q : Int} {x y z : Bool} {t f h : Int} (hd : Ev (fun k => spec_DrawSets.f k l) (lv, b, c, r, q, x, y, z, t, f, h)) (hl1 : 1 ≤ lv) (h1 : 1 ≤ sqv c r) (h2 : sqv c r ≤ 256) (hs : sqv c r ≤ lvSq lv) (b0 : 3 ≤ b) (b1 : b ≤ 8) : Ev (fun k => laws_FnLevels.j0 k l false lv b c r) true := by
  obtain ⟨v, hv, v1, v2, v3, v4⟩ := level_ev h1 h2
  have hle := v4 lv hl1 hs
  have v5 : v ≤ 3 := by
    refine v4 3 (by decide) ?_
    show _ ≤ (256 : Int)
    exact h2
  refine Ev.step (f := fun k => (impl_LevelFor.f k c r).bind fun t267 => ((spec_DrawSets.f k l).bind fun bt268 => ((spec_DrawSets.f k l).bind fun bt286 => (if t267 ≥ 1 then (if t267 ≤ lv then ((impl_SeqOk.f k t267 bt268.2.1 bt268.2.2.1 bt268.2.2.2.1).bind fun t304 => (if t304 = true then ((impl_SeqOk.f k (wrap64 (t267 - 1)) bt286.2.1 bt286.2.2.1 bt286.2.2.2.1).bind fun t305 => (some (!t305))) else (some false))) else (some false)) else (some false))))) (fun k => ?_) (Ev.bind hv (Ev.bind hd (Ev.bind hd ?_)))
  · rw [laws_FnLevels.j0, if_neg Bool.false_ne_true]
  · dsimp only
    simp only [if_pos (show v ≥ 1 from v1), if_pos hle]
    refine Ev.bind (impl_seqok_ev v b c r) ?_
    rw [seq_true h1 v2 b0 b1, w64 (x := v - 1) (by omega) (by omega)]
    simp only [if_true]
    refine Ev.bind (impl_seqok_ev (v - 1) b c r) ?_
    rw [seq_false v3]
    exact Ev.now _
theorem FnLevels : laws_FnLevels.Pure := by
  intro l hl _ _
  refine Ev.rounds ?_
  unfold laws_FnLevels.f laws_big.f
  simp only [Option.bind_some]
  by_cases hbig : (l.length : Int) > 1048576
  · rw [decide_eq_true hbig]
    exact Ev.now _
  · rw [decide_eq_false hbig]
    simp only [Bool.false_eq_true, if_false]
    obtain ⟨lv, b, c, r, q, x, y, z, t, f, h, hd, hs, hp, ho⟩ := sets_ev hl
    obtain ⟨sc, sr, hlv, b0, b1, ok⟩ := hs
    have ok2 := ok
    unfold seqOk at ok2
    rw [Bool.and_eq_true] at ok2
    have h1 : 1 ≤ sqv c r ∧ sqv c r ≤ lvSq lv := of_decide_eq_true ok2.1
    have h256 : lvSq lv ≤ 256 := by
      rcases hlv with rfl | rfl <;> decide
    refine Ev.bind hd ?_
    dsimp only
    refine Ev.bind (impl_seqok_ev lv b c r) ?_
    rw [ok]
    simp only [if_true]
    refine Ev.bind (impl_sq_ev lv b c r) ?_
    simp only [if_neg (show ¬ sqv c r < 1 by omega)]
    refine Ev.bind (impl_sq_ev lv b c r) ?_
    simp only [impl_lv, Option.bind_some, decide_eq_false (show ¬ sqv c r > lvSq lv by omega)]
    exact lev_tail hd (by omega) h1.1 (by omega) h1.2 b0 (by omega)

end Go.Proofs.Ytjcpapjochlndaa.Pure
