/- The program's LevelFor returns what the reference's returns, for every two lists. -/
import Derived.Test.YtmidnldhfidlkaaQFnExactLevelForx3
set_option linter.unusedVariables false
set_option linter.unusedSimpArgs false
namespace Go.Proofs.Ytmidnldhfidlkaa.Pure
open Go.RowKit Go.Proofs.Ytmidnldhfidlkaa.QFnExactLevelFor Go.Proofs.YtmidnldhfidlkaaW.PrintWords Go.Proofs.YtmidnldhfidlkaaW.PrintLast Go.Proofs.YtmidnldhfidlkaaW.PrintMore

/-! ### Bytes as lists of numbers, and some plain facts -/
theorem w64 {x : Int} (h0 : -9223372036854775808 ≤ x) (h1 : x ≤ 9223372036854775807) : wrap64 x = x := by
  unfold wrap64
  omega
theorem i64_bounds {x : Int} (h : (Lit.int .i64 x).wf = true) : -9223372036854775808 ≤ x ∧ x ≤ 9223372036854775807 := by
  have e := h
  simp [Lit.wf, IntKind.min, IntKind.max, IntKind.signed, IntKind.bits] at e
  omega
/-- All numbers of the list are bytes. -/
def Bys (l : List Int) : Prop := ∀ x, x ∈ l → 0 ≤ x ∧ x < 256
theorem Bys.nil : Bys [] := fun _ h => by cases h
theorem Bys.cons {x : Int} {l : List Int} (h0 : 0 ≤ x) (h1 : x < 256) (h : Bys l) : Bys (x :: l) := fun y hy => by
  rcases List.mem_cons.1 hy with rfl | hy
  · exact ⟨h0, h1⟩
  · exact h y hy
theorem Bys.append {l m : List Int} (h : Bys l) (h' : Bys m) : Bys (l ++ m) := fun y hy => by
  rcases List.mem_append.1 hy with hy | hy
  · exact h y hy
  · exact h' y hy
theorem Bys.left {l m : List Int} (h : Bys (l ++ m)) : Bys l := fun y hy => h y (List.mem_append_left _ hy)
theorem Bys.right {l m : List Int} (h : Bys (l ++ m)) : Bys m := fun y hy => h y (List.mem_append_right _ hy)
theorem Bys.take {l : List Int} (h : Bys l) (n : Nat) : Bys (l.take n) := fun y hy => h y (List.mem_of_mem_take hy)
theorem Bys.drop {l : List Int} (h : Bys l) (n : Nat) : Bys (l.drop n) := fun y hy => h y (List.mem_of_mem_drop hy)
theorem Bys.getD {l : List Int} (h : Bys l) (i : Nat) : 0 ≤ l.getD i 0 ∧ l.getD i 0 < 256 := by
  rw [List.getD_eq_getElem?_getD]
  by_cases hi : i < l.length
  · rw [List.getElem?_eq_getElem hi]
    exact h _ (List.getElem_mem hi)
  · rw [List.getElem?_eq_none (by omega)]
    exact ⟨by decide, by decide⟩
theorem nums_of (a : ByteArray) : ∃ l, Bys l ∧ a = strOfNums l := by
  refine ⟨a.data.toList.map fun u => (u.toNat : Int), ?_, ?_⟩
  · intro x hx
    obtain ⟨u, _, rfl⟩ := List.mem_map.1 hx
    have := u.toNat_lt
    omega
  · unfold strOfNums
    rw [List.map_map]
    have e : ((fun n : Int => UInt8.ofNat n.toNat) ∘ fun u : UInt8 => (u.toNat : Int)) = id := by
      funext u
      simp
    rw [e, List.map_id]
theorem str_size (l : List Int) : (strOfNums l).size = l.length := strOfNums_size l
theorem bt_str {l : List Int} (h : Bys l) (i : Int) : bt (strOfNums l) i = l.getD i.toNat 0 := by
  unfold bt
  rw [List.getD_eq_getElem?_getD]
  split
  · rename_i hi
    have hi' : i.toNat < l.length := by rw [← str_size]; exact hi
    rw [List.getElem?_eq_getElem hi']
    have hb := h _ (List.getElem_mem hi')
    have e : (strOfNums l)[i.toNat]'hi = UInt8.ofNat (l[i.toNat]).toNat := by
      simp [strOfNums, ByteArray.getElem_eq_getElem_data]
    rw [e, UInt8.toNat_ofNat']
    simp only [Option.getD_some]
    omega
  · rename_i hi
    rw [List.getElem?_eq_none (by rw [← str_size]; omega)]
    rfl
theorem bt_get {l : List Int} (h : Bys l) {i : Int} {n : Nat} (hi : i = (n : Int)) : bt (strOfNums l) i = l.getD n 0 := by
  rw [bt_str h, hi, Int.toNat_natCast]
theorem str_append (l m : List Int) : strOfNums l ++ strOfNums m = strOfNums (l ++ m) := by
  apply ByteArray.ext
  rw [ByteArray.data_append]
  unfold strOfNums
  simp
theorem str_empty : (⟨#[]⟩ : ByteArray) = strOfNums [] := rfl
theorem str_inj {l m : List Int} (hl : Bys l) (hm : Bys m) (h : strOfNums l = strOfNums m) : l = m := by
  have hs : l.length = m.length := by rw [← str_size l, ← str_size m, h]
  apply List.ext_getElem hs
  intro i h1 h2
  have e1 := bt_get hl (i := (i : Int)) rfl
  have e2 := bt_get hm (i := (i : Int)) rfl
  rw [h, e2] at e1
  simp [List.getD_eq_getElem?_getD, h1, h2] at e1
  exact e1.symm
theorem str_extract (l : List Int) (i j : Nat) : (strOfNums l).extract i j = strOfNums ((l.take j).drop i) := by
  apply ByteArray.ext
  rw [ByteArray.data_extract]
  unfold strOfNums
  apply Array.ext'
  simp [List.extract_eq_take_drop, List.drop_take, List.map_drop, List.map_take]
theorem getD_mid (pre suf : List Int) (x : Int) : (pre ++ x :: suf).getD pre.length 0 = x := by
  rw [List.getD_eq_getElem?_getD, List.getElem?_append_right (Nat.le_refl _)]
  simp
theorem bt_mid {pre suf : List Int} {x : Int} (h : Bys (pre ++ x :: suf)) : bt (strOfNums (pre ++ x :: suf)) (pre.length : Int) = x := by
  rw [bt_get h rfl, getD_mid]
theorem rd_mid (pre suf : List Int) (x : Int) : rd (pre ++ x :: suf) (pre.length : Int) = x := by
  unfold rd
  rw [Int.toNat_natCast, getD_mid]
theorem snoc_cons (pre suf : List Int) (x : Int) : pre ++ x :: suf = (pre ++ [x]) ++ suf := by simp
theorem next_len (pre : List Int) (x : Int) (h : pre.length < 4611686018427387904) : wrap64 ((pre.length : Int) + 1) = ((pre ++ [x]).length : Int) := by
  rw [w64 (by omega) (by omega)]
  simp
theorem lt_mid (pre suf : List Int) (x : Int) : (pre.length : Int) < ((strOfNums (pre ++ x :: suf)).size : Int) := by
  rw [str_size]
  simp
  omega
theorem ge_end (pre : List Int) : ¬ ((pre.length : Int) < ((strOfNums pre).size : Int)) := by
  rw [str_size]
  omega
theorem mid_byte {pre suf : List Int} {x : Int} (h : Bys (pre ++ x :: suf)) : 0 ≤ x ∧ x < 256 := h x (by simp)
theorem exact_sb {g h : Nat → Option (ByteArray × Bool)} {v : ByteArray × Bool} (hg : Ev g v) (hh : Ev h v) :
    Ev (fun k => (g k).bind fun b1 => (h k).bind fun b2 => if b2.1.toList = b1.1.toList then (if (b2.2 != b1.2) = true then some false else some true) else some false) true := by
  refine Ev.bind hg (Ev.bind hh ?_)
  simp only [if_true, bne_self_eq_false, Bool.false_eq_true, if_false]
  exact Ev.now _
theorem exact_i {g h : Nat → Option Int} {v : Int} (hg : Ev g v) (hh : Ev h v) :
    Ev (fun k => (g k).bind fun b1 => (h k).bind fun b2 => if b2 = b1 then some true else some false) true := by
  refine Ev.bind hg (Ev.bind hh ?_)
  simp only [if_true]
  exact Ev.now _
theorem exact_s {g h : Nat → Option ByteArray} {v : ByteArray} (hg : Ev g v) (hh : Ev h v) :
    Ev (fun k => (g k).bind fun b1 => (h k).bind fun b2 => if b2.toList = b1.toList then some true else some false) true := by
  refine Ev.bind hg (Ev.bind hh ?_)
  simp only [if_true]
  exact Ev.now _
theorem exact_ib {g h : Nat → Option (Int × Bool)} {v : Int × Bool} (hg : Ev g v) (hh : Ev h v) :
    Ev (fun k => (g k).bind fun b1 => (h k).bind fun b2 => if b2.1 = b1.1 then (if (b2.2 != b1.2) = true then some false else some true) else some false) true := by
  refine Ev.bind hg (Ev.bind hh ?_)
  simp only [if_true, bne_self_eq_false, Bool.false_eq_true, if_false]
  exact Ev.now _
theorem exact_iib {g h : Nat → Option (Int × Int × Bool)} {v : Int × Int × Bool} (hg : Ev g v) (hh : Ev h v) :
    Ev (fun k => (g k).bind fun b1 => (h k).bind fun b2 => if b2.1 = b1.1 then (if b2.2.1 = b1.2.1 then (if (b2.2.2 != b1.2.2) = true then some false else some true) else some false) else some false) true := by
  refine Ev.bind hg (Ev.bind hh ?_)
  simp only [if_true, bne_self_eq_false, Bool.false_eq_true, if_false]
  exact Ev.now _
theorem exact_b {g h : Nat → Option Bool} {v : Bool} (hg : Ev g v) (hh : Ev h v) :
    Ev (fun k => (g k).bind fun b1 => (h k).bind fun b2 => if (b2 != b1) = true then some false else some true) true := by
  refine Ev.bind hg (Ev.bind hh ?_)
  simp only [bne_self_eq_false, Bool.false_eq_true, if_false]
  exact Ev.now _
theorem ev_now {α : Type} {g : Nat → Option α} {v : α} (h : ∀ k, g k = some v) : Ev g v := Ev.congr h (Ev.now v)
theorem set_mid (pre zs : List Int) (y x : Int) : (pre ++ y :: zs).set pre.length x = (pre ++ [x]) ++ zs := by
  rw [List.set_append_right _ _ (Nat.le_refl _)]
  simp
theorem toInts_loop : ∀ (suf pre : List Int), (pre ++ suf).length ≤ 1048576 → Ev (fun k => laws_toIntS.l0 k (pre ++ suf) (pre ++ List.replicate suf.length 0) (pre.length : Int)) (pre ++ suf)
  | [], pre, hl => by
    refine Ev.step (f := fun _ => some pre) (fun k => ?_) (by simp only [List.append_nil]; exact Ev.now _)
    simp only [laws_toIntS.l0, List.length_nil, List.replicate_zero, List.append_nil]
    rw [if_neg (by omega)]
  | x :: suf, pre, hl => by
    have hl' : pre.length + (suf.length + 1) ≤ 1048576 := by simpa using hl
    have ih := toInts_loop suf (pre ++ [x]) (by rw [← snoc_cons]; exact hl)
    rw [← snoc_cons] at ih
    refine Ev.step (fun k => ?_) ih
    simp only [laws_toIntS.l0]
    rw [if_pos (by simp; omega), if_pos (by omega), if_pos (by simp; omega), rd_mid, Int.toNat_natCast, next_len pre x (by omega)]
    rw [List.length_cons, List.replicate_succ, set_mid]
theorem toInts_ev {l : List Int} (hl : l.length ≤ 1048576) : Ev (fun k => laws_toIntS.f k l) l := by
  have h := toInts_loop l [] hl
  simp only [List.nil_append] at h
  refine Ev.congr (fun k => ?_) h
  unfold laws_toIntS.f
  rw [if_pos (by omega), if_pos (by omega), Int.toNat_natCast]
  rfl
theorem eqInts_loop : ∀ (suf pre : List Int), (pre ++ suf).length ≤ 1048576 → Ev (fun k => laws_eqIntS.l0 k (pre ++ suf) (pre ++ suf) (pre.length : Int)) true
  | [], pre, hl => by
    refine Ev.step (f := fun _ => some true) (fun k => ?_) (Ev.now _)
    simp only [laws_eqIntS.l0, List.append_nil]
    rw [if_neg (by omega)]
  | x :: suf, pre, hl => by
    have hl' : pre.length + (suf.length + 1) ≤ 1048576 := by simpa using hl
    have ih := eqInts_loop suf (pre ++ [x]) (by rw [← snoc_cons]; exact hl)
    rw [← snoc_cons] at ih
    refine Ev.step (fun k => ?_) ih
    simp only [laws_eqIntS.l0]
    rw [if_pos (by simp; omega), if_pos (by omega), if_pos (by simp; omega), next_len pre x (by omega)]
    exact if_pos trivial
theorem eqInts_ev {l : List Int} (hl : l.length ≤ 1048576) : Ev (fun k => laws_eqIntS.f k l l) true := by
  have h := eqInts_loop l [] hl
  simp only [List.nil_append] at h
  refine Ev.congr (fun k => ?_) h
  unfold laws_eqIntS.f
  rw [if_pos rfl]
  rfl
def inSide (x : Int) : Bool := decide (1 ≤ x ∧ x ≤ 8)
def sideOk (l : List Int) : Bool := decide (1 ≤ l.length ∧ l.length ≤ 4) && l.all inSide
def sumI : List Int → Int
  | [] => 0
  | x :: l => x + sumI l
/-- SquaresOf. -/
def sqv (c r : List Int) : Int := if sideOk c = true ∧ sideOk r = true then sumI c * sumI r else 0
def lvSq (n : Int) : Int := if n = 1 then 16 else if n = 2 then 64 else if n = 3 then 256 else 0
/-- SeqOk. -/
def seqOk (a b : Int) (c r : List Int) : Bool := decide (1 ≤ sqv c r ∧ sqv c r ≤ lvSq a) && decide (3 ≤ b ∧ b ≤ 8)
theorem sumI_bounds : ∀ l : List Int, l.all inSide = true → (l.length : Int) ≤ sumI l ∧ sumI l ≤ 8 * (l.length : Int)
  | [], _ => by simp [sumI]
  | x :: l, h => by
    rw [List.all_cons, Bool.and_eq_true] at h
    have hx : 1 ≤ x ∧ x ≤ 8 := of_decide_eq_true h.1
    have := sumI_bounds l h.2
    simp only [sumI, List.length_cons]
    omega
theorem sideOk_facts {l : List Int} (h : sideOk l = true) : 1 ≤ l.length ∧ l.length ≤ 4 ∧ l.all inSide = true ∧ 1 ≤ sumI l ∧ sumI l ≤ 32 := by
  unfold sideOk at h
  rw [Bool.and_eq_true] at h
  have h1 : 1 ≤ l.length ∧ l.length ≤ 4 := of_decide_eq_true h.1
  have := sumI_bounds l h.2
  exact ⟨h1.1, h1.2, h.2, by omega, by omega⟩
theorem sqv_bounds (c r : List Int) : 0 ≤ sqv c r ∧ sqv c r ≤ 1024 := by
  unfold sqv
  split
  · rename_i h
    obtain ⟨_, _, _, h1, h2⟩ := sideOk_facts h.1
    obtain ⟨_, _, _, h3, h4⟩ := sideOk_facts h.2
    have e1 : 0 ≤ sumI c * sumI r := Int.mul_nonneg (by omega) (by omega)
    have e2 : sumI c * sumI r ≤ 32 * 32 := Int.mul_le_mul h2 h4 (by omega) (by decide)
    exact ⟨e1, by omega⟩
  · exact ⟨by decide, by decide⟩
theorem seqOk_facts {a b : Int} {c r : List Int} (h : seqOk a b c r = true) : sideOk c = true ∧ sideOk r = true ∧ 1 ≤ a ∧ a ≤ 3 ∧ 3 ≤ b ∧ b ≤ 8 ∧ sqv c r = sumI c * sumI r := by
  unfold seqOk at h
  rw [Bool.and_eq_true] at h
  have h1 : 1 ≤ sqv c r ∧ sqv c r ≤ lvSq a := of_decide_eq_true h.1
  have h2 : 3 ≤ b ∧ b ≤ 8 := of_decide_eq_true h.2
  have h3 : 1 ≤ a ∧ a ≤ 3 := by
    have := h1.2
    unfold lvSq at this
    split at this
    · omega
    · split at this
      · omega
      · split at this <;> omega
  have h4 : sideOk c = true ∧ sideOk r = true := by
    by_cases h5 : sideOk c = true ∧ sideOk r = true
    · exact h5
    · have e : sqv c r = 0 := by unfold sqv; rw [if_neg h5]
      omega
  exact ⟨h4.1, h4.2, h3.1, h3.2, h2.1, h2.2, by unfold sqv; rw [if_pos h4]⟩
theorem in_yes {x lo hi : Int} (h0 : lo ≤ x) (h1 : x ≤ hi) : spec_l01In.f x lo hi = some true := by
  unfold spec_l01In.f
  rw [if_pos h0, decide_eq_true h1]
theorem in_no {x lo hi : Int} (h : ¬ (lo ≤ x ∧ x ≤ hi)) : spec_l01In.f x lo hi = some false := by
  unfold spec_l01In.f
  by_cases h0 : lo ≤ x
  · rw [if_pos h0, decide_eq_false (fun h1 => h ⟨h0, h1⟩)]
  · rw [if_neg h0]
theorem in_any (x lo hi : Int) : spec_l01In.f x lo hi = some (decide (lo ≤ x ∧ x ≤ hi)) := by
  by_cases h : lo ≤ x ∧ x ≤ hi
  · rw [in_yes h.1 h.2, decide_eq_true h]
  · rw [in_no h, decide_eq_false h]
theorem spec_sum_loop : ∀ (suf pre : List Int) (acc : Int), (pre ++ suf).length ≤ 4 → 0 ≤ acc → acc ≤ 8 * (pre.length : Int) →
    Ev (fun k => spec_l05Sum.l0 k (pre ++ suf) acc (pre.length : Int)) (if suf.all inSide = true then acc + sumI suf else 0)
  | [], pre, acc, hl, h0, h1 => by
    refine Ev.step (f := fun _ => some acc) (fun k => ?_) (by simp only [List.all_nil, if_true, sumI, Int.add_zero]; exact Ev.now _)
    simp only [spec_l05Sum.l0, List.append_nil]
    rw [if_neg (by omega)]
  | x :: suf, pre, acc, hl, h0, h1 => by
    have hl' : pre.length + (suf.length + 1) ≤ 4 := by simpa using hl
    by_cases hx : 1 ≤ x ∧ x ≤ 8
    · have ih := spec_sum_loop suf (pre ++ [x]) (acc + x) (by rw [← snoc_cons]; exact hl) (by omega) (by simp; omega)
      rw [← snoc_cons] at ih
      have e : (if (x :: suf).all inSide = true then acc + sumI (x :: suf) else 0) = (if suf.all inSide = true then acc + x + sumI suf else 0) := by
        rw [List.all_cons, show inSide x = true from decide_eq_true hx, Bool.true_and, sumI, Int.add_assoc]
      rw [e]
      refine Ev.step (fun k => ?_) ih
      simp only [spec_l05Sum.l0]
      rw [if_pos (by simp; omega), if_pos (by omega), rd_mid, in_yes hx.1 hx.2]
      simp only [Option.bind_some, if_true]
      rw [w64 (x := acc + x) (by omega) (by omega), next_len pre x (by omega)]
    · have e : (if (x :: suf).all inSide = true then acc + sumI (x :: suf) else 0) = 0 := by
        rw [List.all_cons, show inSide x = false from decide_eq_false hx, Bool.false_and]
        rfl
      rw [e]
      refine Ev.step (f := fun _ => some 0) (fun k => ?_) (Ev.now _)
      simp only [spec_l05Sum.l0]
      rw [if_pos (by simp; omega), if_pos (by omega), rd_mid, in_no hx]
      rfl
theorem spec_sum_ev (l : List Int) : Ev (fun k => spec_l05Sum.f k l) (if sideOk l = true then sumI l else 0) := by
  unfold spec_l05Sum.f sideOk
  by_cases h : 1 ≤ l.length ∧ l.length ≤ 4
  · simp only [if_neg (show ¬ (l.length : Int) < 1 by omega), decide_eq_true h, Bool.true_and, decide_eq_false (show ¬ (l.length : Int) > 4 by omega)]
    have := spec_sum_loop l [] 0 h.2 (by decide) (by decide)
    rw [Int.zero_add] at this
    refine Ev.step (fun k => ?_) this
    simp only [spec_l05Sum.j0, Bool.false_eq_true, if_false]
    rfl
  · have no : Ev (fun k => spec_l05Sum.j0 k l true) 0 := Ev.step (f := fun _ => some 0) (fun k => by simp only [spec_l05Sum.j0, if_true]) (Ev.now _)
    rw [decide_eq_false h, Bool.false_and]
    by_cases h1 : (l.length : Int) < 1
    · simp only [if_pos h1, Bool.false_eq_true, if_false]
      exact no
    · simp only [if_neg h1, Bool.false_eq_true, if_false, decide_eq_true (show (l.length : Int) > 4 by omega)]
      exact no
theorem spec_sq_ev (a b : Int) (c r : List Int) : Ev (fun k => spec_SquaresOf.f k a b c r) (sqv c r) := by
  unfold spec_SquaresOf.f
  refine Ev.bind (spec_sum_ev c) (Ev.bind (spec_sum_ev r) ?_)
  have hb := sqv_bounds c r
  have e : (if sideOk c = true then sumI c else 0) * (if sideOk r = true then sumI r else 0) = sqv c r := by
    unfold sqv
    cases sideOk c <;> cases sideOk r <;> simp
  rw [e, w64 (by omega) (by omega)]
  exact Ev.now _
theorem spec_lv (n : Int) : spec_LevelSquares.f n = some (lvSq n) := by
  unfold spec_LevelSquares.f lvSq
  split
  · rfl
  · split
    · rfl
    · split <;> rfl
theorem spec_seqok_ev (a b : Int) (c r : List Int) : Ev (fun k => spec_SeqOk.f k a b c r) (seqOk a b c r) := by
  unfold spec_SeqOk.f seqOk
  refine Ev.bind (spec_sq_ev a b c r) ?_
  simp only [spec_lv, Option.bind_some, in_any]
  by_cases h : 1 ≤ sqv c r ∧ sqv c r ≤ lvSq a
  · simp only [decide_eq_true h, if_true, Bool.true_and]
    exact Ev.now _
  · simp only [decide_eq_false h, Bool.false_eq_true, if_false, Bool.false_and]
    exact Ev.now _
theorem within_yes {x lo hi : Int} (h0 : lo ≤ x) (h1 : x ≤ hi) : impl_within.f x lo hi = some true := by
  unfold impl_within.f
  rw [if_pos h0, decide_eq_true h1]
theorem within_no {x lo hi : Int} (h : ¬ (lo ≤ x ∧ x ≤ hi)) : impl_within.f x lo hi = some false := by
  unfold impl_within.f
  by_cases h0 : lo ≤ x
  · rw [if_pos h0, decide_eq_false (fun h1 => h ⟨h0, h1⟩)]
  · rw [if_neg h0]
theorem within_any (x lo hi : Int) : impl_within.f x lo hi = some (decide (lo ≤ x ∧ x ≤ hi)) := by
  by_cases h : lo ≤ x ∧ x ≤ hi
  · rw [within_yes h.1 h.2, decide_eq_true h]
  · rw [within_no h, decide_eq_false h]
theorem sumOf_loop : ∀ (suf pre : List Int) (acc : Int), (pre ++ suf).length ≤ 4 → suf.all inSide = true → 0 ≤ acc → acc ≤ 8 * (pre.length : Int) →
    Ev (fun k => impl_sumOf.l0 k acc (pre ++ suf) ((pre ++ suf).length : Int) (pre.length : Int)) (acc + sumI suf)
  | [], pre, acc, hl, _, h0, h1 => by
    refine Ev.step (f := fun _ => some acc) (fun k => ?_) (by simp only [sumI, Int.add_zero]; exact Ev.now _)
    simp only [impl_sumOf.l0, List.append_nil]
    rw [if_neg (by omega)]
  | x :: suf, pre, acc, hl, ha, h0, h1 => by
    have hl' : pre.length + (suf.length + 1) ≤ 4 := by simpa using hl
    rw [List.all_cons, Bool.and_eq_true] at ha
    have hx : 1 ≤ x ∧ x ≤ 8 := of_decide_eq_true ha.1
    have ih := sumOf_loop suf (pre ++ [x]) (acc + x) (by rw [← snoc_cons]; exact hl) ha.2 (by omega) (by simp; omega)
    rw [← snoc_cons] at ih
    rw [sumI, ← Int.add_assoc]
    refine Ev.step (fun k => ?_) ih
    simp only [impl_sumOf.l0]
    rw [if_pos (by simp; omega), if_pos (by omega), if_pos (by simp; omega), rd_mid, w64 (x := acc + x) (by omega) (by omega), next_len pre x (by omega)]
theorem sumOf_ev {l : List Int} (h : sideOk l = true) : Ev (fun k => impl_sumOf.f k l) (sumI l) := by
  obtain ⟨_, h1, h2, _⟩ := sideOk_facts h
  have := sumOf_loop l [] 0 h1 h2 (by decide) (by decide)
  rw [Int.zero_add] at this
  exact this
theorem sq_inner {c r : List Int} {a b : Int} {j : Int} {R : Int} : ∀ (suf pre : List Int), (pre ++ suf).length ≤ 4 → (suf.all inSide = true → Ev (fun k => impl_SquaresOf.l0 k [c, r] 2 (wrap64 (j + 1)) a b c r) R) →
    Ev (fun k => impl_SquaresOf.l1 k [c, r] 2 j (pre ++ suf) ((pre ++ suf).length : Int) (pre.length : Int) a b c r) (if suf.all inSide = true then R else 0)
  | [], pre, hl, h => by
    have h' := h rfl
    simp only [List.all_nil, if_true]
    refine Ev.step (fun k => ?_) h'
    simp only [impl_SquaresOf.l1, List.append_nil]
    rw [if_neg (by omega)]
  | x :: suf, pre, hl, h => by
    have hl' : pre.length + (suf.length + 1) ≤ 4 := by simpa using hl
    by_cases hx : 1 ≤ x ∧ x ≤ 8
    · have hxs : inSide x = true := decide_eq_true hx
      have ih := sq_inner suf (pre ++ [x]) (by rw [← snoc_cons]; exact hl) (fun hs => h (by rw [List.all_cons, hxs, hs]; rfl))
      rw [← snoc_cons] at ih
      rw [List.all_cons, hxs, Bool.true_and]
      refine Ev.step (fun k => ?_) ih
      simp only [impl_SquaresOf.l1]
      rw [if_pos (by simp; omega), if_pos (by omega), if_pos (by simp; omega), rd_mid, within_yes hx.1 hx.2]
      simp only [Option.bind_some, if_true]
      rw [next_len pre x (by omega)]
    · rw [List.all_cons, show inSide x = false from decide_eq_false hx, Bool.false_and]
      simp only [Bool.false_eq_true, if_false]
      refine Ev.step (f := fun _ => some 0) (fun k => ?_) (Ev.now _)
      simp only [impl_SquaresOf.l1]
      rw [if_pos (by simp; omega), if_pos (by omega), if_pos (by simp; omega), rd_mid, within_no hx]
      rfl
theorem sq_round {c r t : List Int} {a b : Int} {j : Int} {R : Int} (h0 : 0 ≤ j) (h2 : j < 2) (ht : rd_L1 [c, r] j = t) (h : sideOk t = true → Ev (fun k => impl_SquaresOf.l0 k [c, r] 2 (wrap64 (j + 1)) a b c r) R) :
    Ev (fun k => impl_SquaresOf.l0 k [c, r] 2 j a b c r) (if sideOk t = true then R else 0) := by
  by_cases hlen : 1 ≤ t.length ∧ t.length ≤ 4
  · have e : (if sideOk t = true then R else 0) = (if t.all inSide = true then R else 0) := by
      unfold sideOk
      rw [decide_eq_true hlen, Bool.true_and]
    rw [e]
    have hi := sq_inner (c := c) (r := r) (a := a) (b := b) (j := j) (R := R) t [] hlen.2 (fun hs => h (by unfold sideOk; rw [decide_eq_true hlen, hs]; rfl))
    refine Ev.step (fun k => ?_) hi
    simp only [impl_SquaresOf.l0]
    rw [if_pos h2, if_pos h0, if_pos (by simpa using h2), ht, within_yes (by omega) (by omega)]
    rfl
  · have e : (if sideOk t = true then R else 0) = 0 := by
      unfold sideOk
      rw [decide_eq_false hlen, Bool.false_and]
      rfl
    rw [e]
    refine Ev.step (f := fun _ => some 0) (fun k => ?_) (Ev.now _)
    simp only [impl_SquaresOf.l0]
    rw [if_pos h2, if_pos h0, if_pos (by simpa using h2), ht, within_no (by omega)]
    rfl
theorem impl_sq_ev (a b : Int) (c r : List Int) : Ev (fun k => impl_SquaresOf.f k a b c r) (sqv c r) := by
  have e : sqv c r = if sideOk c = true then (if sideOk r = true then sumI c * sumI r else 0) else 0 := by
    unfold sqv
    cases sideOk c <;> cases sideOk r <;> simp
  have hb := sqv_bounds c r
  unfold impl_SquaresOf.f
  simp only [Option.bind_some]
  rw [e]
  refine sq_round (by decide) (by decide) rfl (fun h1 => ?_)
  rw [show wrap64 (0 + 1) = 1 from w64 (by decide) (by decide)]
  refine sq_round (by decide) (by decide) rfl (fun h2 => ?_)
  rw [show wrap64 (1 + 1) = 2 from w64 (by decide) (by decide)]
  rw [e, if_pos h1, if_pos h2] at hb
  refine Ev.step (f := fun k => (impl_sumOf.f k c).bind fun x => (impl_sumOf.f k r).bind fun y => some (wrap64 (x * y))) (fun k => ?_) (Ev.bind (sumOf_ev h1) (Ev.bind (sumOf_ev h2) ?_))
  · simp only [impl_SquaresOf.l0]
    rw [if_neg (by decide)]
  · rw [w64 (by omega) (by omega)]
    exact Ev.now _
theorem impl_lv (n : Int) : impl_LevelSquares.f n = some (lvSq n) := by
  by_cases h : 1 ≤ n ∧ n ≤ 3
  · obtain rfl | rfl | rfl : n = 1 ∨ n = 2 ∨ n = 3 := by omega
    all_goals decide +kernel
  · unfold impl_LevelSquares.f lvSq
    rw [within_no h, if_neg (by omega), if_neg (by omega), if_neg (by omega)]
    rfl
theorem impl_seqok_ev (a b : Int) (c r : List Int) : Ev (fun k => impl_SeqOk.f k a b c r) (seqOk a b c r) := by
  unfold impl_SeqOk.f seqOk
  refine Ev.bind (impl_sq_ev a b c r) ?_
  simp only [impl_lv, Option.bind_some, within_any]
  by_cases h : 1 ≤ sqv c r ∧ sqv c r ≤ lvSq a
  · simp only [decide_eq_true h, if_true, Bool.true_and]
    exact Ev.now _
  · simp only [decide_eq_false h, Bool.false_eq_true, if_false, Bool.false_and]
    exact Ev.now _
theorem levels (c r : List Int) : ∃ v, Ev (fun k => spec_LevelFor.f k c r) v ∧ Ev (fun k => impl_LevelFor.f k c r) v := by
  have four : Ev (fun k => spec_LevelFor.l0 k c r 4) 0 ∧ Ev (fun k => impl_LevelFor.l0 k c r 4) 0 := by
    constructor
    · exact Ev.step (f := fun _ => some 0) (fun k => by simp only [spec_LevelFor.l0]; rw [if_neg (by decide)]) (Ev.now _)
    · exact Ev.step (f := fun _ => some 0) (fun k => by simp only [impl_LevelFor.l0]; rw [if_neg (by decide)]) (Ev.now _)
  have step : ∀ n : Int, n ≤ 3 → (∃ v, Ev (fun k => spec_LevelFor.l0 k c r (wrap64 (n + 1))) v ∧ Ev (fun k => impl_LevelFor.l0 k c r (wrap64 (n + 1))) v) → ∃ v, Ev (fun k => spec_LevelFor.l0 k c r n) v ∧ Ev (fun k => impl_LevelFor.l0 k c r n) v := by
    intro n hn hv
    obtain ⟨v, hs, hi⟩ := hv
    refine ⟨if seqOk n 3 c r = true then n else v, ?_, ?_⟩
    · refine Ev.step (fun k => ?_) (Ev.bind (spec_seqok_ev n 3 c r) (f := fun k t => if t = true then (some n) else spec_LevelFor.l0 k c r (wrap64 (n + 1))) ?_)
      · simp only [spec_LevelFor.l0]
        rw [if_pos hn]
      · by_cases h : seqOk n 3 c r = true
        · simp only [if_pos h]
          exact Ev.now _
        · simp only [if_neg h]
          exact hs
    · refine Ev.step (fun k => ?_) (Ev.bind (impl_seqok_ev n 3 c r) (f := fun k t => if t = true then (some n) else impl_LevelFor.l0 k c r (wrap64 (n + 1))) ?_)
      · simp only [impl_LevelFor.l0]
        rw [if_pos hn]
      · by_cases h : seqOk n 3 c r = true
        · simp only [if_pos h]
          exact Ev.now _
        · simp only [if_neg h]
          exact hi
  refine step 1 (by decide) ?_
  rw [show wrap64 (1 + 1) = 2 from w64 (by decide) (by decide)]
  refine step 2 (by decide) ?_
  rw [show wrap64 (2 + 1) = 3 from w64 (by decide) (by decide)]
  refine step 3 (by decide) ?_
  rw [show wrap64 (3 + 1) = 4 from w64 (by decide) (by decide)]
  exact ⟨0, four⟩
theorem FnExactLevelFor : laws_FnExactLevelFor.Pure := by
  intro c r _ _ _ _ _ _
  refine Ev.rounds ?_
  unfold laws_FnExactLevelFor.f
  by_cases h1 : (c.length : Int) > 1048576
  · simp only [if_pos h1]
    exact Ev.now _
  · by_cases h2 : (r.length : Int) > 1048576
    · simp only [if_neg h1, if_pos h2]
      exact Ev.now _
    · have g1 : c.length ≤ 1048576 := by omega
      have g2 : r.length ≤ 1048576 := by omega
      obtain ⟨v, hs, hi⟩ := levels c r
      simp only [if_neg h1, if_neg h2]
      refine Ev.bind (toInts_ev g1) (Ev.bind (toInts_ev g2) (Ev.bind hs (Ev.bind (toInts_ev g1) (Ev.bind (toInts_ev g2) (Ev.bind hi ?_)))))
      simp only [if_true]
      refine Ev.bind (toInts_ev g1) (Ev.bind (eqInts_ev g1) ?_)
      simp only [if_true]
      refine Ev.bind (toInts_ev g2) (Ev.bind (eqInts_ev g2) ?_)
      simp only [if_true]
      exact Ev.now _

end Go.Proofs.Ytmidnldhfidlkaa.Pure
