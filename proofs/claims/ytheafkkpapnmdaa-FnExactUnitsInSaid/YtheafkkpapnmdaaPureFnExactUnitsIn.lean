/- The program's UnitsIn returns what the reference's returns, for every text, and its list is its own. -/
import Derived.Test.YtheafkkpapnmdaaQFnExactUnitsInx5
set_option linter.unusedVariables false
set_option linter.unusedSimpArgs false
namespace Go.Proofs.Ytheafkkpapnmdaa.Pure
open Go.RowKit Go.Proofs.Ytheafkkpapnmdaa.QFnExactUnitsIn Go.Proofs.YtheafkkpapnmdaaW.PrintWords Go.Proofs.YtheafkkpapnmdaaW.PrintLast Go.Proofs.YtheafkkpapnmdaaW.PrintMore

/-! ### Bytes as lists of numbers, and some plain facts -/
theorem w64 {x : Int} (h0 : -9223372036854775808 ≤ x) (h1 : x ≤ 9223372036854775807) : wrap64 x = x := by
  unfold wrap64
  omega
theorem i64_bounds {x : Int} (h : (Lit.int .i64 x).wf = true) : -9223372036854775808 ≤ x ∧ x ≤ 9223372036854775807 := by
  have e := h
  simp [Lit.wf, IntKind.min, IntKind.max, IntKind.signed, IntKind.bits] at e
  omega
/-- All numbers of the list are bytes. -/
def Bys (l : List Int) : Prop := ∀ x, x ∈ l → 0 ≤ x ∧ x < 256
theorem Bys.nil : Bys [] := fun _ h => by cases h
theorem Bys.cons {x : Int} {l : List Int} (h0 : 0 ≤ x) (h1 : x < 256) (h : Bys l) : Bys (x :: l) := fun y hy => by
  rcases List.mem_cons.1 hy with rfl | hy
  · exact ⟨h0, h1⟩
  · exact h y hy
theorem Bys.append {l m : List Int} (h : Bys l) (h' : Bys m) : Bys (l ++ m) := fun y hy => by
  rcases List.mem_append.1 hy with hy | hy
  · exact h y hy
  · exact h' y hy
theorem Bys.left {l m : List Int} (h : Bys (l ++ m)) : Bys l := fun y hy => h y (List.mem_append_left _ hy)
theorem Bys.right {l m : List Int} (h : Bys (l ++ m)) : Bys m := fun y hy => h y (List.mem_append_right _ hy)
theorem Bys.take {l : List Int} (h : Bys l) (n : Nat) : Bys (l.take n) := fun y hy => h y (List.mem_of_mem_take hy)
theorem Bys.drop {l : List Int} (h : Bys l) (n : Nat) : Bys (l.drop n) := fun y hy => h y (List.mem_of_mem_drop hy)
theorem Bys.getD {l : List Int} (h : Bys l) (i : Nat) : 0 ≤ l.getD i 0 ∧ l.getD i 0 < 256 := by
  rw [List.getD_eq_getElem?_getD]
  by_cases hi : i < l.length
  · rw [List.getElem?_eq_getElem hi]
    exact h _ (List.getElem_mem hi)
  · rw [List.getElem?_eq_none (by omega)]
    exact ⟨by decide, by decide⟩
theorem nums_of (a : ByteArray) : ∃ l, Bys l ∧ a = strOfNums l := by
  refine ⟨a.data.toList.map fun u => (u.toNat : Int), ?_, ?_⟩
  · intro x hx
    obtain ⟨u, _, rfl⟩ := List.mem_map.1 hx
    have := u.toNat_lt
    omega
  · unfold strOfNums
    rw [List.map_map]
    have e : ((fun n : Int => UInt8.ofNat n.toNat) ∘ fun u : UInt8 => (u.toNat : Int)) = id := by
      funext u
      simp
    rw [e, List.map_id]
theorem str_size (l : List Int) : (strOfNums l).size = l.length := strOfNums_size l
theorem bt_str {l : List Int} (h : Bys l) (i : Int) : bt (strOfNums l) i = l.getD i.toNat 0 := by
  unfold bt
  rw [List.getD_eq_getElem?_getD]
  split
  · rename_i hi
    have hi' : i.toNat < l.length := by rw [← str_size]; exact hi
    rw [List.getElem?_eq_getElem hi']
    have hb := h _ (List.getElem_mem hi')
    have e : (strOfNums l)[i.toNat]'hi = UInt8.ofNat (l[i.toNat]).toNat := by
      simp [strOfNums, ByteArray.getElem_eq_getElem_data]
    rw [e, UInt8.toNat_ofNat']
    simp only [Option.getD_some]
    omega
  · rename_i hi
    rw [List.getElem?_eq_none (by rw [← str_size]; omega)]
    rfl
theorem bt_get {l : List Int} (h : Bys l) {i : Int} {n : Nat} (hi : i = (n : Int)) : bt (strOfNums l) i = l.getD n 0 := by
  rw [bt_str h, hi, Int.toNat_natCast]
theorem str_append (l m : List Int) : strOfNums l ++ strOfNums m = strOfNums (l ++ m) := by
  apply ByteArray.ext
  rw [ByteArray.data_append]
  unfold strOfNums
  simp
theorem str_empty : (⟨#[]⟩ : ByteArray) = strOfNums [] := rfl
theorem str_inj {l m : List Int} (hl : Bys l) (hm : Bys m) (h : strOfNums l = strOfNums m) : l = m := by
  have hs : l.length = m.length := by rw [← str_size l, ← str_size m, h]
  apply List.ext_getElem hs
  intro i h1 h2
  have e1 := bt_get hl (i := (i : Int)) rfl
  have e2 := bt_get hm (i := (i : Int)) rfl
  rw [h, e2] at e1
  simp [List.getD_eq_getElem?_getD, h1, h2] at e1
  exact e1.symm
theorem str_extract (l : List Int) (i j : Nat) : (strOfNums l).extract i j = strOfNums ((l.take j).drop i) := by
  apply ByteArray.ext
  rw [ByteArray.data_extract]
  unfold strOfNums
  apply Array.ext'
  simp [List.extract_eq_take_drop, List.drop_take, List.map_drop, List.map_take]
theorem getD_mid (pre suf : List Int) (x : Int) : (pre ++ x :: suf).getD pre.length 0 = x := by
  rw [List.getD_eq_getElem?_getD, List.getElem?_append_right (Nat.le_refl _)]
  simp
theorem bt_mid {pre suf : List Int} {x : Int} (h : Bys (pre ++ x :: suf)) : bt (strOfNums (pre ++ x :: suf)) (pre.length : Int) = x := by
  rw [bt_get h rfl, getD_mid]
theorem rd_mid (pre suf : List Int) (x : Int) : rd (pre ++ x :: suf) (pre.length : Int) = x := by
  unfold rd
  rw [Int.toNat_natCast, getD_mid]
theorem snoc_cons (pre suf : List Int) (x : Int) : pre ++ x :: suf = (pre ++ [x]) ++ suf := by simp
theorem next_len (pre : List Int) (x : Int) (h : pre.length < 4611686018427387904) : wrap64 ((pre.length : Int) + 1) = ((pre ++ [x]).length : Int) := by
  rw [w64 (by omega) (by omega)]
  simp
theorem lt_mid (pre suf : List Int) (x : Int) : (pre.length : Int) < ((strOfNums (pre ++ x :: suf)).size : Int) := by
  rw [str_size]
  simp
  omega
theorem ge_end (pre : List Int) : ¬ ((pre.length : Int) < ((strOfNums pre).size : Int)) := by
  rw [str_size]
  omega
theorem mid_byte {pre suf : List Int} {x : Int} (h : Bys (pre ++ x :: suf)) : 0 ≤ x ∧ x < 256 := h x (by simp)
/-- The decimal figures of a number above 0. -/
def decd (n : Nat) : List Int := if h : n = 0 then [] else decd (n / 10) ++ [48 + ((n % 10 : Nat) : Int)]
termination_by n
decreasing_by omega
theorem decd_zero : decd 0 = [] := by rw [decd]; simp
theorem decd_pos (n : Nat) (h : n ≠ 0) : decd n = decd (n / 10) ++ [48 + ((n % 10 : Nat) : Int)] := by rw [decd]; simp [h]
/-- Decimal. -/
def deci (n : Int) : List Int := if n = 0 then [48] else (if n < 0 then [45] else []) ++ decd n.natAbs
theorem abs_facts (x : Int) : ((Int.tmod x 10).natAbs = x.natAbs % 10) ∧ ((Int.tdiv x 10).natAbs = x.natAbs / 10) := ⟨Int.natAbs_tmod _ _, Int.natAbs_tdiv _ _⟩
theorem exact_sb {g h : Nat → Option (ByteArray × Bool)} {v : ByteArray × Bool} (hg : Ev g v) (hh : Ev h v) :
    Ev (fun k => (g k).bind fun b1 => (h k).bind fun b2 => if b2.1.toList = b1.1.toList then (if (b2.2 != b1.2) = true then some false else some true) else some false) true := by
  refine Ev.bind hg (Ev.bind hh ?_)
  simp only [if_true, bne_self_eq_false, Bool.false_eq_true, if_false]
  exact Ev.now _
theorem exact_i {g h : Nat → Option Int} {v : Int} (hg : Ev g v) (hh : Ev h v) :
    Ev (fun k => (g k).bind fun b1 => (h k).bind fun b2 => if b2 = b1 then some true else some false) true := by
  refine Ev.bind hg (Ev.bind hh ?_)
  simp only [if_true]
  exact Ev.now _
theorem exact_s {g h : Nat → Option ByteArray} {v : ByteArray} (hg : Ev g v) (hh : Ev h v) :
    Ev (fun k => (g k).bind fun b1 => (h k).bind fun b2 => if b2.toList = b1.toList then some true else some false) true := by
  refine Ev.bind hg (Ev.bind hh ?_)
  simp only [if_true]
  exact Ev.now _
theorem exact_ib {g h : Nat → Option (Int × Bool)} {v : Int × Bool} (hg : Ev g v) (hh : Ev h v) :
    Ev (fun k => (g k).bind fun b1 => (h k).bind fun b2 => if b2.1 = b1.1 then (if (b2.2 != b1.2) = true then some false else some true) else some false) true := by
  refine Ev.bind hg (Ev.bind hh ?_)
  simp only [if_true, bne_self_eq_false, Bool.false_eq_true, if_false]
  exact Ev.now _
theorem exact_iib {g h : Nat → Option (Int × Int × Bool)} {v : Int × Int × Bool} (hg : Ev g v) (hh : Ev h v) :
    Ev (fun k => (g k).bind fun b1 => (h k).bind fun b2 => if b2.1 = b1.1 then (if b2.2.1 = b1.2.1 then (if (b2.2.2 != b1.2.2) = true then some false else some true) else some false) else some false) true := by
  refine Ev.bind hg (Ev.bind hh ?_)
  simp only [if_true, bne_self_eq_false, Bool.false_eq_true, if_false]
  exact Ev.now _
theorem exact_b {g h : Nat → Option Bool} {v : Bool} (hg : Ev g v) (hh : Ev h v) :
    Ev (fun k => (g k).bind fun b1 => (h k).bind fun b2 => if (b2 != b1) = true then some false else some true) true := by
  refine Ev.bind hg (Ev.bind hh ?_)
  simp only [bne_self_eq_false, Bool.false_eq_true, if_false]
  exact Ev.now _
theorem ev_now {α : Type} {g : Nat → Option α} {v : α} (h : ∀ k, g k = some v) : Ev g v := Ev.congr h (Ev.now v)
/-- The text of a mark. -/
def mtext (n : Nat) : ByteArray := strOfNums (109 :: (if n = 0 then [48] else decd n))
theorem mark_loop : ∀ (j n : Nat) (acc : List Int), n < 10 ^ j → j ≤ 18 → acc.length + j ≤ 1000 → Ev (fun k => laws_markText.l0 k (n : Int) (strOfNums acc)) (strOfNums (109 :: (decd n ++ acc)))
  | j, n, acc, hj, h18, ha => by
    by_cases h : n = 0
    · subst h
      rw [decd_zero, List.nil_append]
      refine Ev.step (f := fun _ => some (strOfNums (109 :: acc))) (fun k => ?_) (Ev.now _)
      simp only [laws_markText.l0, str_size]
      rw [if_neg (by omega), if_pos (by omega), show (⟨#[109]⟩ : ByteArray) = strOfNums [109] from rfl, str_append]
      rfl
    · obtain ⟨j, rfl⟩ : ∃ i, j = i + 1 := by
        cases j with
        | zero => simp at hj; omega
        | succ i => exact ⟨i, rfl⟩
      have hp : (10 : Nat) ^ (j + 1) ≤ 10 ^ 18 := Nat.pow_le_pow_right (by decide) h18
      have ih := mark_loop j (n / 10) ((48 + ((n % 10 : Nat) : Int)) :: acc) (by rw [Nat.pow_succ] at hj; omega) (by omega) (by simp only [List.length_cons]; omega)
      rw [decd_pos n h, List.append_assoc, List.singleton_append]
      refine Ev.step (fun k => ?_) ih
      simp only [laws_markText.l0, Option.bind_some, str_size]
      rw [if_pos (by omega), Int.tmod_eq_emod_of_nonneg (by omega), Int.tdiv_eq_ediv_of_nonneg (by omega), w64 (x := 48 + (n : Int) % 10) (by omega) (by omega), Int.emod_eq_of_lt (a := 48 + (n : Int) % 10) (by omega) (by omega), w64 (by omega) (by omega), if_pos (by simp only [List.length_singleton]; omega), str_append, show (n : Int) / 10 = ((n / 10 : Nat) : Int) by omega, show (n : Int) % 10 = ((n % 10 : Nat) : Int) by omega]
      rfl
theorem mark_ev {n : Nat} (h : n < 10 ^ 18) : Ev (fun k => laws_markText.f k (n : Int)) (mtext n) := by
  unfold laws_markText.f mtext
  by_cases h0 : n = 0
  · subst h0
    rw [if_pos rfl]
    exact ev_now fun k => by rw [if_pos (by decide)]; rfl
  · have := mark_loop 18 n [] h (Nat.le_refl _) (by decide)
    rw [List.append_nil] at this
    simp only [if_neg (show ¬ ((n : Int) ≤ 0) by omega), if_neg h0]
    exact this
/-- The marks from n on. -/
def smarks : Nat → Nat → List ByteArray
  | _, 0 => []
  | n, d + 1 => mtext n :: smarks (n + 1) d
theorem smarks_len : ∀ (d n : Nat), (smarks n d).length = d
  | 0, _ => rfl
  | d + 1, n => by simp only [smarks, List.length_cons, smarks_len d (n + 1)]
theorem sset_mid (pre zs : List ByteArray) (y x : ByteArray) : (pre ++ y :: zs).set pre.length x = (pre ++ [x]) ++ zs := by
  rw [List.set_append_right _ _ (Nat.le_refl _), Nat.sub_self, List.set_cons_zero, List.append_assoc]
  rfl
theorem snext_len (pre : List ByteArray) (x : ByteArray) (h : pre.length < 4611686018427387904) : wrap64 ((pre.length : Int) + 1) = ((pre ++ [x]).length : Int) := by
  rw [w64 (by omega) (by omega)]
  simp
theorem ssnoc (pre suf : List ByteArray) (x : ByteArray) : pre ++ x :: suf = (pre ++ [x]) ++ suf := by simp
theorem srd_mid (pre suf : List ByteArray) (x : ByteArray) : rdOf ByteArray.empty (pre ++ x :: suf) (pre.length : Int) = x := by
  unfold rdOf
  rw [Int.toNat_natCast, List.getD_eq_getElem?_getD, List.getElem?_append_right (Nat.le_refl _), Nat.sub_self]
  rfl
theorem markStrings_loop : ∀ (suf pre : List ByteArray) (n : Nat), (pre ++ suf).length ≤ 1048576 → n + suf.length ≤ 4000000 → Ev (fun k => laws_markStringS.l0 k (pre ++ suf) (n : Int) (pre.length : Int)) (((n + suf.length : Nat) : Int), pre ++ smarks n suf.length)
  | [], pre, n, hl, _ => by
    refine Ev.step (f := fun _ => some ((n : Int), pre)) (fun k => ?_) (by simp only [smarks, List.append_nil, List.length_nil, Nat.add_zero]; exact Ev.now _)
    simp only [laws_markStringS.l0, List.append_nil]
    rw [if_neg (by omega)]
  | x :: suf, pre, n, hl, hn => by
    have hll : (pre ++ x :: suf).length = pre.length + (suf.length + 1) := by simp
    have hn' : n + (suf.length + 1) ≤ 4000000 := by simpa using hn
    have ih := markStrings_loop suf (pre ++ [mtext n]) (n + 1) (by simp; omega) (by omega)
    refine Ev.step (f := fun k => (laws_markText.f k (n : Int)).bind fun t => laws_markStringS.l0 k ((pre ++ x :: suf).set pre.length t) ((n + 1 : Nat) : Int) ((pre ++ [mtext n]).length : Int)) (fun k => ?_) (Ev.bind (mark_ev (by omega)) ?_)
    · simp only [laws_markStringS.l0]
      rw [if_pos (by omega), w64 (x := (n : Int) + 1) (by omega) (by omega), snext_len pre (mtext n) (by omega)]
      simp only [if_pos (show (0 : Int) ≤ (pre.length : Int) by omega), Int.toNat_natCast]
      rfl
    · rw [sset_mid, show n + (x :: suf).length = n + 1 + suf.length by simp only [List.length_cons]; omega, show pre ++ smarks n (x :: suf).length = (pre ++ [mtext n]) ++ smarks (n + 1) suf.length by simp [smarks]]
      exact ih
theorem markStrings_ev {l : List ByteArray} {n : Nat} (hl : l.length ≤ 1048576) (hn : n + l.length ≤ 4000000) : Ev (fun k => laws_markStringS.f k l (n : Int)) (((n + l.length : Nat) : Int), smarks n l.length) := by
  unfold laws_markStringS.f
  exact markStrings_loop l [] n hl hn
theorem heldStrings_loop : ∀ (d : Nat) (pre : List ByteArray) (n : Nat), pre.length + d ≤ 1048576 → n + d ≤ 4000000 → Ev (fun k => laws_heldStringS.l0 k (pre ++ smarks n d) (n : Int) (pre.length : Int)) ((n + d : Nat) : Int)
  | 0, pre, n, hl, _ => by
    refine Ev.step (f := fun _ => some (n : Int)) (fun k => ?_) (Ev.now _)
    simp only [laws_heldStringS.l0, smarks, List.append_nil]
    rw [if_neg (by omega)]
  | d + 1, pre, n, hl, hn => by
    have ih := heldStrings_loop d (pre ++ [mtext n]) (n + 1) (by simp; omega) (by omega)
    rw [← ssnoc] at ih
    have hm := smarks_len d (n + 1)
    show Ev (fun k => laws_heldStringS.l0 k (pre ++ mtext n :: smarks (n + 1) d) (n : Int) (pre.length : Int)) ((n + (d + 1) : Nat) : Int)
    refine Ev.step (f := fun k => (laws_markText.f k (n : Int)).bind fun t => (if (mtext n).toList = t.toList then (laws_heldStringS.l0 k (pre ++ mtext n :: smarks (n + 1) d) ((n + 1 : Nat) : Int) ((pre ++ [mtext n]).length : Int)) else (some (-1)))) (fun k => ?_) (Ev.bind (mark_ev (by omega)) ?_)
    · simp only [laws_heldStringS.l0]
      rw [if_pos (by rw [List.length_append, List.length_cons]; omega), if_pos (by omega), srd_mid, w64 (x := (n : Int) + 1) (by omega) (by omega), snext_len pre (mtext n) (by omega)]
      rfl
    · simp only [if_true]
      rw [show n + (d + 1) = n + 1 + d by omega]
      exact ih
theorem heldStrings_ev {d n : Nat} (hl : d ≤ 1048576) (hn : n + d ≤ 4000000) : Ev (fun k => laws_heldStringS.f k (smarks n d) (n : Int)) ((n + d : Nat) : Int) := by
  unfold laws_heldStringS.f
  exact heldStrings_loop d [] n (by simpa using hl) hn
theorem eqStrings_loop : ∀ (suf pre : List ByteArray), (pre ++ suf).length ≤ 1048576 → Ev (fun k => laws_eqStringS.l0 k (pre ++ suf) (pre ++ suf) (pre.length : Int)) true
  | [], pre, hl => by
    refine Ev.step (f := fun _ => some true) (fun k => ?_) (Ev.now _)
    simp only [laws_eqStringS.l0, List.append_nil]
    rw [if_neg (by omega)]
  | x :: suf, pre, hl => by
    have hll : (pre ++ x :: suf).length = pre.length + (suf.length + 1) := by simp
    have ih := eqStrings_loop suf (pre ++ [x]) (by rw [← ssnoc]; exact hl)
    rw [← ssnoc] at ih
    refine Ev.step (fun k => ?_) ih
    simp only [laws_eqStringS.l0, if_true]
    rw [if_pos (by omega), if_pos (by omega), if_pos (by omega), snext_len pre x (by omega)]
theorem eqStrings_ev {l : List ByteArray} (hl : l.length ≤ 1048576) : Ev (fun k => laws_eqStringS.f k l l) true := by
  unfold laws_eqStringS.f
  simp only [if_true]
  exact eqStrings_loop l [] hl
/-- A text, escaped, behind z zeros. -/
def esc : Nat → List Int → List Int
  | _, [] => []
  | z, x :: l => if x < 4 ∧ 2 ≤ z then 3 :: x :: esc (if x = 0 then 1 else 0) l else x :: esc (if x = 0 then z + 1 else 0) l
/-- Whether Escaped takes the text. -/
def escOk (l : List Int) : Bool := decide (l ≠ [] ∧ l.length ≤ 60000 ∧ l.getLast? ≠ some 0)
theorem esc_bys : ∀ (l : List Int) (z : Nat), Bys l → Bys (esc z l)
  | [], _, _ => Bys.nil
  | x :: l, z, h => by
    have hx := h x (by simp)
    have hl : Bys l := fun y hy => h y (by simp [hy])
    unfold esc
    split
    · exact Bys.cons (by decide) (by decide) (Bys.cons hx.1 hx.2 (esc_bys l _ hl))
    · exact Bys.cons hx.1 hx.2 (esc_bys l _ hl)
theorem esc_len : ∀ (l : List Int) (z : Nat), l.length ≤ (esc z l).length ∧ (esc z l).length ≤ 2 * l.length
  | [], _ => ⟨Nat.le_refl _, Nat.le_refl _⟩
  | x :: l, z => by
    unfold esc
    split
    · have := esc_len l (if x = 0 then 1 else 0)
      simp only [List.length_cons]
      omega
    · have := esc_len l (if x = 0 then z + 1 else 0)
      simp only [List.length_cons]
      omega
theorem last_get (l : List Int) (h : l ≠ []) : l.getLast? = some (l.getD (l.length - 1) 0) := by
  rw [List.getLast?_eq_getElem?, List.getD_eq_getElem?_getD]
  have : l.length - 1 < l.length := by
    have := List.length_pos_iff.2 h
    omega
  rw [List.getElem?_eq_getElem this]
  rfl
theorem bt_last {l : List Int} (hb : Bys l) (h : l ≠ []) (hl : l.length ≤ 1048576) : bt (strOfNums l) (wrap64 (((strOfNums l).size : Int) - 1)) = l.getD (l.length - 1) 0 := by
  have := List.length_pos_iff.2 h
  rw [str_size, w64 (by omega) (by omega)]
  exact bt_get hb (by omega)
theorem str_toList (l : List Int) : (strOfNums l).toList = l.map fun n => UInt8.ofNat n.toNat := by
  rw [Go.ByteArray.toList_eq, strOfNums_data]
theorem str_toList_nil {l : List Int} : (strOfNums l).toList = ([] : List UInt8) ↔ l = [] := by
  rw [str_toList, List.map_eq_nil_iff]
theorem str_toList_inj {l m : List Int} (hl : Bys l) (hm : Bys m) : (strOfNums l).toList = (strOfNums m).toList ↔ l = m := by
  constructor
  · intro h
    apply str_inj hl hm
    apply ByteArray.ext
    apply Array.ext'
    rw [← Go.ByteArray.toList_eq, ← Go.ByteArray.toList_eq, h]
  · intro h
    rw [h]
/-- What the escaping put in is left out again, behind z zeros. -/
def une : Nat → List Int → List Int
  | _, [] => []
  | z, x :: l => if x = 3 ∧ 2 ≤ z then une 0 l else x :: une (if x = 0 then z + 1 else 0) l
def uneRes (t out : List Int) : ByteArray × Bool := if escOk out = true ∧ esc 0 out = t then (strOfNums out, true) else (strOfNums [], false)
theorem une_bys : ∀ (l : List Int) (z : Nat), Bys l → Bys (une z l)
  | [], _, _ => Bys.nil
  | x :: l, z, h => by
    have hx := h x (by simp)
    have hl : Bys l := fun y hy => h y (by simp [hy])
    unfold une
    split
    · exact une_bys l _ hl
    · exact Bys.cons hx.1 hx.2 (une_bys l _ hl)
theorem une_len : ∀ (l : List Int) (z : Nat), (une z l).length ≤ l.length
  | [], _ => Nat.le_refl _
  | x :: l, z => by
    unfold une
    split
    · have := une_len l 0
      simp only [List.length_cons]
      omega
    · have := une_len l (if x = 0 then z + 1 else 0)
      simp only [List.length_cons]
      omega
theorem impl_esc_loop : ∀ (suf pre acc : List Int) (z : Nat), Bys (pre ++ suf) → (pre ++ suf).length ≤ 60000 → acc.length ≤ 2 * pre.length → z ≤ pre.length →
    Ev (fun k => impl_Escaped.l0 k (strOfNums (pre ++ suf)) acc (z : Int) (pre.length : Int)) (strOfNums (acc ++ esc z suf), true)
  | [], pre, acc, z, hb, hl, ha, hz => by
    refine Ev.step (f := fun _ => some (strOfNums acc, true)) (fun k => ?_) (by simp only [esc, List.append_nil]; exact Ev.now _)
    simp only [impl_Escaped.l0, List.append_nil]
    rw [if_neg (ge_end pre)]
  | x :: suf, pre, acc, z, hb, hl, ha, hz => by
    have hx1 := mid_byte hb
    have hl' : pre.length + (suf.length + 1) ≤ 60000 := by simpa using hl
    have hp : (pre ++ [x]).length = pre.length + 1 := by simp
    have ih := fun (acc' : List Int) (z' : Nat) (h1 : acc'.length ≤ 2 * (pre ++ [x]).length) (h2 : z' ≤ (pre ++ [x]).length) => impl_esc_loop suf (pre ++ [x]) acc' z' (by rw [← snoc_cons]; exact hb) (by rw [← snoc_cons]; exact hl) h1 h2
    simp only [← snoc_cons] at ih
    have hlt := lt_mid pre suf x
    have hnext := next_len pre x (by omega)
    by_cases hc : x < 4 ∧ 2 ≤ z
    · have e : acc ++ esc z (x :: suf) = (acc ++ [3] ++ [x]) ++ esc (if x = 0 then 1 else 0) suf := by
        rw [esc, if_pos hc]
        simp
      rw [e]
      refine Ev.step (f := fun k => impl_Escaped.j2 k (strOfNums (pre ++ x :: suf)) acc (z : Int) (pre.length : Int) true) (fun k => ?_) ?_
      · simp only [impl_Escaped.l0]
        rw [if_pos hlt, if_pos (by omega), bt_mid hb, if_pos hc.1, decide_eq_true (by omega)]
      · by_cases h0 : x = 0
        · have := ih (acc ++ [3] ++ [x]) 1 (by simp; omega) (by omega)
          rw [if_pos h0]
          refine Ev.step (fun k => ?_) this
          simp only [impl_Escaped.j2, if_true]
          rw [if_pos (by omega)]
          try simp only [Option.bind_some]
          rw [if_pos (by omega), if_pos hlt, if_pos (by simp; omega)]
          try simp only [Option.bind_some]
          rw [bt_mid hb, if_pos h0, hnext]
          rfl
        · have := ih (acc ++ [3] ++ [x]) 0 (by simp; omega) (by omega)
          rw [if_neg h0]
          refine Ev.step (fun k => ?_) this
          simp only [impl_Escaped.j2, if_true]
          rw [if_pos (by omega)]
          try simp only [Option.bind_some]
          rw [if_pos (by omega), if_pos hlt, if_pos (by simp; omega)]
          try simp only [Option.bind_some]
          rw [bt_mid hb, if_neg h0, hnext]
          rfl
    · have e : acc ++ esc z (x :: suf) = (acc ++ [x]) ++ esc (if x = 0 then z + 1 else 0) suf := by
        rw [esc, if_neg hc]
        simp
      rw [e]
      refine Ev.step (f := fun k => impl_Escaped.j2 k (strOfNums (pre ++ x :: suf)) acc (z : Int) (pre.length : Int) false) (fun k => ?_) ?_
      · simp only [impl_Escaped.l0]
        rw [if_pos hlt, if_pos (by omega), bt_mid hb]
        by_cases h4 : x < 4
        · rw [if_pos h4, decide_eq_false (by omega)]
        · rw [if_neg h4]
      · by_cases h0 : x = 0
        · have := ih (acc ++ [x]) (z + 1) (by simp; omega) (by omega)
          rw [if_pos h0]
          refine Ev.step (fun k => ?_) this
          simp only [impl_Escaped.j2, Bool.false_eq_true, if_false]
          rw [if_pos (by omega), if_pos hlt, if_pos (by omega)]
          try simp only [Option.bind_some]
          rw [bt_mid hb, if_pos h0, hnext, w64 (x := (z : Int) + 1) (by omega) (by omega)]
          rfl
        · have := ih (acc ++ [x]) 0 (by simp; omega) (by omega)
          rw [if_neg h0]
          refine Ev.step (fun k => ?_) this
          simp only [impl_Escaped.j2, Bool.false_eq_true, if_false]
          rw [if_pos (by omega), if_pos hlt, if_pos (by omega)]
          try simp only [Option.bind_some]
          rw [bt_mid hb, if_neg h0, hnext]
          rfl
theorem impl_esc_yes {l : List Int} (hb : Bys l) (h : escOk l = true) : Ev (fun k => impl_Escaped.f k (strOfNums l)) (strOfNums (esc 0 l), true) := by
  have h' : l ≠ [] ∧ l.length ≤ 60000 ∧ l.getLast? ≠ some 0 := of_decide_eq_true h
  obtain ⟨h1, h2, h3⟩ := h'
  have hpos := List.length_pos_iff.2 h1
  have hlast := bt_last hb h1 (by omega)
  have hne : l.getD (l.length - 1) 0 ≠ 0 := by
    intro e
    rw [last_get l h1, e] at h3
    exact h3 rfl
  have hl := impl_esc_loop l [] [] 0 hb h2 (Nat.zero_le _) (Nat.zero_le _)
  simp only [List.nil_append] at hl
  have hj : Ev (fun k => impl_Escaped.j0 k (strOfNums l) false) (strOfNums (esc 0 l), true) := by
    refine Ev.step (fun k => ?_) hl
    simp only [impl_Escaped.j0, Bool.false_eq_true, if_false]
    rw [str_size, w64 (x := (l.length : Int) / 2) (by omega) (by omega), w64 (by omega) (by omega), if_pos (by omega), if_pos (by omega)]
    rfl
  refine Ev.congr (fun k => ?_) hj
  unfold impl_Escaped.f
  rw [if_neg (fun e => h1 (str_toList_nil.1 e)), if_neg (by rw [str_size]; omega), hlast]
  have hw : wrap64 (((strOfNums l).size : Int) - 1) = (l.length : Int) - 1 := by rw [str_size, w64 (by omega) (by omega)]
  rw [hw, if_pos (by omega), if_pos (by rw [str_size]; omega), beq_eq_false_iff_ne.2 hne]
theorem impl_esc_no {l : List Int} (hb : Bys l) (hl : l.length ≤ 1048576) (h : escOk l = false) : Ev (fun k => impl_Escaped.f k (strOfNums l)) (strOfNums [], false) := by
  have h' : ¬ (l ≠ [] ∧ l.length ≤ 60000 ∧ l.getLast? ≠ some 0) := of_decide_eq_false h
  have hj : Ev (fun k => impl_Escaped.j0 k (strOfNums l) true) (strOfNums [], false) := by
    refine Ev.step (f := fun _ => some (strOfNums [], false)) (fun k => ?_) (Ev.now _)
    simp only [impl_Escaped.j0, if_true]
    rfl
  refine Ev.congr (fun k => ?_) hj
  unfold impl_Escaped.f
  by_cases h1 : l = []
  · rw [if_pos (str_toList_nil.2 h1)]
  · rw [if_neg (fun e => h1 (str_toList_nil.1 e))]
    have hpos := List.length_pos_iff.2 h1
    by_cases h2 : ((strOfNums l).size : Int) > 60000
    · rw [if_pos h2]
    · rw [if_neg h2]
      rw [str_size] at h2
      have hlast := bt_last hb h1 (by omega)
      have he : l.getD (l.length - 1) 0 = 0 := by
        have := last_get l h1
        by_cases e : l.getD (l.length - 1) 0 = 0
        · exact e
        · exact absurd ⟨h1, by omega, by rw [this]; intro e2; exact e (Option.some.inj e2)⟩ h'
      rw [hlast, he]
      have hw : wrap64 (((strOfNums l).size : Int) - 1) = (l.length : Int) - 1 := by rw [str_size, w64 (by omega) (by omega)]
      rw [hw, if_pos (by omega), if_pos (by rw [str_size]; omega)]
      rfl
theorem impl_une_loop : ∀ (suf pre acc : List Int) (z : Nat), Bys (pre ++ suf) → (pre ++ suf).length ≤ 1048576 → Bys acc → acc.length ≤ pre.length → z ≤ pre.length →
    Ev (fun k => impl_Unescaped.l0 k (strOfNums (pre ++ suf)) acc (z : Int) (pre.length : Int)) (uneRes (pre ++ suf) (acc ++ une z suf))
  | [], pre, acc, z, hb, hl, hba, ha, hz => by
    rw [List.append_nil] at hb hl ⊢
    simp only [une, List.append_nil]
    unfold uneRes
    have hstep : ∀ k, impl_Unescaped.l0 (k + 1) (strOfNums pre) acc (z : Int) (pre.length : Int) = ((impl_Escaped.f k (strOfNums acc)).bind fun b => (if b.2 = true then (if b.1.toList = (strOfNums pre).toList then (some (strOfNums acc, true)) else (some ((⟨#[]⟩ : ByteArray), false))) else (some ((⟨#[]⟩ : ByteArray), false)))) := fun k => by
      simp only [impl_Unescaped.l0]
      rw [if_neg (ge_end pre)]
    refine Ev.step hstep ?_
    cases h : escOk acc
    · refine Ev.bind (impl_esc_no hba (by omega) h) ?_
      simp only [Bool.false_eq_true, if_false, false_and]
      exact Ev.now _
    · refine Ev.bind (impl_esc_yes hba h) ?_
      simp only [if_true, true_and, str_toList_inj (esc_bys acc 0 hba) hb]
      by_cases he : esc 0 acc = pre
      · simp only [if_pos he]
        exact Ev.now _
      · simp only [if_neg he]
        exact Ev.now _
  | x :: suf, pre, acc, z, hb, hl, hba, ha, hz => by
    have hx1 := mid_byte hb
    have hl' : pre.length + (suf.length + 1) ≤ 1048576 := by simpa using hl
    have hp : (pre ++ [x]).length = pre.length + 1 := by simp
    have ih := fun (acc' : List Int) (z' : Nat) (h0 : Bys acc') (h1 : acc'.length ≤ (pre ++ [x]).length) (h2 : z' ≤ (pre ++ [x]).length) => impl_une_loop suf (pre ++ [x]) acc' z' (by rw [← snoc_cons]; exact hb) (by rw [← snoc_cons]; exact hl) h0 h1 h2
    simp only [← snoc_cons] at ih
    have hlt := lt_mid pre suf x
    have hnext := next_len pre x (by omega)
    by_cases hc : x = 3 ∧ 2 ≤ z
    · have e : acc ++ une z (x :: suf) = acc ++ une 0 suf := by rw [une, if_pos hc]
      rw [e]
      refine Ev.step (f := fun k => impl_Unescaped.j1 k (strOfNums (pre ++ x :: suf)) acc (z : Int) (pre.length : Int) true) (fun k => ?_) ?_
      · simp only [impl_Unescaped.l0]
        rw [if_pos hlt, if_pos (by omega), if_pos (by omega), bt_mid hb, hc.1]
        rfl
      · refine Ev.step (fun k => ?_) (ih acc 0 hba (by omega) (by omega))
        simp only [impl_Unescaped.j1, if_true]
        rw [hnext]
        rfl
    · have e : acc ++ une z (x :: suf) = (acc ++ [x]) ++ une (if x = 0 then z + 1 else 0) suf := by
        rw [une, if_neg hc]
        simp
      rw [e]
      refine Ev.step (f := fun k => impl_Unescaped.j1 k (strOfNums (pre ++ x :: suf)) acc (z : Int) (pre.length : Int) false) (fun k => ?_) ?_
      · simp only [impl_Unescaped.l0]
        rw [if_pos hlt]
        by_cases h2 : 2 ≤ z
        · rw [if_pos (by omega), if_pos (by omega), bt_mid hb, beq_eq_false_iff_ne.2 (fun h3 => hc ⟨h3, h2⟩)]
        · rw [if_neg (by omega)]
      · have hba' : Bys (acc ++ [x]) := Bys.append hba (Bys.cons hx1.1 hx1.2 Bys.nil)
        by_cases h0 : x = 0
        · have := ih (acc ++ [x]) (z + 1) hba' (by simp; omega) (by omega)
          rw [if_pos h0]
          refine Ev.step (fun k => ?_) this
          simp only [impl_Unescaped.j1, Bool.false_eq_true, if_false]
          rw [if_pos (by omega), if_pos hlt, bt_mid hb, if_pos h0, if_pos (by omega), hnext, w64 (x := (z : Int) + 1) (by omega) (by omega)]
          rfl
        · have := ih (acc ++ [x]) 0 hba' (by simp; omega) (by omega)
          rw [if_neg h0]
          refine Ev.step (fun k => ?_) this
          simp only [impl_Unescaped.j1, Bool.false_eq_true, if_false]
          rw [if_pos (by omega), if_pos hlt, bt_mid hb, if_neg h0, if_pos (by omega), hnext]
          rfl
theorem impl_une_ev {l : List Int} (hb : Bys l) (hl : l.length ≤ 1048576) : Ev (fun k => impl_Unescaped.f k (strOfNums l)) (uneRes l (une 0 l)) := by
  have h := impl_une_loop l [] [] 0 hb hl Bys.nil (Nat.zero_le _) (Nat.zero_le _)
  simp only [List.nil_append] at h
  refine Ev.congr (fun k => ?_) h
  unfold impl_Unescaped.f
  rw [if_pos (by omega), if_pos (by rw [str_size]; omega)]
  rfl
/-- How many zeros a list ends with (told from its back). -/
def tz : List Int → Nat
  | [] => 0
  | x :: l => if x = 0 then tz l + 1 else 0
theorem two_zeros (acc : List Int) : (2 ≤ tz acc.reverse) ↔ (2 ≤ acc.length ∧ acc.getD (acc.length - 1) 0 = 0 ∧ acc.getD (acc.length - 2) 0 = 0) := by
  obtain ⟨r, rfl⟩ : ∃ r : List Int, acc = r.reverse := ⟨acc.reverse, (List.reverse_reverse acc).symm⟩
  rw [List.reverse_reverse]
  match r with
  | [] => simp [tz]
  | [x] => 
    constructor
    · intro h
      unfold tz at h
      split at h <;> simp [tz] at h
    · intro h
      simp at h
  | x :: y :: l =>
    have e1 : (x :: y :: l).reverse.getD ((x :: y :: l).reverse.length - 1) 0 = x := by
      rw [List.getD_eq_getElem?_getD]
      simp
    have e2 : (x :: y :: l).reverse.getD ((x :: y :: l).reverse.length - 2) 0 = y := by
      rw [List.getD_eq_getElem?_getD]
      simp
    rw [e1, e2]
    constructor
    · intro h
      unfold tz at h
      split at h
      · rename_i hx
        refine ⟨by simp, hx, ?_⟩
        unfold tz at h
        split at h
        · assumption
        · omega
      · omega
    · rintro ⟨_, rfl, rfl⟩
      simp [tz]
theorem spec_esc_loop : ∀ (suf pre acc : List Int), Bys (pre ++ suf) → (pre ++ suf).length ≤ 60000 → acc.length ≤ 2 * pre.length →
    Ev (fun k => spec_l04Escaped.l0 k (strOfNums (pre ++ suf)) acc (pre.length : Int)) (strOfNums (acc ++ esc (tz acc.reverse) suf))
  | [], pre, acc, hb, hl, ha => by
    refine Ev.step (f := fun _ => some (strOfNums acc)) (fun k => ?_) (by simp only [esc, List.append_nil]; exact Ev.now _)
    simp only [spec_l04Escaped.l0, List.append_nil]
    rw [if_neg (ge_end pre)]
  | x :: suf, pre, acc, hb, hl, ha => by
    have hx1 := mid_byte hb
    have hl' : pre.length + (suf.length + 1) ≤ 60000 := by simpa using hl
    have hp : (pre ++ [x]).length = pre.length + 1 := by simp
    have ih := fun (acc' : List Int) (h1 : acc'.length ≤ 2 * (pre ++ [x]).length) => spec_esc_loop suf (pre ++ [x]) acc' (by rw [← snoc_cons]; exact hb) (by rw [← snoc_cons]; exact hl) h1
    simp only [← snoc_cons] at ih
    have hlt := lt_mid pre suf x
    have hnext := next_len pre x (by omega)
    have ht := two_zeros acc
    by_cases hc : x < 4 ∧ 2 ≤ tz acc.reverse
    · obtain ⟨g1, g2, g3⟩ := ht.1 hc.2
      have e : acc ++ esc (tz acc.reverse) (x :: suf) = (acc ++ [3] ++ [x]) ++ esc (tz (acc ++ [3] ++ [x]).reverse) suf := by
        rw [esc, if_pos hc]
        have : tz (acc ++ [3] ++ [x]).reverse = if x = 0 then 1 else 0 := by simp [tz]
        rw [this]
        simp
      rw [e]
      refine Ev.step (fun k => ?_) (ih (acc ++ [3] ++ [x]) (by simp; omega))
      simp only [spec_l04Escaped.l0]
      rw [if_pos hlt, if_pos (by omega), w64 (x := (acc.length : Int) - 1) (by omega) (by omega), w64 (x := (acc.length : Int) - 2) (by omega) (by omega), if_pos (by omega), if_pos (by omega)]
      unfold rd
      rw [show ((acc.length : Int) - 1).toNat = acc.length - 1 by omega, show ((acc.length : Int) - 2).toNat = acc.length - 2 by omega, if_pos g2, if_pos (by omega), if_pos (by omega), if_pos g3, if_pos (by omega), bt_mid hb, if_pos hc.1, if_pos (by omega)]
      simp only [Option.bind_some]
      rw [if_pos (by simp; omega), hnext]
    · have e : acc ++ esc (tz acc.reverse) (x :: suf) = (acc ++ [x]) ++ esc (tz (acc ++ [x]).reverse) suf := by
        rw [esc, if_neg hc]
        have : tz (acc ++ [x]).reverse = if x = 0 then tz acc.reverse + 1 else 0 := by simp [tz]
        rw [this]
        simp
      rw [e]
      refine Ev.step (fun k => ?_) (ih (acc ++ [x]) (by simp; omega))
      simp only [spec_l04Escaped.l0]
      rw [if_pos hlt]
      by_cases h1 : 2 ≤ acc.length
      · rw [if_pos (by omega), w64 (x := (acc.length : Int) - 1) (by omega) (by omega), w64 (x := (acc.length : Int) - 2) (by omega) (by omega), if_pos (by omega), if_pos (by omega)]
        unfold rd
        rw [show ((acc.length : Int) - 1).toNat = acc.length - 1 by omega, show ((acc.length : Int) - 2).toNat = acc.length - 2 by omega]
        by_cases h2 : acc.getD (acc.length - 1) 0 = 0
        · rw [if_pos h2, if_pos (by omega), if_pos (by omega)]
          by_cases h3 : acc.getD (acc.length - 2) 0 = 0
          · have : ¬ x < 4 := fun h4 => hc ⟨h4, ht.2 ⟨h1, h2, h3⟩⟩
            rw [if_pos h3, if_pos (by omega), bt_mid hb, if_neg this, if_pos (by omega), hnext]
          · rw [if_neg h3, if_pos (by omega), if_pos (by omega), bt_mid hb, hnext]
        · rw [if_neg h2, if_pos (by omega), if_pos (by omega), bt_mid hb, hnext]
      · rw [if_neg (by omega), if_pos (by omega), if_pos (by omega), bt_mid hb, hnext]
theorem spec_esc_yes {l : List Int} (hb : Bys l) (h : escOk l = true) : Ev (fun k => spec_Escaped.f k (strOfNums l)) (strOfNums (esc 0 l), true) := by
  have h' : l ≠ [] ∧ l.length ≤ 60000 ∧ l.getLast? ≠ some 0 := of_decide_eq_true h
  obtain ⟨h1, h2, h3⟩ := h'
  have hpos := List.length_pos_iff.2 h1
  have hlast := bt_last hb h1 (by omega)
  have hne : l.getD (l.length - 1) 0 ≠ 0 := by
    intro e
    rw [last_get l h1, e] at h3
    exact h3 rfl
  have hl := spec_esc_loop l [] [] hb h2 (Nat.zero_le _)
  simp only [List.nil_append, List.reverse_nil, tz] at hl
  have hw : wrap64 (((strOfNums l).size : Int) - 1) = (l.length : Int) - 1 := by rw [str_size, w64 (by omega) (by omega)]
  unfold spec_Escaped.f spec_l04Escaped.f
  rw [hlast]
  simp only [hw, if_neg hne, if_neg (show ¬ ((strOfNums l).size : Int) = 0 by rw [str_size]; omega), if_neg (show ¬ ((strOfNums l).size : Int) > 60000 by rw [str_size]; omega), if_pos (show (0 : Int) ≤ (l.length : Int) - 1 by omega), if_pos (show (l.length : Int) - 1 < ((strOfNums l).size : Int) by rw [str_size]; omega)]
  exact Ev.bind hl (Ev.now _)
theorem spec_esc_no {l : List Int} (hb : Bys l) (hl : l.length ≤ 1048576) (h : escOk l = false) : Ev (fun k => spec_Escaped.f k (strOfNums l)) (strOfNums [], false) := by
  have h' : ¬ (l ≠ [] ∧ l.length ≤ 60000 ∧ l.getLast? ≠ some 0) := of_decide_eq_false h
  refine ev_now (fun k => ?_)
  unfold spec_Escaped.f
  by_cases h1 : l = []
  · rw [if_pos (by rw [str_size, h1]; rfl)]
    rfl
  · have hpos := List.length_pos_iff.2 h1
    rw [if_neg (by rw [str_size]; omega)]
    by_cases h2 : ((strOfNums l).size : Int) > 60000
    · rw [if_pos h2]
      rfl
    · rw [if_neg h2]
      rw [str_size] at h2
      have hlast := bt_last hb h1 (by omega)
      have he : l.getD (l.length - 1) 0 = 0 := by
        have := last_get l h1
        by_cases e : l.getD (l.length - 1) 0 = 0
        · exact e
        · exact absurd ⟨h1, by omega, by rw [this]; intro e2; exact e (Option.some.inj e2)⟩ h'
      have hw : wrap64 (((strOfNums l).size : Int) - 1) = (l.length : Int) - 1 := by rw [str_size, w64 (by omega) (by omega)]
      rw [hlast, he, hw, if_pos (by omega), if_pos (by rw [str_size]; omega), if_pos rfl]
      rfl
theorem getD_left (pre suf : List Int) (i : Nat) (h : i < pre.length) : (pre ++ suf).getD i 0 = pre.getD i 0 := by
  rw [List.getD_eq_getElem?_getD, List.getD_eq_getElem?_getD, List.getElem?_append_left h]
theorem spec_une_loop : ∀ (suf pre acc : List Int), Bys (pre ++ suf) → (pre ++ suf).length ≤ 1048576 → Bys acc → acc.length ≤ pre.length →
    Ev (fun k => spec_Unescaped.l0 k (strOfNums (pre ++ suf)) acc (pre.length : Int)) (uneRes (pre ++ suf) (acc ++ une (tz pre.reverse) suf))
  | [], pre, acc, hb, hl, hba, ha => by
    rw [List.append_nil] at hb hl ⊢
    simp only [une, List.append_nil]
    unfold uneRes
    have hstep : ∀ k, spec_Unescaped.l0 (k + 1) (strOfNums pre) acc (pre.length : Int) = ((spec_Escaped.f k (strOfNums acc)).bind fun b => (if b.2 = true then (if b.1.toList = (strOfNums pre).toList then (some (strOfNums acc, true)) else (some ((⟨#[]⟩ : ByteArray), false))) else (some ((⟨#[]⟩ : ByteArray), false)))) := fun k => by
      simp only [spec_Unescaped.l0]
      rw [if_neg (ge_end pre)]
    refine Ev.step hstep ?_
    cases h : escOk acc
    · refine Ev.bind (spec_esc_no hba (by omega) h) ?_
      simp only [Bool.false_eq_true, if_false, false_and]
      exact Ev.now _
    · refine Ev.bind (spec_esc_yes hba h) ?_
      simp only [if_true, true_and, str_toList_inj (esc_bys acc 0 hba) hb]
      by_cases he : esc 0 acc = pre
      · simp only [if_pos he]
        exact Ev.now _
      · simp only [if_neg he]
        exact Ev.now _
  | x :: suf, pre, acc, hb, hl, hba, ha => by
    have hx1 := mid_byte hb
    have hl' : pre.length + (suf.length + 1) ≤ 1048576 := by simpa using hl
    have hp : (pre ++ [x]).length = pre.length + 1 := by simp
    have ih := fun (acc' : List Int) (h0 : Bys acc') (h1 : acc'.length ≤ (pre ++ [x]).length) => spec_une_loop suf (pre ++ [x]) acc' (by rw [← snoc_cons]; exact hb) (by rw [← snoc_cons]; exact hl) h0 h1
    simp only [← snoc_cons] at ih
    have hlt := lt_mid pre suf x
    have hnext := next_len pre x (by omega)
    have ht := two_zeros pre
    have hsz : (strOfNums (pre ++ x :: suf)).size = pre.length + (suf.length + 1) := by rw [str_size]; simp
    have hb1 : 2 ≤ pre.length → bt (strOfNums (pre ++ x :: suf)) ((pre.length : Int) - 1) = pre.getD (pre.length - 1) 0 := fun h => by
      rw [bt_get hb (n := pre.length - 1) (by omega), getD_left _ _ _ (by omega)]
    have hb2 : 2 ≤ pre.length → bt (strOfNums (pre ++ x :: suf)) ((pre.length : Int) - 2) = pre.getD (pre.length - 2) 0 := fun h => by
      rw [bt_get hb (n := pre.length - 2) (by omega), getD_left _ _ _ (by omega)]
    have htz : tz (pre ++ [x]).reverse = if x = 0 then tz pre.reverse + 1 else 0 := by simp [tz]
    by_cases hc : x = 3 ∧ 2 ≤ tz pre.reverse
    · obtain ⟨g1, g2, g3⟩ := ht.1 hc.2
      have e : acc ++ une (tz pre.reverse) (x :: suf) = acc ++ une (tz (pre ++ [x]).reverse) suf := by
        rw [une, if_pos hc, htz, if_neg (by omega)]
      rw [e]
      refine Ev.step (fun k => ?_) (ih acc hba (by omega))
      simp only [spec_Unescaped.l0]
      rw [if_pos hlt, if_pos (by omega), if_pos (by omega), bt_mid hb, if_pos hc.1, w64 (x := (pre.length : Int) - 1) (by omega) (by omega), w64 (x := (pre.length : Int) - 2) (by omega) (by omega)]
      rw [if_pos (by omega), if_pos (by omega), hb1 g1, if_pos g2, if_pos (by omega), if_pos (by omega), hb2 g1, if_pos g3, hnext]
    · have e : acc ++ une (tz pre.reverse) (x :: suf) = (acc ++ [x]) ++ une (tz (pre ++ [x]).reverse) suf := by
        rw [une, if_neg hc, htz]
        simp
      rw [e]
      refine Ev.step (fun k => ?_) (ih (acc ++ [x]) (Bys.append hba (Bys.cons hx1.1 hx1.2 Bys.nil)) (by simp; omega))
      simp only [spec_Unescaped.l0]
      rw [if_pos hlt, bt_mid hb, w64 (x := (pre.length : Int) - 1) (by omega) (by omega), w64 (x := (pre.length : Int) - 2) (by omega) (by omega), hnext, if_pos (show acc.length < 140737488355328 by omega), if_pos (show (0 : Int) ≤ (pre.length : Int) by omega)]
      by_cases h1 : 2 ≤ pre.length
      · rw [if_pos (by omega)]
        by_cases h3 : x = 3
        · rw [if_pos h3, if_pos (by omega), if_pos (by omega), hb1 h1]
          by_cases h4 : pre.getD (pre.length - 1) 0 = 0
          · rw [if_pos h4, if_pos (by omega), if_pos (by omega), hb2 h1]
            have : ¬ pre.getD (pre.length - 2) 0 = 0 := fun h5 => hc ⟨h3, ht.2 ⟨h1, h4, h5⟩⟩
            rw [if_neg this]
          · rw [if_neg h4]
        · rw [if_neg h3]
      · rw [if_neg (by omega), if_pos (by omega)]
theorem spec_une_ev {l : List Int} (hb : Bys l) (hl : l.length ≤ 1048576) : Ev (fun k => spec_Unescaped.f k (strOfNums l)) (uneRes l (une 0 l)) := by
  by_cases hc : ((strOfNums l).size : Int) > 120000
  · have e : uneRes l (une 0 l) = (strOfNums [], false) := by
      unfold uneRes
      rw [if_neg]
      rintro ⟨h1, h2⟩
      have h' : une 0 l ≠ [] ∧ (une 0 l).length ≤ 60000 ∧ (une 0 l).getLast? ≠ some 0 := of_decide_eq_true h1
      have := (esc_len (une 0 l) 0).2
      rw [h2] at this
      rw [str_size] at hc
      omega
    rw [e]
    refine ev_now (fun k => ?_)
    unfold spec_Unescaped.f
    rw [if_pos hc]
    rfl
  · have h := spec_une_loop l [] [] hb hl Bys.nil (Nat.zero_le _)
    simp only [List.nil_append, List.reverse_nil, tz] at h
    refine Ev.congr (fun k => ?_) h
    unfold spec_Unescaped.f
    rw [if_neg hc]
    rfl
/-- A start at a place. -/
def isStart (l : List Int) (i : Nat) : Bool := decide (i + 2 < l.length) && (l.getD i 0 == 0 && (l.getD (i + 1) 0 == 0 && l.getD (i + 2) 0 == 1))
/-- The starts from a place on, so many places. -/
def starts (l : List Int) : Nat → Nat → List Nat
  | 0, _ => []
  | d + 1, i => if isStart l i = true then i :: starts l d (i + 1) else starts l d (i + 1)
/-- The zeros at a text's end left out. -/
def strip (l : List Int) (f : Nat) : Nat → Nat
  | 0 => 0
  | q + 1 => if f < q + 1 ∧ l.getD q 0 = 0 then strip l f q else q + 1
theorem strip_bounds (l : List Int) (f : Nat) : ∀ q : Nat, f ≤ q → f ≤ strip l f q ∧ strip l f q ≤ q
  | 0, h => ⟨by simpa [strip] using h, Nat.le_refl _⟩
  | q + 1, h => by
    unfold strip
    split
    · rename_i hc
      have := strip_bounds l f q (by omega)
      omega
    · omega
def seg (l : List Int) (f q : Nat) : List Int := (l.take (strip l f q)).drop f
/-- One unit more. -/
def addU (l : List Int) (out : List ByteArray) (f q : Nat) : List ByteArray := if (uneRes (seg l f q) (une 0 (seg l f q))).2 = true then (if out.length < 400 then out ++ [(uneRes (seg l f q) (une 0 (seg l f q))).1] else out) else out
/-- The units behind the starts. -/
def runU (l : List Int) : List ByteArray → Nat → List Nat → List ByteArray
  | out, f, [] => addU l out f l.length
  | out, f, p :: P => runU l (addU l out f p) (p + 3) P
def allU (l : List Int) : List Nat → List ByteArray
  | [] => []
  | p :: P => runU l [] (p + 3) P
theorem addU_len (l : List Int) (out : List ByteArray) (f q : Nat) (h : out.length ≤ 400) : (addU l out f q).length ≤ 400 := by
  unfold addU
  split
  · split
    · rw [List.length_append, List.length_singleton]; omega
    · exact h
  · exact h
theorem addU_full (l : List Int) (out : List ByteArray) (f q : Nat) (h : ¬ out.length < 400) : addU l out f q = out := by
  unfold addU
  rw [if_neg h, ite_self]
theorem runU_full (l : List Int) (out : List ByteArray) (h : ¬ out.length < 400) : ∀ (P : List Nat) (f : Nat), runU l out f P = out
  | [], f => addU_full l out f _ h
  | p :: P, f => by rw [runU, addU_full l out f p h, runU_full l out h P]
theorem runU_len (l : List Int) : ∀ (P : List Nat) (out : List ByteArray) (f : Nat), out.length ≤ 400 → (runU l out f P).length ≤ 400
  | [], out, f, h => addU_len l out f _ h
  | p :: P, out, f, h => runU_len l P _ _ (addU_len l out f p h)
theorem allU_len (l : List Int) (P : List Nat) : (allU l P).length ≤ 400 := by
  cases P with
  | nil => exact Nat.zero_le _
  | cons p P => exact runU_len l P [] _ (Nat.zero_le _)
theorem seg_bys {l : List Int} (hb : Bys l) (f q : Nat) : Bys (seg l f q) := (hb.take _).drop _
theorem seg_len {l : List Int} (f q : Nat) : (seg l f q).length ≤ l.length := by
  unfold seg
  rw [List.length_drop, List.length_take]
  omega
theorem starts_apart {l : List Int} {i j : Nat} (h : isStart l i = true) (hj : isStart l j = true) (hij : i < j) : i + 3 ≤ j := by
  unfold isStart at h hj
  simp only [Bool.and_eq_true, decide_eq_true_eq, beq_iff_eq] at h hj
  obtain ⟨_, _, _, h3⟩ := h
  obtain ⟨_, g1, g2, _⟩ := hj
  by_cases e1 : j = i + 1
  · subst e1
    rw [show i + 1 + 1 = i + 2 by omega, h3] at g2
    exact absurd g2 (by decide)
  · by_cases e2 : j = i + 2
    · subst e2
      rw [h3] at g1
      exact absurd g1 (by decide)
    · omega
/-- The reference's strip and what follows. -/
theorem spec_strip_ev {l : List Int} (hb : Bys l) (hl : l.length ≤ 60000) {out : List ByteArray} (ho : out.length ≤ 400) {f at_ : Nat} (ha : at_ ≤ 70000) {R : List ByteArray} : ∀ q : Nat, f ≤ q → q ≤ l.length →
    Ev (fun k => spec_UnitsIn.l0 k (strOfNums l) (addU l out f q) ((at_ + 3 : Nat) : Int) ((at_ + 1 : Nat) : Int)) R → Ev (fun k => spec_UnitsIn.l1 k (strOfNums l) out (f : Int) (at_ : Int) (q : Int)) R
  | q, hf, hq, h => by
    have w1 : wrap64 ((at_ : Int) + 1) = ((at_ + 1 : Nat) : Int) := by rw [w64 (by omega) (by omega)]; rfl
    have w3 : wrap64 ((at_ : Int) + 3) = ((at_ + 3 : Nat) : Int) := by rw [w64 (by omega) (by omega)]; rfl
    by_cases hc : f < q ∧ l.getD (q - 1) 0 = 0
    · obtain ⟨q, rfl⟩ : ∃ e, q = e + 1 := ⟨q - 1, by omega⟩
      rw [Nat.add_sub_cancel] at hc
      have hst : strip l f (q + 1) = strip l f q := by rw [strip, if_pos hc]
      have hs : addU l out f (q + 1) = addU l out f q := by
        unfold addU seg
        rw [hst]
      rw [hs] at h
      have ih := spec_strip_ev hb hl ho (f := f) (at_ := at_) ha q (by omega) (by omega) h
      refine Ev.step (fun k => ?_) ih
      simp only [spec_UnitsIn.l1, str_size]
      rw [if_pos (by omega), w64 (x := ((q + 1 : Nat) : Int) - 1) (by omega) (by omega), show ((q + 1 : Nat) : Int) - 1 = (q : Int) by omega, if_pos (by omega), if_pos (by omega), bt_get hb rfl, if_pos hc.2]
    · have hs : strip l f q = q := by
        cases q with
        | zero => rfl
        | succ q =>
          rw [Nat.add_sub_cancel] at hc
          rw [strip, if_neg hc]
      have he : (strOfNums l).extract f q = strOfNums (seg l f q) := by
        rw [str_extract]
        unfold seg
        rw [hs]
      have hu := spec_une_ev (seg_bys hb f q) (by have := seg_len (l := l) f q; omega)
      have tail : ∀ k, spec_UnitsIn.l1 (k + 1) (strOfNums l) out (f : Int) (at_ : Int) (q : Int) = (spec_Unescaped.f k (strOfNums (seg l f q))).bind fun b => (if b.2 = true then (if (out.length : Int) < 400 then (if out.length < 8796093022208 then (spec_UnitsIn.l0 k (strOfNums l) (out ++ [b.1]) ((at_ + 3 : Nat) : Int) ((at_ + 1 : Nat) : Int)) else (none)) else (spec_UnitsIn.l0 k (strOfNums l) out ((at_ + 3 : Nat) : Int) ((at_ + 1 : Nat) : Int))) else (spec_UnitsIn.l0 k (strOfNums l) out ((at_ + 3 : Nat) : Int) ((at_ + 1 : Nat) : Int))) := by
        intro k
        simp only [spec_UnitsIn.l1, str_size, w1, w3]
        by_cases hgt : f < q
        · rw [if_pos (show (q : Int) > (f : Int) by omega), w64 (x := (q : Int) - 1) (by omega) (by omega), if_pos (by omega), if_pos (by omega), bt_get hb (n := q - 1) (by omega), if_neg (fun h0 => hc ⟨hgt, h0⟩), if_pos (by omega), if_pos (by omega), if_pos (by omega), Int.toNat_natCast, Int.toNat_natCast, he]
        · rw [if_neg (show ¬ (q : Int) > (f : Int) by omega), if_pos (by omega), if_pos (by omega), if_pos (by omega), Int.toNat_natCast, Int.toNat_natCast, he]
      refine Ev.step tail (Ev.bind hu ?_)
      unfold addU at h
      by_cases hok : (uneRes (seg l f q) (une 0 (seg l f q))).2 = true
      · rw [if_pos hok] at h
        simp only [if_pos hok]
        by_cases h4 : out.length < 400
        · rw [if_pos h4] at h
          simp only [if_pos (show (out.length : Int) < 400 by omega), if_pos (show out.length < 8796093022208 by omega)]
          exact h
        · rw [if_neg h4] at h
          simp only [if_neg (show ¬ (out.length : Int) < 400 by omega)]
          exact h
      · rw [if_neg hok] at h
        simp only [if_neg hok]
        exact h
/-- The reference's UnitsIn, from a place on, behind a start or none. -/
def specU (l : List Int) (out : List ByteArray) : Option Nat → List Nat → List ByteArray
  | none, P => match P with | [] => out | p :: P => runU l out (p + 3) P
  | some f, P => runU l out f P
theorem start_last {l : List Int} {i : Nat} (h : ¬ i + 2 < l.length) : isStart l i = false := by
  unfold isStart
  rw [decide_eq_false h]
  rfl
/-- What the reference asks at a place. -/
theorem spec_ask {l : List Int} (hb : Bys l) (hl : l.length ≤ 60000) {out : List ByteArray} {f : Int} {i : Nat} (hi : i ≤ l.length) {R : List ByteArray} (h : Ev (fun k => spec_UnitsIn.j1 k (strOfNums l) out f (i : Int) (isStart l i)) R) : Ev (fun k => spec_UnitsIn.l0 k (strOfNums l) out f (i : Int)) R := by
  refine Ev.step (fun k => ?_) h
  simp only [spec_UnitsIn.l0, str_size]
  rw [if_pos (by omega), w64 (x := (i : Int) + 2) (by omega) (by omega), w64 (x := (i : Int) + 1) (by omega) (by omega)]
  by_cases h2 : i + 2 < l.length
  · rw [if_pos (by omega), if_pos (by omega), if_pos (by omega), bt_get hb rfl, bt_get hb (i := (i : Int) + 1) (n := i + 1) (by omega), bt_get hb (i := (i : Int) + 2) (n := i + 2) (by omega)]
    unfold isStart
    rw [decide_eq_true h2, Bool.true_and]
    by_cases g0 : l.getD i 0 = 0
    · rw [if_pos g0, if_pos (by omega), if_pos (by omega), show (l.getD i 0 == 0) = true by simpa using g0, Bool.true_and]
      by_cases g1 : l.getD (i + 1) 0 = 0
      · rw [if_pos g1, if_pos (by omega), show (l.getD (i + 1) 0 == 0) = true by simpa using g1, Bool.true_and]
      · rw [if_neg g1, show (l.getD (i + 1) 0 == 0) = false by simpa using g1, Bool.false_and]
    · rw [if_neg g0, show (l.getD i 0 == 0) = false by simpa using g0, Bool.false_and]
  · rw [if_neg (by omega), start_last h2]
def fromI : Option Nat → Int
  | none => -1
  | some f => (f : Int)
def nextU (l : List Int) (out : List ByteArray) (o : Option Nat) (i : Nat) : List ByteArray := match o with | none => out | some f => addU l out f i
/-- What the reference does at a start, or at the end. -/
theorem spec_cut {l : List Int} (hb : Bys l) (hl : l.length ≤ 60000) {out : List ByteArray} (ho : out.length ≤ 400) {o : Option Nat} {i : Nat} (hi : i ≤ l.length) (hf : ∀ f, o = some f → f ≤ i) {R : List ByteArray}
    (h : Ev (fun k => spec_UnitsIn.l0 k (strOfNums l) (nextU l out o i) ((i + 3 : Nat) : Int) ((i + 1 : Nat) : Int)) R) : Ev (fun k => spec_UnitsIn.j2 k (strOfNums l) out (fromI o) (i : Int) false) R := by
  cases o with
  | none =>
    show Ev (fun k => spec_UnitsIn.j2 k (strOfNums l) out (-1) (i : Int) false) R
    refine Ev.step (f := fun k => spec_UnitsIn.j3 k (strOfNums l) out (-1) (i : Int) false) (fun k => ?_) ?_
    · simp only [spec_UnitsIn.j2, Bool.false_eq_true, if_false]
      rw [if_neg (by omega)]
    · refine Ev.step (fun k => ?_) h
      simp only [spec_UnitsIn.j3, Bool.false_eq_true, if_false]
      rw [w64 (x := (i : Int) + 3) (by omega) (by omega), w64 (x := (i : Int) + 1) (by omega) (by omega)]
      rfl
  | some f =>
    have hfi := hf f rfl
    show Ev (fun k => spec_UnitsIn.j2 k (strOfNums l) out (f : Int) (i : Int) false) R
    refine Ev.step (f := fun k => spec_UnitsIn.j3 k (strOfNums l) out (f : Int) (i : Int) true) (fun k => ?_) ?_
    · simp only [spec_UnitsIn.j2, Bool.false_eq_true, if_false]
      rw [if_pos (by omega), decide_eq_true (by omega)]
    · refine Ev.step (f := fun k => spec_UnitsIn.l1 k (strOfNums l) out (f : Int) (i : Int) (i : Int)) (fun k => ?_) (spec_strip_ev hb hl ho (by omega) i hfi hi h)
      simp only [spec_UnitsIn.j3, if_true]
theorem spec_units_loop {l : List Int} (hb : Bys l) (hl : l.length ≤ 60000) : ∀ (d i : Nat) (out : List ByteArray) (o : Option Nat), i + d = l.length → out.length ≤ 400 → (∀ f, o = some f → (∃ s, isStart l s = true ∧ s < i ∧ f = s + 3)) →
    Ev (fun k => spec_UnitsIn.l0 k (strOfNums l) out (fromI o) (i : Int)) (specU l out o (starts l (d + 1) i))
  | 0, i, out, o, hi, ho, hf => by
    have hil : i = l.length := by omega
    have hs : isStart l i = false := start_last (by omega)
    have hfi : ∀ f, o = some f → f ≤ i := by
      intro f h
      obtain ⟨s, h1, h2, rfl⟩ := hf f h
      unfold isStart at h1
      rw [Bool.and_eq_true] at h1
      have := of_decide_eq_true h1.1
      omega
    refine spec_ask hb hl (by omega) ?_
    rw [hs]
    refine Ev.step (f := fun k => spec_UnitsIn.j2 k (strOfNums l) out (fromI o) (i : Int) false) (fun k => ?_) ?_
    · simp only [spec_UnitsIn.j1, Bool.false_eq_true, if_false, str_size]
      rw [decide_eq_false (by omega)]
    · refine spec_cut hb hl ho (by omega) hfi ?_
      have e : specU l out o (starts l (0 + 1) i) = (nextU l out o i) := by
        rw [starts, hs, if_neg (by decide), starts]
        cases o with
        | none => rfl
        | some f =>
          rw [specU, runU, hil]
          rfl
      rw [e]
      refine Ev.step (f := fun _ => some (nextU l out o i)) (fun k => ?_) (Ev.now _)
      simp only [spec_UnitsIn.l0, str_size]
      rw [if_neg (by omega)]
  | d + 1, i, out, o, hi, ho, hf => by
    refine spec_ask hb hl (by omega) ?_
    cases hs : isStart l i
    · have ih := spec_units_loop hb hl d (i + 1) out o (by omega) ho (fun f h => by
        obtain ⟨s, h1, h2, h3⟩ := hf f h
        exact ⟨s, h1, by omega, h3⟩)
      rw [starts, hs, if_neg (by decide)]
      refine Ev.step (f := fun k => spec_UnitsIn.j2 k (strOfNums l) out (fromI o) (i : Int) true) (fun k => ?_) (Ev.step (fun k => ?_) ih)
      · simp only [spec_UnitsIn.j1, Bool.false_eq_true, if_false, str_size]
        rw [decide_eq_true (by omega)]
      · simp only [spec_UnitsIn.j2, if_true]
        rw [w64 (x := (i : Int) + 1) (by omega) (by omega)]
        rfl
    · have hfi : ∀ f, o = some f → f ≤ i := by
        intro f h
        obtain ⟨s, h1, h2, rfl⟩ := hf f h
        exact starts_apart h1 hs h2
      have hlen : (nextU l out o i).length ≤ 400 := by
        cases o with
        | none => exact ho
        | some f => exact addU_len l out f i ho
      have ih := spec_units_loop hb hl d (i + 1) (nextU l out o i) (some (i + 3)) (by omega) hlen (fun f h => ⟨i, hs, by omega, by injection h with h; exact h.symm⟩)
      rw [starts, hs, if_pos rfl]
      have e : specU l out o (i :: starts l (d + 1) (i + 1)) = specU l (nextU l out o i) (some (i + 3)) (starts l (d + 1) (i + 1)) := by
        cases o with
        | none => rfl
        | some f => rfl
      rw [e]
      refine Ev.step (f := fun k => spec_UnitsIn.j2 k (strOfNums l) out (fromI o) (i : Int) false) (fun k => ?_) (spec_cut hb hl ho (by omega) hfi ih)
      simp only [spec_UnitsIn.j1, if_true]
theorem spec_units_ev {l : List Int} (hb : Bys l) (hl : l.length ≤ 60000) : Ev (fun k => spec_UnitsIn.f k (strOfNums l)) (allU l (starts l (l.length + 1) 0)) := by
  have h := spec_units_loop hb hl l.length 0 [] none (by omega) (Nat.zero_le _) (fun f h => by cases h)
  have e : specU l [] none (starts l (l.length + 1) 0) = allU l (starts l (l.length + 1) 0) := by
    cases starts l (l.length + 1) 0 <;> rfl
  rw [e] at h
  unfold spec_UnitsIn.f
  simp only [Option.bind_some, str_size, if_neg (show ¬ (l.length : Int) > 60000 by omega)]
  exact h
theorem starts_nil {l : List Int} : ∀ (d i : Nat), ¬ i + 2 < l.length → starts l d i = []
  | 0, _, _ => rfl
  | d + 1, i, h => by
    rw [starts, start_last h, if_neg (by decide), starts_nil d (i + 1) (by omega)]
theorem three {l : List Int} {i : Nat} (h : i + 2 < l.length) : (l.take (i + 3)).drop i = [l.getD i 0, l.getD (i + 1) 0, l.getD (i + 2) 0] := by
  rw [List.drop_take, show i + 3 - i = 3 by omega, List.drop_eq_getElem_cons (by omega), List.drop_eq_getElem_cons (by omega), List.drop_eq_getElem_cons (by omega), List.getD_eq_getElem?_getD, List.getD_eq_getElem?_getD, List.getD_eq_getElem?_getD, List.getElem?_eq_getElem (by omega), List.getElem?_eq_getElem (by omega), List.getElem?_eq_getElem (by omega)]
  rfl
theorem start_text {l : List Int} (hb : Bys l) {i : Nat} (h : i + 2 < l.length) : ((strOfNums l).extract i (i + 3)).toList = ([0, 0, 1] : List UInt8) ↔ isStart l i = true := by
  have e : ([0, 0, 1] : List UInt8) = (strOfNums [0, 0, 1]).toList := by
    rw [str_toList]
    rfl
  rw [e, str_extract, str_toList_inj ((hb.take _).drop _) (Bys.cons (by decide) (by decide) (Bys.cons (by decide) (by decide) (Bys.cons (by decide) (by decide) Bys.nil))), three h]
  unfold isStart
  rw [decide_eq_true h]
  simp
theorem places_loop {l : List Int} (hb : Bys l) (hl : l.length ≤ 60000) : ∀ (d i : Nat) (acc : List Int), i + d = l.length + 1 → acc.length ≤ i → Ev (fun k => impl_places.l0 k (strOfNums l) acc (i : Int)) (acc ++ (starts l d i).map fun n : Nat => (n : Int))
  | d, i, acc, hi, ha => by
    by_cases h : i + 2 < l.length
    · obtain ⟨d, rfl⟩ : ∃ e, d = e + 1 := ⟨d - 1, by omega⟩
      have w3 : wrap64 ((i : Int) + 3) = ((i + 3 : Nat) : Int) := by rw [w64 (by omega) (by omega)]; rfl
      have w1 : wrap64 ((i : Int) + 1) = ((i + 1 : Nat) : Int) := by rw [w64 (by omega) (by omega)]; rfl
      have hst := start_text hb h
      rw [starts]
      cases hs : isStart l i
      · rw [hs] at hst
        have ih := places_loop hb hl d (i + 1) acc (by omega) (by omega)
        rw [if_neg (by decide)]
        refine Ev.step (fun k => ?_) ih
        simp only [impl_places.l0, str_size, w3, w1, Int.toNat_natCast]
        rw [if_pos (by omega), if_pos (by omega), if_pos (by omega), if_neg (fun hc => absurd (hst.1 hc) (by decide))]
      · have ih := places_loop hb hl d (i + 1) (acc ++ [(i : Int)]) (by omega) (by simp; omega)
        rw [if_pos rfl, List.map_cons]
        rw [List.append_assoc, List.singleton_append] at ih
        refine Ev.step (fun k => ?_) ih
        simp only [impl_places.l0, str_size, w3, w1, Int.toNat_natCast]
        rw [if_pos (by omega), if_pos (by omega), if_pos (by omega), if_pos (hst.2 hs), if_pos (by omega)]
    · rw [starts_nil d i h, List.map_nil, List.append_nil]
      refine Ev.step (f := fun _ => some acc) (fun k => ?_) (Ev.now _)
      simp only [impl_places.l0, str_size]
      rw [w64 (by omega) (by omega), if_neg (by omega)]
  termination_by d => d
theorem starts_len (l : List Int) : ∀ (d i : Nat), (starts l d i).length ≤ d
  | 0, _ => Nat.le_refl _
  | d + 1, i => by
    have := starts_len l d (i + 1)
    rw [starts]
    split
    · rw [List.length_cons]; omega
    · omega
theorem starts_in (l : List Int) : ∀ (d i : Nat), ∀ p, p ∈ starts l d i → i ≤ p ∧ isStart l p = true
  | 0, _, p, h => by cases h
  | d + 1, i, p, h => by
    rw [starts] at h
    split at h
    · rename_i hs
      rcases List.mem_cons.1 h with rfl | h
      · exact ⟨Nat.le_refl _, hs⟩
      · have := starts_in l d (i + 1) p h
        exact ⟨by omega, this.2⟩
    · have := starts_in l d (i + 1) p h
      exact ⟨by omega, this.2⟩
/-- The places a unit ends at. -/
def Run (l : List Int) : Nat → List Nat → Prop
  | f, [] => f + 3 ≤ l.length
  | f, p :: P => f + 3 ≤ p ∧ Run l p P
theorem starts_run {l : List Int} : ∀ (d i s : Nat), isStart l s = true → s < i → Run l s (starts l d i)
  | 0, i, s, hs, hi => by
    unfold isStart at hs
    rw [Bool.and_eq_true] at hs
    have := of_decide_eq_true hs.1
    simp only [starts, Run]
    omega
  | d + 1, i, s, hs, hi => by
    rw [starts]
    cases h : isStart l i
    · rw [if_neg (by decide)]
      exact starts_run d (i + 1) s hs (by omega)
    · rw [if_pos rfl]
      exact ⟨starts_apart hs h hi, starts_run d (i + 1) i h (by omega)⟩
theorem Run.le {l : List Int} : ∀ (P : List Nat) (f : Nat), Run l f P → f + 3 ≤ l.length
  | [], _, h => h
  | p :: P, f, h => by
    have := Run.le P p h.2
    have := h.1
    omega
/-- The program's strip and what follows. -/
theorem impl_strip_ev {l : List Int} (hb : Bys l) (hl : l.length ≤ 60000) {out : List ByteArray} (ho : out.length < 400) {ps : List Int} {x : Int} {f : Nat} (hx0 : 0 ≤ x) (hx : x < (ps.length : Int)) (hps : ps.length ≤ 70000) (hrd : rd ps x = (f : Int)) {R : List ByteArray} : ∀ q : Nat, f + 3 ≤ q → q ≤ l.length →
    Ev (fun k => impl_UnitsIn.l0 k (strOfNums l) (addU l out (f + 3) q) ps (wrap64 (x + 1))) R → Ev (fun k => impl_UnitsIn.l1 k (strOfNums l) out ps x (q : Int)) R
  | q, hf, hq, h => by
    have w3 : wrap64 ((f : Int) + 3) = ((f + 3 : Nat) : Int) := by rw [w64 (by omega) (by omega)]; rfl
    by_cases hc : f + 3 < q ∧ l.getD (q - 1) 0 = 0
    · obtain ⟨q, rfl⟩ : ∃ e, q = e + 1 := ⟨q - 1, by omega⟩
      rw [Nat.add_sub_cancel] at hc
      have hst : strip l (f + 3) (q + 1) = strip l (f + 3) q := by rw [strip, if_pos hc]
      have hs : addU l out (f + 3) (q + 1) = addU l out (f + 3) q := by
        unfold addU seg
        rw [hst]
      rw [hs] at h
      have ih := impl_strip_ev hb hl ho hx0 hx hps hrd q (by omega) (by omega) h
      refine Ev.step (fun k => ?_) ih
      simp only [impl_UnitsIn.l1, str_size, hrd, w3]
      rw [if_pos hx0, if_pos hx, if_pos (by omega), w64 (x := ((q + 1 : Nat) : Int) - 1) (by omega) (by omega), show ((q + 1 : Nat) : Int) - 1 = (q : Int) by omega, if_pos (by omega), if_pos (by omega), bt_get hb rfl, if_pos hc.2]
    · have hs : strip l (f + 3) q = q := by
        cases q with
        | zero => rfl
        | succ q =>
          rw [Nat.add_sub_cancel] at hc
          rw [strip, if_neg hc]
      have he : (strOfNums l).extract (f + 3) q = strOfNums (seg l (f + 3) q) := by
        rw [str_extract]
        unfold seg
        rw [hs]
      have hu := impl_une_ev (seg_bys hb (f + 3) q) (by have := seg_len (l := l) (f + 3) q; omega)
      have tail : ∀ k, impl_UnitsIn.l1 (k + 1) (strOfNums l) out ps x (q : Int) = (impl_Unescaped.f k (strOfNums (seg l (f + 3) q))).bind fun b => (if b.2 = true then (if out.length < 8796093022208 then (impl_UnitsIn.l0 k (strOfNums l) (out ++ [b.1]) ps (wrap64 (x + 1))) else (none)) else (impl_UnitsIn.l0 k (strOfNums l) out ps (wrap64 (x + 1)))) := by
        intro k
        simp only [impl_UnitsIn.l1, str_size, hrd, w3]
        rw [if_pos hx0, if_pos hx]
        by_cases hgt : f + 3 < q
        · rw [if_pos (show (q : Int) > ((f + 3 : Nat) : Int) by omega), w64 (x := (q : Int) - 1) (by omega) (by omega), if_pos (by omega), if_pos (by omega), bt_get hb (n := q - 1) (by omega), if_neg (fun h0 => hc ⟨hgt, h0⟩), if_pos (by omega), if_pos (by omega), if_pos (by omega), Int.toNat_natCast, Int.toNat_natCast, he]
        · rw [if_neg (show ¬ (q : Int) > ((f + 3 : Nat) : Int) by omega), if_pos (by omega), if_pos (by omega), if_pos (by omega), Int.toNat_natCast, Int.toNat_natCast, he]
      refine Ev.step tail (Ev.bind hu ?_)
      unfold addU at h
      by_cases hok : (uneRes (seg l (f + 3) q) (une 0 (seg l (f + 3) q))).2 = true
      · rw [if_pos hok, if_pos ho] at h
        simp only [if_pos hok, if_pos (show out.length < 8796093022208 by omega)]
        exact h
      · rw [if_neg hok] at h
        simp only [if_neg hok]
        exact h
theorem impl_end (s : ByteArray) (out : List ByteArray) (ps : List Int) (x : Int) : Ev (fun k => impl_UnitsIn.j1 k s out ps x false) out := by
  refine Ev.step (f := fun _ => some out) (fun k => ?_) (Ev.now _)
  simp only [impl_UnitsIn.j1, Bool.false_eq_true, if_false]
theorem impl_units_loop {l : List Int} (hb : Bys l) (hl : l.length ≤ 60000) : ∀ (P : List Nat) (pre : List Int) (p : Nat) (out : List ByteArray), (pre ++ (p : Int) :: ((P.map fun n : Nat => (n : Int)) ++ [(l.length : Int)])).length ≤ 70000 → Run l p P → out.length ≤ 400 →
    Ev (fun k => impl_UnitsIn.l0 k (strOfNums l) out (pre ++ (p : Int) :: ((P.map fun n : Nat => (n : Int)) ++ [(l.length : Int)])) (pre.length : Int)) (runU l out (p + 3) P)
  | P, pre, p, out, hn, hr, ho => by
    have hlen : (pre ++ (p : Int) :: ((P.map fun n : Nat => (n : Int)) ++ [(l.length : Int)])).length = pre.length + (P.length + 1 + 1) := by simp
    have hw : wrap64 ((pre.length : Int) + 1) = ((pre.length + 1 : Nat) : Int) := by rw [w64 (by omega) (by omega)]; rfl
    by_cases h4 : out.length < 400
    · have go : ∀ (q : Nat) {R : List ByteArray}, rd (pre ++ (p : Int) :: ((P.map fun n : Nat => (n : Int)) ++ [(l.length : Int)])) ((pre.length + 1 : Nat) : Int) = (q : Int) → p + 3 ≤ q → q ≤ l.length → Ev (fun k => impl_UnitsIn.l0 k (strOfNums l) (addU l out (p + 3) q) (pre ++ (p : Int) :: ((P.map fun n : Nat => (n : Int)) ++ [(l.length : Int)])) ((pre.length + 1 : Nat) : Int)) R → Ev (fun k => impl_UnitsIn.l0 k (strOfNums l) out (pre ++ (p : Int) :: ((P.map fun n : Nat => (n : Int)) ++ [(l.length : Int)])) (pre.length : Int)) R := by
        intro q R hq h1 h2 h
        rw [← hw] at h
        have h3 := impl_strip_ev hb hl h4 (x := (pre.length : Int)) (f := p) (by omega) (by omega) hn (rd_mid pre _ (p : Int)) q h1 h2 h
        refine Ev.step (f := fun k => impl_UnitsIn.j1 k (strOfNums l) out (pre ++ (p : Int) :: ((P.map fun n : Nat => (n : Int)) ++ [(l.length : Int)])) (pre.length : Int) true) (fun k => ?_) (Ev.step (fun k => ?_) h3)
        · simp only [impl_UnitsIn.l0, hw]
          rw [if_pos (by omega), decide_eq_true (show (out.length : Int) < 400 by omega)]
        · simp only [impl_UnitsIn.j1, hw, if_true]
          rw [if_pos (by omega), if_pos (by omega), hq]
      cases P with
      | nil =>
        have hq : rd (pre ++ (p : Int) :: ((([] : List Nat).map fun n : Nat => (n : Int)) ++ [(l.length : Int)])) ((pre.length + 1 : Nat) : Int) = (l.length : Int) := by
          have := rd_mid (pre ++ [(p : Int)]) [] (l.length : Int)
          rw [← snoc_cons, List.length_append, List.length_singleton] at this
          exact this
        refine go l.length hq hr (Nat.le_refl _) ?_
        rw [runU]
        refine Ev.step (f := fun k => impl_UnitsIn.j1 k (strOfNums l) (addU l out (p + 3) l.length) (pre ++ (p : Int) :: ((([] : List Nat).map fun n : Nat => (n : Int)) ++ [(l.length : Int)])) ((pre.length + 1 : Nat) : Int) false) (fun k => ?_) (impl_end _ _ _ _)
        simp only [impl_UnitsIn.l0]
        rw [w64 (by omega) (by omega), if_neg (by rw [hlen]; simp only [List.length_nil]; omega)]
      | cons q P =>
        have hq : rd (pre ++ (p : Int) :: (((q :: P).map fun n : Nat => (n : Int)) ++ [(l.length : Int)])) ((pre.length + 1 : Nat) : Int) = (q : Int) := by
          have := rd_mid (pre ++ [(p : Int)]) ((P.map fun n : Nat => (n : Int)) ++ [(l.length : Int)]) (q : Int)
          rw [← snoc_cons, List.length_append, List.length_singleton] at this
          exact this
        have hle := Run.le P q hr.2
        refine go q hq hr.1 (by omega) ?_
        have ih := impl_units_loop hb hl P (pre ++ [(p : Int)]) q (addU l out (p + 3) q) (by rw [← snoc_cons]; exact hn) hr.2 (addU_len l out _ _ ho)
        rw [← snoc_cons, List.length_append, List.length_singleton] at ih
        exact ih
    · rw [runU_full l out h4]
      refine Ev.step (f := fun k => impl_UnitsIn.j1 k (strOfNums l) out (pre ++ (p : Int) :: ((P.map fun n : Nat => (n : Int)) ++ [(l.length : Int)])) (pre.length : Int) false) (fun k => ?_) (impl_end _ _ _ _)
      simp only [impl_UnitsIn.l0, hw]
      rw [if_pos (by omega), decide_eq_false (by omega)]
theorem impl_units_ev {l : List Int} (hb : Bys l) (hl : l.length ≤ 60000) : Ev (fun k => impl_UnitsIn.f k (strOfNums l)) (allU l (starts l (l.length + 1) 0)) := by
  have hp := places_loop hb hl (l.length + 1) 0 [] (by omega) (Nat.le_refl _)
  have hsl := starts_len l (l.length + 1) 0
  unfold impl_UnitsIn.f impl_places.f
  simp only [Option.bind_some, str_size, if_neg (show ¬ (l.length : Int) > 60000 by omega)]
  refine Ev.bind hp ?_
  rw [List.nil_append]
  have hm : ((starts l (l.length + 1) 0).map fun n : Nat => (n : Int)).length = (starts l (l.length + 1) 0).length := List.length_map _
  simp only [hm, if_pos (show (starts l (l.length + 1) 0).length < 17592186044416 by omega)]
  have hin := starts_in l (l.length + 1) 0
  have hrun : ∀ p P, starts l (l.length + 1) 0 = p :: P → Run l p P := by
    have gen : ∀ d i p P, starts l d i = p :: P → Run l p P := by
      intro d
      induction d with
      | zero => intro i p P h; cases h
      | succ d ih =>
        intro i p P h
        rw [starts] at h
        split at h
        · rename_i hs
          injection h with h1 h2
          subst h1 h2
          exact starts_run d (i + 1) i hs (by omega)
        · exact ih (i + 1) p P h
    exact gen (l.length + 1) 0
  generalize starts l (l.length + 1) 0 = S at hsl hrun hm
  cases S with
  | nil =>
    refine Ev.step (f := fun k => impl_UnitsIn.j1 k (strOfNums l) [] [(l.length : Int)] 0 false) (fun k => ?_) (impl_end _ _ _ _)
    simp only [impl_UnitsIn.l0, List.map_nil, List.nil_append, List.length_singleton]
    rw [w64 (by decide) (by decide), if_neg (by decide)]
  | cons p P =>
    have := impl_units_loop hb hl P [] p [] (by simp at hsl ⊢; omega) (hrun p P rfl) (Nat.zero_le _)
    exact this
theorem FnExactUnitsIn : laws_FnExactUnitsIn.Pure := by
  intro a _
  obtain ⟨l, hb, rfl⟩ := nums_of a
  by_cases hbig : ((strOfNums l).size : Int) > 1048576
  · exact ⟨0, by unfold laws_FnExactUnitsIn.f; rw [if_pos hbig]⟩
  · refine Ev.rounds ?_
    unfold laws_FnExactUnitsIn.f
    simp only [if_neg hbig]
    have main : ∃ U : List ByteArray, U.length ≤ 400 ∧ Ev (fun k => spec_UnitsIn.f k (strOfNums l)) U ∧ Ev (fun k => impl_UnitsIn.f k (strOfNums l)) U := by
      by_cases h6 : l.length ≤ 60000
      · exact ⟨_, allU_len l _, spec_units_ev hb h6, impl_units_ev hb h6⟩
      · refine ⟨[], Nat.zero_le _, ?_, ?_⟩
        · unfold spec_UnitsIn.f
          simp only [Option.bind_some, str_size, if_pos (show (l.length : Int) > 60000 by omega)]
          exact Ev.now _
        · unfold impl_UnitsIn.f
          simp only [Option.bind_some, str_size, if_pos (show (l.length : Int) > 60000 by omega)]
          exact Ev.now _
    obtain ⟨U, hU, h1, h2⟩ := main
    have he := eqStrings_ev (l := U) (by omega)
    have hm := markStrings_ev (l := U) (n := 1) (by omega) (by omega)
    have hh := heldStrings_ev (d := U.length) (n := 1) (by omega) (by omega)
    refine Ev.bind h1 (Ev.bind h2 (Ev.bind he ?_))
    simp only [if_true]
    refine Ev.bind hm (Ev.bind hh ?_)
    simp only [if_neg (show ¬ (((1 + U.length : Nat) : Int) < 0) by omega), if_true]
    refine Ev.bind h2 (Ev.bind he ?_)
    simp only [if_true]
    refine Ev.bind hh ?_
    simp only [if_neg (show ¬ (((1 + U.length : Nat) : Int) < 0) by omega), if_true]
    exact Ev.now _

end Go.Proofs.Ytheafkkpapnmdaa.Pure
