/- The program's ParRow returns what the reference's returns, for every par. -/
import Derived.Test.YtibnnodjockcbaaQFnExactParRowx2
import Derived.Test.YtibnnodjockcbaaStmtFnExactParRow
set_option linter.unusedVariables false
set_option linter.unusedSimpArgs false
namespace Go.Proofs.Ytibnnodjockcbaa.Pure
open Go.RowKit Go.Proofs.Ytibnnodjockcbaa.QFnExactParRow Go.Proofs.YtibnnodjockcbaaW.PrintWords Go.Proofs.YtibnnodjockcbaaW.PrintLast Go.Proofs.YtibnnodjockcbaaW.PrintMore

/-! ### Bytes as lists of numbers, and some plain facts -/
theorem w64 {x : Int} (h0 : -9223372036854775808 ≤ x) (h1 : x ≤ 9223372036854775807) : wrap64 x = x := by
  unfold wrap64
  omega
theorem i64_bounds {x : Int} (h : (Lit.int .i64 x).wf = true) : -9223372036854775808 ≤ x ∧ x ≤ 9223372036854775807 := by
  have e := h
  simp [Lit.wf, IntKind.min, IntKind.max, IntKind.signed, IntKind.bits] at e
  omega
/-- All numbers of the list are bytes. -/
def Bys (l : List Int) : Prop := ∀ x, x ∈ l → 0 ≤ x ∧ x < 256
theorem Bys.nil : Bys [] := fun _ h => by cases h
theorem Bys.cons {x : Int} {l : List Int} (h0 : 0 ≤ x) (h1 : x < 256) (h : Bys l) : Bys (x :: l) := fun y hy => by
  rcases List.mem_cons.1 hy with rfl | hy
  · exact ⟨h0, h1⟩
  · exact h y hy
theorem Bys.append {l m : List Int} (h : Bys l) (h' : Bys m) : Bys (l ++ m) := fun y hy => by
  rcases List.mem_append.1 hy with hy | hy
  · exact h y hy
  · exact h' y hy
theorem Bys.left {l m : List Int} (h : Bys (l ++ m)) : Bys l := fun y hy => h y (List.mem_append_left _ hy)
theorem Bys.right {l m : List Int} (h : Bys (l ++ m)) : Bys m := fun y hy => h y (List.mem_append_right _ hy)
theorem Bys.take {l : List Int} (h : Bys l) (n : Nat) : Bys (l.take n) := fun y hy => h y (List.mem_of_mem_take hy)
theorem Bys.drop {l : List Int} (h : Bys l) (n : Nat) : Bys (l.drop n) := fun y hy => h y (List.mem_of_mem_drop hy)
theorem Bys.getD {l : List Int} (h : Bys l) (i : Nat) : 0 ≤ l.getD i 0 ∧ l.getD i 0 < 256 := by
  rw [List.getD_eq_getElem?_getD]
  by_cases hi : i < l.length
  · rw [List.getElem?_eq_getElem hi]
    exact h _ (List.getElem_mem hi)
  · rw [List.getElem?_eq_none (by omega)]
    exact ⟨by decide, by decide⟩
theorem nums_of (a : ByteArray) : ∃ l, Bys l ∧ a = strOfNums l := by
  refine ⟨a.data.toList.map fun u => (u.toNat : Int), ?_, ?_⟩
  · intro x hx
    obtain ⟨u, _, rfl⟩ := List.mem_map.1 hx
    have := u.toNat_lt
    omega
  · unfold strOfNums
    rw [List.map_map]
    have e : ((fun n : Int => UInt8.ofNat n.toNat) ∘ fun u : UInt8 => (u.toNat : Int)) = id := by
      funext u
      simp
    rw [e, List.map_id]
theorem str_size (l : List Int) : (strOfNums l).size = l.length := strOfNums_size l
theorem bt_str {l : List Int} (h : Bys l) (i : Int) : bt (strOfNums l) i = l.getD i.toNat 0 := by
  unfold bt
  rw [List.getD_eq_getElem?_getD]
  split
  · rename_i hi
    have hi' : i.toNat < l.length := by rw [← str_size]; exact hi
    rw [List.getElem?_eq_getElem hi']
    have hb := h _ (List.getElem_mem hi')
    have e : (strOfNums l)[i.toNat]'hi = UInt8.ofNat (l[i.toNat]).toNat := by
      simp [strOfNums, ByteArray.getElem_eq_getElem_data]
    rw [e, UInt8.toNat_ofNat']
    simp only [Option.getD_some]
    omega
  · rename_i hi
    rw [List.getElem?_eq_none (by rw [← str_size]; omega)]
    rfl
theorem bt_get {l : List Int} (h : Bys l) {i : Int} {n : Nat} (hi : i = (n : Int)) : bt (strOfNums l) i = l.getD n 0 := by
  rw [bt_str h, hi, Int.toNat_natCast]
theorem str_append (l m : List Int) : strOfNums l ++ strOfNums m = strOfNums (l ++ m) := by
  apply ByteArray.ext
  rw [ByteArray.data_append]
  unfold strOfNums
  simp
theorem str_empty : (⟨#[]⟩ : ByteArray) = strOfNums [] := rfl
theorem str_inj {l m : List Int} (hl : Bys l) (hm : Bys m) (h : strOfNums l = strOfNums m) : l = m := by
  have hs : l.length = m.length := by rw [← str_size l, ← str_size m, h]
  apply List.ext_getElem hs
  intro i h1 h2
  have e1 := bt_get hl (i := (i : Int)) rfl
  have e2 := bt_get hm (i := (i : Int)) rfl
  rw [h, e2] at e1
  simp [List.getD_eq_getElem?_getD, h1, h2] at e1
  exact e1.symm
theorem str_extract (l : List Int) (i j : Nat) : (strOfNums l).extract i j = strOfNums ((l.take j).drop i) := by
  apply ByteArray.ext
  rw [ByteArray.data_extract]
  unfold strOfNums
  apply Array.ext'
  simp [List.extract_eq_take_drop, List.drop_take, List.map_drop, List.map_take]
theorem getD_mid (pre suf : List Int) (x : Int) : (pre ++ x :: suf).getD pre.length 0 = x := by
  rw [List.getD_eq_getElem?_getD, List.getElem?_append_right (Nat.le_refl _)]
  simp
theorem bt_mid {pre suf : List Int} {x : Int} (h : Bys (pre ++ x :: suf)) : bt (strOfNums (pre ++ x :: suf)) (pre.length : Int) = x := by
  rw [bt_get h rfl, getD_mid]
theorem rd_mid (pre suf : List Int) (x : Int) : rd (pre ++ x :: suf) (pre.length : Int) = x := by
  unfold rd
  rw [Int.toNat_natCast, getD_mid]
theorem snoc_cons (pre suf : List Int) (x : Int) : pre ++ x :: suf = (pre ++ [x]) ++ suf := by simp
theorem next_len (pre : List Int) (x : Int) (h : pre.length < 4611686018427387904) : wrap64 ((pre.length : Int) + 1) = ((pre ++ [x]).length : Int) := by
  rw [w64 (by omega) (by omega)]
  simp
theorem lt_mid (pre suf : List Int) (x : Int) : (pre.length : Int) < ((strOfNums (pre ++ x :: suf)).size : Int) := by
  rw [str_size]
  simp
  omega
theorem ge_end (pre : List Int) : ¬ ((pre.length : Int) < ((strOfNums pre).size : Int)) := by
  rw [str_size]
  omega
theorem mid_byte {pre suf : List Int} {x : Int} (h : Bys (pre ++ x :: suf)) : 0 ≤ x ∧ x < 256 := h x (by simp)
/-- The signs of a number, so many. -/
def sg : Nat → Int → List Int
  | 0, _ => []
  | w + 1, n => sg w (n / 2) ++ [48 + n % 2]
theorem sg_len : ∀ (w : Nat) (n : Int), (sg w n).length = w
  | 0, _ => rfl
  | w + 1, n => by simp [sg, sg_len w]
theorem sg_row : ∀ (w : Nat) (n : Int), ∀ x, x ∈ sg w n → x = 48 ∨ x = 49
  | 0, _ => fun _ h => by cases h
  | w + 1, n => fun x hx => by
    rcases List.mem_append.1 hx with h | h
    · exact sg_row w _ x h
    · have : x = 48 + n % 2 := by simpa using h
      omega
theorem sg_bys (w : Nat) (n : Int) : Bys (sg w n) := fun x hx => by
  rcases sg_row w n x hx with h | h <;> omega
theorem set_rep (j : Nat) (v : Int) (tl : List Int) : (List.replicate (j + 1) (0 : Int) ++ tl).set j v = List.replicate j 0 ++ v :: tl := by
  rw [List.replicate_succ', List.append_assoc, List.set_append_right _ _ (by simp)]
  simp
/-- ParOk. -/
def parOkV (q : Int) (a b c : Bool) : Bool := decide (0 ≤ q ∧ q ≤ 40) && !(a && b)
theorem exact_sb {g h : Nat → Option (ByteArray × Bool)} {v : ByteArray × Bool} (hg : Ev g v) (hh : Ev h v) :
    Ev (fun k => (g k).bind fun b1 => (h k).bind fun b2 => if b2.1.toList = b1.1.toList then (if (b2.2 != b1.2) = true then some false else some true) else some false) true := by
  refine Ev.bind hg (Ev.bind hh ?_)
  simp only [if_true, bne_self_eq_false, Bool.false_eq_true, if_false]
  exact Ev.now _
theorem exact_i {g h : Nat → Option Int} {v : Int} (hg : Ev g v) (hh : Ev h v) :
    Ev (fun k => (g k).bind fun b1 => (h k).bind fun b2 => if b2 = b1 then some true else some false) true := by
  refine Ev.bind hg (Ev.bind hh ?_)
  simp only [if_true]
  exact Ev.now _
theorem exact_s {g h : Nat → Option ByteArray} {v : ByteArray} (hg : Ev g v) (hh : Ev h v) :
    Ev (fun k => (g k).bind fun b1 => (h k).bind fun b2 => if b2.toList = b1.toList then some true else some false) true := by
  refine Ev.bind hg (Ev.bind hh ?_)
  simp only [if_true]
  exact Ev.now _
theorem exact_ib {g h : Nat → Option (Int × Bool)} {v : Int × Bool} (hg : Ev g v) (hh : Ev h v) :
    Ev (fun k => (g k).bind fun b1 => (h k).bind fun b2 => if b2.1 = b1.1 then (if (b2.2 != b1.2) = true then some false else some true) else some false) true := by
  refine Ev.bind hg (Ev.bind hh ?_)
  simp only [if_true, bne_self_eq_false, Bool.false_eq_true, if_false]
  exact Ev.now _
theorem exact_iib {g h : Nat → Option (Int × Int × Bool)} {v : Int × Int × Bool} (hg : Ev g v) (hh : Ev h v) :
    Ev (fun k => (g k).bind fun b1 => (h k).bind fun b2 => if b2.1 = b1.1 then (if b2.2.1 = b1.2.1 then (if (b2.2.2 != b1.2.2) = true then some false else some true) else some false) else some false) true := by
  refine Ev.bind hg (Ev.bind hh ?_)
  simp only [if_true, bne_self_eq_false, Bool.false_eq_true, if_false]
  exact Ev.now _
theorem exact_b {g h : Nat → Option Bool} {v : Bool} (hg : Ev g v) (hh : Ev h v) :
    Ev (fun k => (g k).bind fun b1 => (h k).bind fun b2 => if (b2 != b1) = true then some false else some true) true := by
  refine Ev.bind hg (Ev.bind hh ?_)
  simp only [bne_self_eq_false, Bool.false_eq_true, if_false]
  exact Ev.now _
theorem ev_now {α : Type} {g : Nat → Option α} {v : α} (h : ∀ k, g k = some v) : Ev g v := Ev.congr h (Ev.now v)
def flag (b : Bool) : List Int := if b = true then [49] else [48]
def parL (q : Int) (x y z : Bool) : List Int := sg 6 q ++ flag x ++ flag y ++ flag z
theorem flag_len (b : Bool) : (flag b).length = 1 := by cases b <;> rfl
theorem parOk_range {q : Int} {x y : Bool} {z : Bool} (h : parOkV q x y z = true) : 0 ≤ q ∧ q ≤ 40 := by
  unfold parOkV at h
  rw [Bool.and_eq_true] at h
  exact of_decide_eq_true h.1
theorem fix_loop : ∀ (j : Nat) (n : Int) (tl : List Int), 0 ≤ n → n < 4611686018427387904 → j ≤ 1000000 →
    Ev (fun k => spec_l02Fix.l0 k n (List.replicate j 0 ++ tl) ((j : Int) - 1)) (strOfNums (sg j n ++ tl))
  | 0, n, tl, h0, h1, hj => by
    refine Ev.step (f := fun _ => some (strOfNums tl)) (fun k => ?_) (by simp only [sg, List.nil_append]; exact Ev.now _)
    simp only [spec_l02Fix.l0, List.replicate_zero, List.nil_append]
    rw [if_neg (by omega)]
  | j + 1, n, tl, h0, h1, hj => by
    have ih := fix_loop j (n / 2) ((48 + n % 2) :: tl) (by omega) (by omega) (by omega)
    have e : sg (j + 1) n ++ tl = sg j (n / 2) ++ (48 + n % 2) :: tl := by simp [sg]
    rw [e]
    refine Ev.step (fun k => ?_) ih
    simp only [spec_l02Fix.l0]
    rw [if_pos (by omega), if_pos (by omega), if_pos (by simp; omega), Int.tmod_eq_emod_of_nonneg h0, Int.tdiv_eq_ediv_of_nonneg h0, w64 (x := 48 + n % 2) (by omega) (by omega)]
    rw [Int.emod_eq_of_lt (a := 48 + n % 2) (by omega) (by omega), show (((j + 1 : Nat) : Int) - 1).toNat = j by omega, set_rep]
    rw [w64 (x := n / 2) (by omega) (by omega), w64 (by omega) (by omega), show ((j + 1 : Nat) : Int) - 1 - 1 = (j : Int) - 1 by omega]
theorem fix_ev (n : Int) (w : Nat) (h0 : 0 ≤ n) (h1 : n < 4611686018427387904) (hw : w ≤ 1000000) : Ev (fun k => spec_l02Fix.f k n (w : Int)) (strOfNums (sg w n)) := by
  have h := fix_loop w n [] h0 h1 hw
  rw [List.append_nil, List.append_nil] at h
  refine Ev.congr (fun k => ?_) h
  unfold spec_l02Fix.f
  rw [if_pos (by omega), if_pos (by omega), Int.toNat_natCast, w64 (by omega) (by omega)]
theorem in_yes {x lo hi : Int} (h0 : lo ≤ x) (h1 : x ≤ hi) : spec_l01In.f x lo hi = some true := by
  unfold spec_l01In.f
  rw [if_pos h0, decide_eq_true h1]
theorem in_no {x lo hi : Int} (h : ¬ (lo ≤ x ∧ x ≤ hi)) : spec_l01In.f x lo hi = some false := by
  unfold spec_l01In.f
  by_cases h0 : lo ≤ x
  · rw [if_pos h0, decide_eq_false (fun h1 => h ⟨h0, h1⟩)]
  · rw [if_neg h0]
theorem in_any (x lo hi : Int) : spec_l01In.f x lo hi = some (decide (lo ≤ x ∧ x ≤ hi)) := by
  by_cases h : lo ≤ x ∧ x ≤ hi
  · rw [in_yes h.1 h.2, decide_eq_true h]
  · rw [in_no h, decide_eq_false h]
theorem spec_parok (q : Int) (a b c : Bool) : spec_ParOk.f q a b c = some (parOkV q a b c) := by
  unfold spec_ParOk.f parOkV
  rw [in_any]
  simp only [Option.bind_some]
  cases decide (0 ≤ q ∧ q ≤ 40) <;> cases a <;> cases b <;> rfl
theorem spec_flag_val (b : Bool) : spec_l05Flag.f b = some (strOfNums (flag b)) := by cases b <;> rfl
theorem spec_parrow_ev (q : Int) (x y z : Bool) : Ev (fun k => spec_ParRow.f k q x y z) (if parOkV q x y z = true then (strOfNums (parL q x y z), true) else (strOfNums [], false)) := by
  unfold spec_ParRow.f spec_l05Par.f
  simp only [spec_parok, Option.bind_some]
  by_cases h : parOkV q x y z = true
  · have hq := parOk_range h
    simp only [h, if_true]
    refine Ev.bind (Ev.bind (fix_ev q 6 hq.1 (by omega) (by decide)) ?_) (a := strOfNums (parL q x y z)) (Ev.now _)
    simp only [spec_flag_val, Option.bind_some, str_size, sg_len, flag_len, str_append, List.length_append]
    exact Ev.now _
  · simp only [if_neg h]
    exact Ev.now _
theorem and1_val (n : Int) (h0 : 0 ≤ n) (h1 : n < 4611686018427387904) : Go.bits .and .i64 n 1 = n % 2 := by
  have h := Go.bits_mask .i64 62 (by decide) (fun m hm0 hm1 => by rw [Go.IntKind.wrap_i64]; omega) 1 (by decide) n h0 (by omega)
  simpa using h
theorem signs_loop : ∀ (j : Nat) (n : Int) (tl : List Int), 0 ≤ n → n < 4611686018427387904 → j ≤ 1000000 →
    Ev (fun k => impl_signs.l0 k n (List.replicate j 0 ++ tl) ((j : Int) - 1)) (strOfNums (sg j n ++ tl))
  | 0, n, tl, h0, h1, hj => by
    refine Ev.step (f := fun _ => some (strOfNums tl)) (fun k => ?_) (by simp only [sg, List.nil_append]; exact Ev.now _)
    simp only [impl_signs.l0, List.replicate_zero, List.nil_append]
    rw [if_neg (by omega)]
  | j + 1, n, tl, h0, h1, hj => by
    have ih := signs_loop j (n / 2) ((48 + n % 2) :: tl) (by omega) (by omega) (by omega)
    have e : sg (j + 1) n ++ tl = sg j (n / 2) ++ (48 + n % 2) :: tl := by simp [sg]
    rw [e]
    refine Ev.step (fun k => ?_) ih
    simp only [impl_signs.l0]
    rw [if_pos (by omega), if_pos (by omega), if_pos (by simp; omega), and1_val n h0 h1, w64 (x := 48 + n % 2) (by omega) (by omega)]
    rw [Int.emod_eq_of_lt (a := 48 + n % 2) (by omega) (by omega), show (((j + 1 : Nat) : Int) - 1).toNat = j by omega, set_rep]
    rw [w64 (by omega) (by omega), show ((j + 1 : Nat) : Int) - 1 - 1 = (j : Int) - 1 by omega]
theorem signs_ev (n : Int) (w : Nat) (h0 : 0 ≤ n) (h1 : n < 4611686018427387904) (hw : w ≤ 1000000) : Ev (fun k => impl_signs.f k n (w : Int)) (strOfNums (sg w n)) := by
  have h := signs_loop w n [] h0 h1 hw
  rw [List.append_nil, List.append_nil] at h
  refine Ev.congr (fun k => ?_) h
  unfold impl_signs.f
  rw [if_pos (by omega), if_pos (by omega), Int.toNat_natCast, w64 (by omega) (by omega)]
theorem within_yes {x lo hi : Int} (h0 : lo ≤ x) (h1 : x ≤ hi) : impl_within.f x lo hi = some true := by
  unfold impl_within.f
  rw [if_pos h0, decide_eq_true h1]
theorem within_no {x lo hi : Int} (h : ¬ (lo ≤ x ∧ x ≤ hi)) : impl_within.f x lo hi = some false := by
  unfold impl_within.f
  by_cases h0 : lo ≤ x
  · rw [if_pos h0, decide_eq_false (fun h1 => h ⟨h0, h1⟩)]
  · rw [if_neg h0]
theorem within_any (x lo hi : Int) : impl_within.f x lo hi = some (decide (lo ≤ x ∧ x ≤ hi)) := by
  by_cases h : lo ≤ x ∧ x ≤ hi
  · rw [within_yes h.1 h.2, decide_eq_true h]
  · rw [within_no h, decide_eq_false h]
theorem impl_parok (q : Int) (a b c : Bool) : impl_ParOk.f q a b c = some (parOkV q a b c) := by
  unfold impl_ParOk.f parOkV
  rw [within_any]
  simp only [Option.bind_some]
  cases decide (0 ≤ q ∧ q ≤ 40) <;> cases a <;> cases b <;> rfl
theorem impl_sign_val (b : Bool) : impl_sign.f b = some (strOfNums (flag b)) := by cases b <;> rfl
theorem impl_parrow_ev (q : Int) (x y z : Bool) : Ev (fun k => impl_ParRow.f k q x y z) (if parOkV q x y z = true then (strOfNums (parL q x y z), true) else (strOfNums [], false)) := by
  unfold impl_ParRow.f
  simp only [impl_parok, Option.bind_some]
  by_cases h : parOkV q x y z = true
  · have hq := parOk_range h
    simp only [h, if_true]
    refine Ev.bind (signs_ev q 6 hq.1 (by omega) (by decide)) ?_
    simp only [impl_sign_val, Option.bind_some, str_size, sg_len, flag_len, str_append, List.length_append]
    exact Ev.now _
  · simp only [if_neg h]
    exact Ev.now _
theorem FnExactParRow : laws_FnExactParRow.Pure := by
  intro q x y z _
  refine Ev.rounds ?_
  unfold laws_FnExactParRow.f
  simp only [laws_toPar.f, Option.bind_some]
  exact exact_sb (spec_parrow_ev q x y z) (impl_parrow_ev q x y z)

end Go.Proofs.Ytibnnodjockcbaa.Pure
