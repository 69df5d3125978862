/- The program's HeadRow returns what the reference's returns, for every seq, par and head. -/
import Derived.Test.YtheafkkpapnmdaaQFnExactHeadRowx9
import Derived.Test.YtheafkkpapnmdaaStmtFnExactHeadRow
set_option linter.unusedVariables false
set_option linter.unusedSimpArgs false
namespace Go.Proofs.Ytheafkkpapnmdaa.Pure
open Go.RowKit Go.Proofs.Ytheafkkpapnmdaa.QFnExactHeadRow Go.Proofs.YtheafkkpapnmdaaW.PrintWords Go.Proofs.YtheafkkpapnmdaaW.PrintLast Go.Proofs.YtheafkkpapnmdaaW.PrintMore

/-! ### Bytes as lists of numbers, and some plain facts -/
theorem w64 {x : Int} (h0 : -9223372036854775808 ≤ x) (h1 : x ≤ 9223372036854775807) : wrap64 x = x := by
  unfold wrap64
  omega
theorem i64_bounds {x : Int} (h : (Lit.int .i64 x).wf = true) : -9223372036854775808 ≤ x ∧ x ≤ 9223372036854775807 := by
  have e := h
  simp [Lit.wf, IntKind.min, IntKind.max, IntKind.signed, IntKind.bits] at e
  omega
/-- All numbers of the list are bytes. -/
def Bys (l : List Int) : Prop := ∀ x, x ∈ l → 0 ≤ x ∧ x < 256
theorem Bys.nil : Bys [] := fun _ h => by cases h
theorem Bys.cons {x : Int} {l : List Int} (h0 : 0 ≤ x) (h1 : x < 256) (h : Bys l) : Bys (x :: l) := fun y hy => by
  rcases List.mem_cons.1 hy with rfl | hy
  · exact ⟨h0, h1⟩
  · exact h y hy
theorem Bys.append {l m : List Int} (h : Bys l) (h' : Bys m) : Bys (l ++ m) := fun y hy => by
  rcases List.mem_append.1 hy with hy | hy
  · exact h y hy
  · exact h' y hy
theorem Bys.left {l m : List Int} (h : Bys (l ++ m)) : Bys l := fun y hy => h y (List.mem_append_left _ hy)
theorem Bys.right {l m : List Int} (h : Bys (l ++ m)) : Bys m := fun y hy => h y (List.mem_append_right _ hy)
theorem Bys.take {l : List Int} (h : Bys l) (n : Nat) : Bys (l.take n) := fun y hy => h y (List.mem_of_mem_take hy)
theorem Bys.drop {l : List Int} (h : Bys l) (n : Nat) : Bys (l.drop n) := fun y hy => h y (List.mem_of_mem_drop hy)
theorem Bys.getD {l : List Int} (h : Bys l) (i : Nat) : 0 ≤ l.getD i 0 ∧ l.getD i 0 < 256 := by
  rw [List.getD_eq_getElem?_getD]
  by_cases hi : i < l.length
  · rw [List.getElem?_eq_getElem hi]
    exact h _ (List.getElem_mem hi)
  · rw [List.getElem?_eq_none (by omega)]
    exact ⟨by decide, by decide⟩
theorem nums_of (a : ByteArray) : ∃ l, Bys l ∧ a = strOfNums l := by
  refine ⟨a.data.toList.map fun u => (u.toNat : Int), ?_, ?_⟩
  · intro x hx
    obtain ⟨u, _, rfl⟩ := List.mem_map.1 hx
    have := u.toNat_lt
    omega
  · unfold strOfNums
    rw [List.map_map]
    have e : ((fun n : Int => UInt8.ofNat n.toNat) ∘ fun u : UInt8 => (u.toNat : Int)) = id := by
      funext u
      simp
    rw [e, List.map_id]
theorem str_size (l : List Int) : (strOfNums l).size = l.length := strOfNums_size l
theorem bt_str {l : List Int} (h : Bys l) (i : Int) : bt (strOfNums l) i = l.getD i.toNat 0 := by
  unfold bt
  rw [List.getD_eq_getElem?_getD]
  split
  · rename_i hi
    have hi' : i.toNat < l.length := by rw [← str_size]; exact hi
    rw [List.getElem?_eq_getElem hi']
    have hb := h _ (List.getElem_mem hi')
    have e : (strOfNums l)[i.toNat]'hi = UInt8.ofNat (l[i.toNat]).toNat := by
      simp [strOfNums, ByteArray.getElem_eq_getElem_data]
    rw [e, UInt8.toNat_ofNat']
    simp only [Option.getD_some]
    omega
  · rename_i hi
    rw [List.getElem?_eq_none (by rw [← str_size]; omega)]
    rfl
theorem bt_get {l : List Int} (h : Bys l) {i : Int} {n : Nat} (hi : i = (n : Int)) : bt (strOfNums l) i = l.getD n 0 := by
  rw [bt_str h, hi, Int.toNat_natCast]
theorem str_append (l m : List Int) : strOfNums l ++ strOfNums m = strOfNums (l ++ m) := by
  apply ByteArray.ext
  rw [ByteArray.data_append]
  unfold strOfNums
  simp
theorem str_empty : (⟨#[]⟩ : ByteArray) = strOfNums [] := rfl
theorem str_inj {l m : List Int} (hl : Bys l) (hm : Bys m) (h : strOfNums l = strOfNums m) : l = m := by
  have hs : l.length = m.length := by rw [← str_size l, ← str_size m, h]
  apply List.ext_getElem hs
  intro i h1 h2
  have e1 := bt_get hl (i := (i : Int)) rfl
  have e2 := bt_get hm (i := (i : Int)) rfl
  rw [h, e2] at e1
  simp [List.getD_eq_getElem?_getD, h1, h2] at e1
  exact e1.symm
theorem str_extract (l : List Int) (i j : Nat) : (strOfNums l).extract i j = strOfNums ((l.take j).drop i) := by
  apply ByteArray.ext
  rw [ByteArray.data_extract]
  unfold strOfNums
  apply Array.ext'
  simp [List.extract_eq_take_drop, List.drop_take, List.map_drop, List.map_take]
theorem getD_mid (pre suf : List Int) (x : Int) : (pre ++ x :: suf).getD pre.length 0 = x := by
  rw [List.getD_eq_getElem?_getD, List.getElem?_append_right (Nat.le_refl _)]
  simp
theorem bt_mid {pre suf : List Int} {x : Int} (h : Bys (pre ++ x :: suf)) : bt (strOfNums (pre ++ x :: suf)) (pre.length : Int) = x := by
  rw [bt_get h rfl, getD_mid]
theorem rd_mid (pre suf : List Int) (x : Int) : rd (pre ++ x :: suf) (pre.length : Int) = x := by
  unfold rd
  rw [Int.toNat_natCast, getD_mid]
theorem snoc_cons (pre suf : List Int) (x : Int) : pre ++ x :: suf = (pre ++ [x]) ++ suf := by simp
theorem next_len (pre : List Int) (x : Int) (h : pre.length < 4611686018427387904) : wrap64 ((pre.length : Int) + 1) = ((pre ++ [x]).length : Int) := by
  rw [w64 (by omega) (by omega)]
  simp
theorem lt_mid (pre suf : List Int) (x : Int) : (pre.length : Int) < ((strOfNums (pre ++ x :: suf)).size : Int) := by
  rw [str_size]
  simp
  omega
theorem ge_end (pre : List Int) : ¬ ((pre.length : Int) < ((strOfNums pre).size : Int)) := by
  rw [str_size]
  omega
theorem mid_byte {pre suf : List Int} {x : Int} (h : Bys (pre ++ x :: suf)) : 0 ≤ x ∧ x < 256 := h x (by simp)
theorem exact_sb {g h : Nat → Option (ByteArray × Bool)} {v : ByteArray × Bool} (hg : Ev g v) (hh : Ev h v) :
    Ev (fun k => (g k).bind fun b1 => (h k).bind fun b2 => if b2.1.toList = b1.1.toList then (if (b2.2 != b1.2) = true then some false else some true) else some false) true := by
  refine Ev.bind hg (Ev.bind hh ?_)
  simp only [if_true, bne_self_eq_false, Bool.false_eq_true, if_false]
  exact Ev.now _
theorem exact_i {g h : Nat → Option Int} {v : Int} (hg : Ev g v) (hh : Ev h v) :
    Ev (fun k => (g k).bind fun b1 => (h k).bind fun b2 => if b2 = b1 then some true else some false) true := by
  refine Ev.bind hg (Ev.bind hh ?_)
  simp only [if_true]
  exact Ev.now _
theorem exact_s {g h : Nat → Option ByteArray} {v : ByteArray} (hg : Ev g v) (hh : Ev h v) :
    Ev (fun k => (g k).bind fun b1 => (h k).bind fun b2 => if b2.toList = b1.toList then some true else some false) true := by
  refine Ev.bind hg (Ev.bind hh ?_)
  simp only [if_true]
  exact Ev.now _
theorem exact_ib {g h : Nat → Option (Int × Bool)} {v : Int × Bool} (hg : Ev g v) (hh : Ev h v) :
    Ev (fun k => (g k).bind fun b1 => (h k).bind fun b2 => if b2.1 = b1.1 then (if (b2.2 != b1.2) = true then some false else some true) else some false) true := by
  refine Ev.bind hg (Ev.bind hh ?_)
  simp only [if_true, bne_self_eq_false, Bool.false_eq_true, if_false]
  exact Ev.now _
theorem exact_iib {g h : Nat → Option (Int × Int × Bool)} {v : Int × Int × Bool} (hg : Ev g v) (hh : Ev h v) :
    Ev (fun k => (g k).bind fun b1 => (h k).bind fun b2 => if b2.1 = b1.1 then (if b2.2.1 = b1.2.1 then (if (b2.2.2 != b1.2.2) = true then some false else some true) else some false) else some false) true := by
  refine Ev.bind hg (Ev.bind hh ?_)
  simp only [if_true, bne_self_eq_false, Bool.false_eq_true, if_false]
  exact Ev.now _
theorem exact_b {g h : Nat → Option Bool} {v : Bool} (hg : Ev g v) (hh : Ev h v) :
    Ev (fun k => (g k).bind fun b1 => (h k).bind fun b2 => if (b2 != b1) = true then some false else some true) true := by
  refine Ev.bind hg (Ev.bind hh ?_)
  simp only [bne_self_eq_false, Bool.false_eq_true, if_false]
  exact Ev.now _
theorem ev_now {α : Type} {g : Nat → Option α} {v : α} (h : ∀ k, g k = some v) : Ev g v := Ev.congr h (Ev.now v)
theorem set_mid (pre zs : List Int) (y x : Int) : (pre ++ y :: zs).set pre.length x = (pre ++ [x]) ++ zs := by
  rw [List.set_append_right _ _ (Nat.le_refl _)]
  simp
theorem toInts_loop : ∀ (suf pre : List Int), (pre ++ suf).length ≤ 1048576 → Ev (fun k => laws_toIntS.l0 k (pre ++ suf) (pre ++ List.replicate suf.length 0) (pre.length : Int)) (pre ++ suf)
  | [], pre, hl => by
    refine Ev.step (f := fun _ => some pre) (fun k => ?_) (by simp only [List.append_nil]; exact Ev.now _)
    simp only [laws_toIntS.l0, List.length_nil, List.replicate_zero, List.append_nil]
    rw [if_neg (by omega)]
  | x :: suf, pre, hl => by
    have hl' : pre.length + (suf.length + 1) ≤ 1048576 := by simpa using hl
    have ih := toInts_loop suf (pre ++ [x]) (by rw [← snoc_cons]; exact hl)
    rw [← snoc_cons] at ih
    refine Ev.step (fun k => ?_) ih
    simp only [laws_toIntS.l0]
    rw [if_pos (by simp; omega), if_pos (by omega), if_pos (by simp; omega), rd_mid, Int.toNat_natCast, next_len pre x (by omega)]
    rw [List.length_cons, List.replicate_succ, set_mid]
theorem toInts_ev {l : List Int} (hl : l.length ≤ 1048576) : Ev (fun k => laws_toIntS.f k l) l := by
  have h := toInts_loop l [] hl
  simp only [List.nil_append] at h
  refine Ev.congr (fun k => ?_) h
  unfold laws_toIntS.f
  rw [if_pos (by omega), if_pos (by omega), Int.toNat_natCast]
  rfl
theorem eqInts_loop : ∀ (suf pre : List Int), (pre ++ suf).length ≤ 1048576 → Ev (fun k => laws_eqIntS.l0 k (pre ++ suf) (pre ++ suf) (pre.length : Int)) true
  | [], pre, hl => by
    refine Ev.step (f := fun _ => some true) (fun k => ?_) (Ev.now _)
    simp only [laws_eqIntS.l0, List.append_nil]
    rw [if_neg (by omega)]
  | x :: suf, pre, hl => by
    have hl' : pre.length + (suf.length + 1) ≤ 1048576 := by simpa using hl
    have ih := eqInts_loop suf (pre ++ [x]) (by rw [← snoc_cons]; exact hl)
    rw [← snoc_cons] at ih
    refine Ev.step (fun k => ?_) ih
    simp only [laws_eqIntS.l0]
    rw [if_pos (by simp; omega), if_pos (by omega), if_pos (by simp; omega), next_len pre x (by omega)]
    exact if_pos trivial
theorem eqInts_ev {l : List Int} (hl : l.length ≤ 1048576) : Ev (fun k => laws_eqIntS.f k l l) true := by
  have h := eqInts_loop l [] hl
  simp only [List.nil_append] at h
  refine Ev.congr (fun k => ?_) h
  unfold laws_eqIntS.f
  rw [if_pos rfl]
  rfl
theorem toSeq_ev {a b : Int} {c r : List Int} (hc : c.length ≤ 1048576) (hr : r.length ≤ 1048576) : Ev (fun k => laws_toSeq.f k a b c r) (a, b, c, r) := by
  unfold laws_toSeq.f
  exact Ev.bind (toInts_ev hc) (Ev.bind (toInts_ev hr) (Ev.now _))
theorem eqSeq_ev {a b : Int} {c r : List Int} (hc : c.length ≤ 1048576) (hr : r.length ≤ 1048576) : Ev (fun k => laws_eqSeq.f k a b c r a b c r) true := by
  unfold laws_eqSeq.f
  simp only [if_true]
  refine Ev.bind (eqInts_ev hc) ?_
  simp only [if_true]
  refine Ev.bind (eqInts_ev hr) ?_
  simp only [if_true]
  exact Ev.now _
theorem szSeq_val (a b : Int) {c r : List Int} (hc : c.length ≤ maxLen) (hr : r.length ≤ maxLen) :
    (c.length + r.length ≤ 1048576 ∧ laws_szSeq.f a b c r 1048576 = some (1048576 - (c.length : Int) - (r.length : Int))) ∨ laws_szSeq.f a b c r 1048576 = some (-1) := by
  simp only [maxLen] at hc hr
  unfold laws_szSeq.f laws_szIntS.f
  rw [w64 (x := 1048576 - (c.length : Int)) (by omega) (by omega)]
  by_cases h1 : (1048576 : Int) - (c.length : Int) < 0
  · right
    rw [if_pos h1]
    rfl
  · rw [if_neg h1]
    simp only [Option.bind_some]
    rw [if_neg h1, w64 (x := 1048576 - (c.length : Int) - (r.length : Int)) (by omega) (by omega)]
    by_cases h2 : (1048576 : Int) - (c.length : Int) - (r.length : Int) < 0
    · right
      rw [if_pos h2]
      rfl
    · left
      rw [if_neg h2]
      simp only [Option.bind_some]
      rw [if_neg h2]
      exact ⟨by omega, rfl⟩
/-- The signs of a number, so many. -/
def sg : Nat → Int → List Int
  | 0, _ => []
  | w + 1, n => sg w (n / 2) ++ [48 + n % 2]
theorem sg_len : ∀ (w : Nat) (n : Int), (sg w n).length = w
  | 0, _ => rfl
  | w + 1, n => by simp [sg, sg_len w]
theorem sg_row : ∀ (w : Nat) (n : Int), ∀ x, x ∈ sg w n → x = 48 ∨ x = 49
  | 0, _ => fun _ h => by cases h
  | w + 1, n => fun x hx => by
    rcases List.mem_append.1 hx with h | h
    · exact sg_row w _ x h
    · have : x = 48 + n % 2 := by simpa using h
      omega
theorem sg_bys (w : Nat) (n : Int) : Bys (sg w n) := fun x hx => by
  rcases sg_row w n x hx with h | h <;> omega
theorem set_rep (j : Nat) (v : Int) (tl : List Int) : (List.replicate (j + 1) (0 : Int) ++ tl).set j v = List.replicate j 0 ++ v :: tl := by
  rw [List.replicate_succ', List.append_assoc, List.set_append_right _ _ (by simp)]
  simp
/-- How many binary figures a number has. -/
def bl (n : Nat) : Nat := if h : n = 0 then 0 else bl (n / 2) + 1
termination_by n
decreasing_by omega
theorem bl_zero : bl 0 = 0 := by rw [bl]; simp
theorem bl_pos (n : Nat) (h : n ≠ 0) : bl n = bl (n / 2) + 1 := by rw [bl]; simp [h]
theorem bl_small : ∀ (j n : Nat), n < 2 ^ j → bl n ≤ j
  | 0, n, h => by
    have : n = 0 := by simpa using h
    subst this
    rw [bl_zero]
    exact Nat.le_refl _
  | j + 1, n, h => by
    by_cases h0 : n = 0
    · subst h0
      rw [bl_zero]
      omega
    · rw [bl_pos n h0]
      have := bl_small j (n / 2) (by rw [Nat.pow_succ] at h; omega)
      omega
theorem lt_bl (j : Nat) : ∀ n : Nat, n < j → n < 2 ^ bl n := by
  induction j with
  | zero => intro n h; omega
  | succ j ih =>
    intro n h
    by_cases h0 : n = 0
    · subst h0
      rw [bl_zero]
      decide
    · rw [bl_pos n h0, Nat.pow_succ]
      have := ih (n / 2) (by omega)
      omega
theorem lt_two_bl (n : Nat) : n < 2 ^ bl n := lt_bl (n + 1) n (Nat.lt_succ_self n)
theorem bl_one (n : Nat) (h : n ≠ 0) : 1 ≤ bl n := by rw [bl_pos n h]; omega
theorem sg_zero : ∀ j : Nat, sg j 0 = List.replicate j 48
  | 0 => rfl
  | j + 1 => by
    rw [sg, show (0 : Int) / 2 = 0 by decide, sg_zero j, List.replicate_succ']
    rfl
/-- Noughts ahead. -/
theorem sg_pad (j : Nat) : ∀ (w : Nat) (n : Nat), n < 2 ^ w → sg (j + w) (n : Int) = List.replicate j 48 ++ sg w (n : Int)
  | 0, n, h => by
    have : n = 0 := by simpa using h
    subst this
    simp [sg, sg_zero]
  | w + 1, n, h => by
    have h2 : n / 2 < 2 ^ w := by rw [Nat.pow_succ] at h; omega
    have ih := sg_pad j w (n / 2) h2
    rw [← Nat.add_assoc, sg, sg, show ((n : Int) / 2) = ((n / 2 : Nat) : Int) by omega, ih, List.append_assoc]
/-- The row of a counted number. -/
def ueL (n : Nat) : List Int := sg (2 * bl (n + 1) - 1) ((n + 1 : Nat) : Int)
theorem ueL_len (n : Nat) : (ueL n).length = 2 * bl (n + 1) - 1 := sg_len _ _
theorem ueL_eq (n : Nat) : ueL n = List.replicate (bl (n + 1) - 1) 48 ++ sg (bl (n + 1)) ((n + 1 : Nat) : Int) := by
  unfold ueL
  have h := bl_one (n + 1) (by omega)
  rw [show 2 * bl (n + 1) - 1 = (bl (n + 1) - 1) + bl (n + 1) by omega]
  exact sg_pad _ _ _ (lt_two_bl (n + 1))
theorem ueL_bys (n : Nat) : Bys (ueL n) := sg_bys _ _
def inSide (x : Int) : Bool := decide (1 ≤ x ∧ x ≤ 8)
def sideOk (l : List Int) : Bool := decide (1 ≤ l.length ∧ l.length ≤ 4) && l.all inSide
def sumI : List Int → Int
  | [] => 0
  | x :: l => x + sumI l
/-- SquaresOf. -/
def sqv (c r : List Int) : Int := if sideOk c = true ∧ sideOk r = true then sumI c * sumI r else 0
def lvSq (n : Int) : Int := if n = 1 then 16 else if n = 2 then 64 else if n = 3 then 256 else 0
/-- SeqOk. -/
def seqOk (a b : Int) (c r : List Int) : Bool := decide (1 ≤ sqv c r ∧ sqv c r ≤ lvSq a) && decide (3 ≤ b ∧ b ≤ 8)
theorem sumI_bounds : ∀ l : List Int, l.all inSide = true → (l.length : Int) ≤ sumI l ∧ sumI l ≤ 8 * (l.length : Int)
  | [], _ => by simp [sumI]
  | x :: l, h => by
    rw [List.all_cons, Bool.and_eq_true] at h
    have hx : 1 ≤ x ∧ x ≤ 8 := of_decide_eq_true h.1
    have := sumI_bounds l h.2
    simp only [sumI, List.length_cons]
    omega
theorem sideOk_facts {l : List Int} (h : sideOk l = true) : 1 ≤ l.length ∧ l.length ≤ 4 ∧ l.all inSide = true ∧ 1 ≤ sumI l ∧ sumI l ≤ 32 := by
  unfold sideOk at h
  rw [Bool.and_eq_true] at h
  have h1 : 1 ≤ l.length ∧ l.length ≤ 4 := of_decide_eq_true h.1
  have := sumI_bounds l h.2
  exact ⟨h1.1, h1.2, h.2, by omega, by omega⟩
theorem sqv_bounds (c r : List Int) : 0 ≤ sqv c r ∧ sqv c r ≤ 1024 := by
  unfold sqv
  split
  · rename_i h
    obtain ⟨_, _, _, h1, h2⟩ := sideOk_facts h.1
    obtain ⟨_, _, _, h3, h4⟩ := sideOk_facts h.2
    have e1 : 0 ≤ sumI c * sumI r := Int.mul_nonneg (by omega) (by omega)
    have e2 : sumI c * sumI r ≤ 32 * 32 := Int.mul_le_mul h2 h4 (by omega) (by decide)
    exact ⟨e1, by omega⟩
  · exact ⟨by decide, by decide⟩
theorem seqOk_facts {a b : Int} {c r : List Int} (h : seqOk a b c r = true) : sideOk c = true ∧ sideOk r = true ∧ 1 ≤ a ∧ a ≤ 3 ∧ 3 ≤ b ∧ b ≤ 8 ∧ sqv c r = sumI c * sumI r := by
  unfold seqOk at h
  rw [Bool.and_eq_true] at h
  have h1 : 1 ≤ sqv c r ∧ sqv c r ≤ lvSq a := of_decide_eq_true h.1
  have h2 : 3 ≤ b ∧ b ≤ 8 := of_decide_eq_true h.2
  have h3 : 1 ≤ a ∧ a ≤ 3 := by
    have := h1.2
    unfold lvSq at this
    split at this
    · omega
    · split at this
      · omega
      · split at this <;> omega
  have h4 : sideOk c = true ∧ sideOk r = true := by
    by_cases h5 : sideOk c = true ∧ sideOk r = true
    · exact h5
    · have e : sqv c r = 0 := by unfold sqv; rw [if_neg h5]
      omega
  exact ⟨h4.1, h4.2, h3.1, h3.2, h2.1, h2.2, by unfold sqv; rw [if_pos h4]⟩
theorem ueL_short {n : Nat} (h : n ≤ 1000000) : (ueL n).length ≤ 39 := by
  have := bl_small 20 (n + 1) (by omega)
  rw [ueL_len]
  omega
/-- Counted numbers, one behind the other. -/
def uesL : List Int → List Int
  | [] => []
  | x :: l => ueL x.toNat ++ uesL l
def listL (l : List Int) : List Int := ueL l.length ++ uesL l
/-- SeqRow. -/
def seqL (a b : Int) (c r : List Int) : List Int := ueL a.toNat ++ sg 4 b ++ listL c ++ listL r
theorem uesL_len : ∀ {l : List Int}, l.all inSide = true → (uesL l).length ≤ 39 * l.length
  | [], _ => Nat.le_refl _
  | x :: l, h => by
    rw [List.all_cons, Bool.and_eq_true] at h
    have hx : 1 ≤ x ∧ x ≤ 8 := of_decide_eq_true h.1
    have h1 := uesL_len h.2
    have h2 := ueL_short (n := x.toNat) (by omega)
    simp only [uesL, List.length_append, List.length_cons]
    omega
theorem listL_len {l : List Int} (h : sideOk l = true) : (listL l).length ≤ 200 := by
  obtain ⟨h1, h2, h3, _⟩ := sideOk_facts h
  have := uesL_len h3
  have h4 := ueL_short (n := l.length) (by omega)
  unfold listL
  rw [List.length_append]
  omega
/-- TilesOf. -/
def tilesV (a b : Int) (c r : List Int) : Int := if seqOk a b c r = true then (c.length : Int) * (r.length : Int) else 0
theorem tiles_bounds {a b : Int} {c r : List Int} (h : seqOk a b c r = true) : 1 ≤ (c.length : Int) * (r.length : Int) ∧ (c.length : Int) * (r.length : Int) ≤ 16 := by
  obtain ⟨h1, h2, _⟩ := seqOk_facts h
  obtain ⟨g1, g2, _⟩ := sideOk_facts h1
  obtain ⟨g3, g4, _⟩ := sideOk_facts h2
  have e1 : (1 : Int) * 1 ≤ (c.length : Int) * (r.length : Int) := Int.mul_le_mul (by omega) (by omega) (by decide) (by omega)
  have e2 : (c.length : Int) * (r.length : Int) ≤ 4 * 4 := Int.mul_le_mul (by omega) (by omega) (by omega) (by decide)
  exact ⟨by omega, by omega⟩
/-- ParOk. -/
def parOkV (q : Int) (a b c : Bool) : Bool := decide (0 ≤ q ∧ q ≤ 40) && !(a && b)
theorem shl_small_val : ∀ m : Fin 31, shl .i64 1 ((m : Nat) : Int) = 2 ^ (m : Nat) ∧ (2 : Int) ^ (m : Nat) ≤ 1073741824 ∧ (1 : Int) ≤ 2 ^ (m : Nat) ∧ IntKind.u64.wrap ((m : Nat) : Int) = ((m : Nat) : Int) := by decide +kernel
theorem shl_val (w : Nat) (h : w ≤ 30) : shl .i64 1 (w : Int) = 2 ^ w := (shl_small_val ⟨w, by omega⟩).1
theorem pow_le (w : Nat) (h : w ≤ 30) : (2 : Int) ^ w ≤ 1073741824 := (shl_small_val ⟨w, by omega⟩).2.1
theorem pow_pos (w : Nat) (h : w ≤ 30) : (1 : Int) ≤ 2 ^ w := (shl_small_val ⟨w, by omega⟩).2.2.1
theorem u64_val (w : Nat) (h : w ≤ 30) : IntKind.u64.wrap (w : Int) = (w : Int) := (shl_small_val ⟨w, by omega⟩).2.2.2
/-- HeadOk. -/
def headOk (a b : Int) (c r : List Int) (q : Int) (x y z : Bool) (t f h : Int) : Bool :=
  seqOk a b c r && (parOkV q x y z && (decide (0 ≤ t ∧ t < tilesV a b c r) && (decide (0 ≤ f ∧ f < 2 ^ b.toNat) && decide (0 ≤ h ∧ h ≤ 40))))
/-- FoldSe's number. -/
def foldN (n : Int) : Nat := if n > 0 then (2 * n - 1).toNat else (-2 * n).toNat
/-- HeadRow. -/
def headL (b q t f h : Int) : List Int := ueL t.toNat ++ sg b.toNat f ++ ueL (foldN (h - q))
theorem headOk_facts {a b : Int} {c r : List Int} {q : Int} {x y z : Bool} {t f h : Int} (ok : headOk a b c r q x y z t f h = true) :
    seqOk a b c r = true ∧ parOkV q x y z = true ∧ 0 ≤ q ∧ q ≤ 40 ∧ 0 ≤ t ∧ t < 16 ∧ t < tilesV a b c r ∧ 0 ≤ f ∧ f < 2 ^ b.toNat ∧ f < 256 ∧ 0 ≤ h ∧ h ≤ 40 ∧ 3 ≤ b ∧ b ≤ 8 := by
  unfold headOk at ok
  rw [Bool.and_eq_true, Bool.and_eq_true, Bool.and_eq_true, Bool.and_eq_true] at ok
  obtain ⟨h1, h2, h3, h4, h5⟩ := ok
  have g3 : 0 ≤ t ∧ t < tilesV a b c r := of_decide_eq_true h3
  have g4 : 0 ≤ f ∧ f < 2 ^ b.toNat := of_decide_eq_true h4
  have g5 : 0 ≤ h ∧ h ≤ 40 := of_decide_eq_true h5
  have gb := seqOk_facts h1
  have gt := tiles_bounds h1
  have et : tilesV a b c r = (c.length : Int) * (r.length : Int) := by unfold tilesV; rw [if_pos h1]
  have gp : 0 ≤ q ∧ q ≤ 40 := by
    unfold parOkV at h2
    rw [Bool.and_eq_true] at h2
    exact of_decide_eq_true h2.1
  have hp : (2 : Int) ^ b.toNat ≤ 2 ^ 8 := by
    have : (2 : Nat) ^ b.toNat ≤ 2 ^ 8 := Nat.pow_le_pow_right (by decide) (by omega)
    exact_mod_cast this
  exact ⟨h1, h2, gp.1, gp.2, g3.1, by omega, g3.2, g4.1, g4.2, by omega, g5.1, g5.2, gb.2.2.2.2.1, gb.2.2.2.2.2.1⟩
theorem fold_small {n : Int} (h0 : -40 ≤ n) (h1 : n ≤ 40) : foldN n ≤ 80 := by
  unfold foldN
  split <;> omega
theorem in_yes {x lo hi : Int} (h0 : lo ≤ x) (h1 : x ≤ hi) : spec_l01In.f x lo hi = some true := by
  unfold spec_l01In.f
  rw [if_pos h0, decide_eq_true h1]
theorem in_no {x lo hi : Int} (h : ¬ (lo ≤ x ∧ x ≤ hi)) : spec_l01In.f x lo hi = some false := by
  unfold spec_l01In.f
  by_cases h0 : lo ≤ x
  · rw [if_pos h0, decide_eq_false (fun h1 => h ⟨h0, h1⟩)]
  · rw [if_neg h0]
theorem in_any (x lo hi : Int) : spec_l01In.f x lo hi = some (decide (lo ≤ x ∧ x ≤ hi)) := by
  by_cases h : lo ≤ x ∧ x ≤ hi
  · rw [in_yes h.1 h.2, decide_eq_true h]
  · rw [in_no h, decide_eq_false h]
theorem spec_sum_loop : ∀ (suf pre : List Int) (acc : Int), (pre ++ suf).length ≤ 4 → 0 ≤ acc → acc ≤ 8 * (pre.length : Int) →
    Ev (fun k => spec_l05Sum.l0 k (pre ++ suf) acc (pre.length : Int)) (if suf.all inSide = true then acc + sumI suf else 0)
  | [], pre, acc, hl, h0, h1 => by
    refine Ev.step (f := fun _ => some acc) (fun k => ?_) (by simp only [List.all_nil, if_true, sumI, Int.add_zero]; exact Ev.now _)
    simp only [spec_l05Sum.l0, List.append_nil]
    rw [if_neg (by omega)]
  | x :: suf, pre, acc, hl, h0, h1 => by
    have hl' : pre.length + (suf.length + 1) ≤ 4 := by simpa using hl
    by_cases hx : 1 ≤ x ∧ x ≤ 8
    · have ih := spec_sum_loop suf (pre ++ [x]) (acc + x) (by rw [← snoc_cons]; exact hl) (by omega) (by simp; omega)
      rw [← snoc_cons] at ih
      have e : (if (x :: suf).all inSide = true then acc + sumI (x :: suf) else 0) = (if suf.all inSide = true then acc + x + sumI suf else 0) := by
        rw [List.all_cons, show inSide x = true from decide_eq_true hx, Bool.true_and, sumI, Int.add_assoc]
      rw [e]
      refine Ev.step (fun k => ?_) ih
      simp only [spec_l05Sum.l0]
      rw [if_pos (by simp; omega), if_pos (by omega), rd_mid, in_yes hx.1 hx.2]
      simp only [Option.bind_some, if_true]
      rw [w64 (x := acc + x) (by omega) (by omega), next_len pre x (by omega)]
    · have e : (if (x :: suf).all inSide = true then acc + sumI (x :: suf) else 0) = 0 := by
        rw [List.all_cons, show inSide x = false from decide_eq_false hx, Bool.false_and]
        rfl
      rw [e]
      refine Ev.step (f := fun _ => some 0) (fun k => ?_) (Ev.now _)
      simp only [spec_l05Sum.l0]
      rw [if_pos (by simp; omega), if_pos (by omega), rd_mid, in_no hx]
      rfl
theorem spec_sum_ev (l : List Int) : Ev (fun k => spec_l05Sum.f k l) (if sideOk l = true then sumI l else 0) := by
  unfold spec_l05Sum.f sideOk
  by_cases h : 1 ≤ l.length ∧ l.length ≤ 4
  · simp only [if_neg (show ¬ (l.length : Int) < 1 by omega), decide_eq_true h, Bool.true_and, decide_eq_false (show ¬ (l.length : Int) > 4 by omega)]
    have := spec_sum_loop l [] 0 h.2 (by decide) (by decide)
    rw [Int.zero_add] at this
    refine Ev.step (fun k => ?_) this
    simp only [spec_l05Sum.j0, Bool.false_eq_true, if_false]
    rfl
  · have no : Ev (fun k => spec_l05Sum.j0 k l true) 0 := Ev.step (f := fun _ => some 0) (fun k => by simp only [spec_l05Sum.j0, if_true]) (Ev.now _)
    rw [decide_eq_false h, Bool.false_and]
    by_cases h1 : (l.length : Int) < 1
    · simp only [if_pos h1, Bool.false_eq_true, if_false]
      exact no
    · simp only [if_neg h1, Bool.false_eq_true, if_false, decide_eq_true (show (l.length : Int) > 4 by omega)]
      exact no
theorem spec_sq_ev (a b : Int) (c r : List Int) : Ev (fun k => spec_SquaresOf.f k a b c r) (sqv c r) := by
  unfold spec_SquaresOf.f
  refine Ev.bind (spec_sum_ev c) (Ev.bind (spec_sum_ev r) ?_)
  have hb := sqv_bounds c r
  have e : (if sideOk c = true then sumI c else 0) * (if sideOk r = true then sumI r else 0) = sqv c r := by
    unfold sqv
    cases sideOk c <;> cases sideOk r <;> simp
  rw [e, w64 (by omega) (by omega)]
  exact Ev.now _
theorem spec_lv (n : Int) : spec_LevelSquares.f n = some (lvSq n) := by
  unfold spec_LevelSquares.f lvSq
  split
  · rfl
  · split
    · rfl
    · split <;> rfl
theorem spec_seqok_ev (a b : Int) (c r : List Int) : Ev (fun k => spec_SeqOk.f k a b c r) (seqOk a b c r) := by
  unfold spec_SeqOk.f seqOk
  refine Ev.bind (spec_sq_ev a b c r) ?_
  simp only [spec_lv, Option.bind_some, in_any]
  by_cases h : 1 ≤ sqv c r ∧ sqv c r ≤ lvSq a
  · simp only [decide_eq_true h, if_true, Bool.true_and]
    exact Ev.now _
  · simp only [decide_eq_false h, Bool.false_eq_true, if_false, Bool.false_and]
    exact Ev.now _
theorem spec_tiles_ev (a b : Int) (c r : List Int) : Ev (fun k => spec_TilesOf.f k a b c r) (tilesV a b c r) := by
  unfold spec_TilesOf.f tilesV
  refine Ev.bind (spec_seqok_ev a b c r) ?_
  by_cases h : seqOk a b c r = true
  · have := tiles_bounds h
    simp only [h, if_true]
    rw [w64 (by omega) (by omega)]
    exact Ev.now _
  · simp only [if_neg h]
    exact Ev.now _
theorem spec_parok (q : Int) (a b c : Bool) : spec_ParOk.f q a b c = some (parOkV q a b c) := by
  unfold spec_ParOk.f parOkV
  rw [in_any]
  simp only [Option.bind_some]
  cases decide (0 ≤ q ∧ q ≤ 40) <;> cases a <;> cases b <;> rfl
theorem spec_headok_ev (a b : Int) (c r : List Int) (q : Int) (x y z : Bool) (t f h : Int) : Ev (fun k => spec_HeadOk.f k a b c r q x y z t f h) (headOk a b c r q x y z t f h) := by
  unfold spec_HeadOk.f headOk
  simp only [spec_parok, Option.bind_some]
  cases hp : parOkV q x y z
  · rw [Bool.false_and, Bool.and_false]
    exact Ev.now _
  · simp only [if_true, Bool.true_and]
    by_cases ht : t ≥ 0
    · simp only [if_pos ht]
      refine Ev.bind (spec_tiles_ev a b c r) ?_
      by_cases hs : seqOk a b c r = true
      · have hbits := seqOk_facts hs
        obtain ⟨m, rfl⟩ := Int.eq_ofNat_of_zero_le (show 0 ≤ b by omega)
        rw [hs, Bool.true_and]
        by_cases h2 : t < tilesV a (m : Int) c r
        · simp only [if_pos h2, decide_eq_true (show 0 ≤ t ∧ t < tilesV a (m : Int) c r from ⟨ht, h2⟩), Bool.true_and, Int.toNat_natCast]
          by_cases h3 : f ≥ 0
          · simp only [if_pos h3, u64_val m (by omega), shl_val m (by omega), if_pos (show (0 : Int) ≤ (m : Int) by omega)]
            by_cases h4 : f < 2 ^ m
            · simp only [if_pos h4, decide_eq_true (show 0 ≤ f ∧ f < 2 ^ m from ⟨h3, h4⟩), Bool.true_and, in_any, Option.bind_some]
              exact Ev.now _
            · simp only [if_neg h4, decide_eq_false (show ¬ (0 ≤ f ∧ f < 2 ^ m) from fun e => h4 e.2), Bool.false_and]
              exact Ev.now _
          · simp only [if_neg h3, decide_eq_false (show ¬ (0 ≤ f ∧ f < 2 ^ m) from fun e => h3 e.1), Bool.false_and]
            exact Ev.now _
        · simp only [if_neg h2, decide_eq_false (show ¬ (0 ≤ t ∧ t < tilesV a (m : Int) c r) from fun e => h2 e.2), Bool.false_and]
          exact Ev.now _
      · have e : tilesV a b c r = 0 := by unfold tilesV; rw [if_neg hs]
        rw [e, Bool.eq_false_iff.2 hs, Bool.false_and, if_neg (by omega)]
        exact Ev.now _
    · simp only [if_neg ht, decide_eq_false (show ¬ (0 ≤ t ∧ t < tilesV a b c r) from fun e => ht e.1), Bool.false_and, Bool.and_false]
      exact Ev.now _
theorem fix_loop : ∀ (j : Nat) (n : Int) (tl : List Int), 0 ≤ n → n < 4611686018427387904 → j ≤ 1000000 →
    Ev (fun k => spec_l02Fix.l0 k n (List.replicate j 0 ++ tl) ((j : Int) - 1)) (strOfNums (sg j n ++ tl))
  | 0, n, tl, h0, h1, hj => by
    refine Ev.step (f := fun _ => some (strOfNums tl)) (fun k => ?_) (by simp only [sg, List.nil_append]; exact Ev.now _)
    simp only [spec_l02Fix.l0, List.replicate_zero, List.nil_append]
    rw [if_neg (by omega)]
  | j + 1, n, tl, h0, h1, hj => by
    have ih := fix_loop j (n / 2) ((48 + n % 2) :: tl) (by omega) (by omega) (by omega)
    have e : sg (j + 1) n ++ tl = sg j (n / 2) ++ (48 + n % 2) :: tl := by simp [sg]
    rw [e]
    refine Ev.step (fun k => ?_) ih
    simp only [spec_l02Fix.l0]
    rw [if_pos (by omega), if_pos (by omega), if_pos (by simp; omega), Int.tmod_eq_emod_of_nonneg h0, Int.tdiv_eq_ediv_of_nonneg h0, w64 (x := 48 + n % 2) (by omega) (by omega)]
    rw [Int.emod_eq_of_lt (a := 48 + n % 2) (by omega) (by omega), show (((j + 1 : Nat) : Int) - 1).toNat = j by omega, set_rep]
    rw [w64 (x := n / 2) (by omega) (by omega), w64 (by omega) (by omega), show ((j + 1 : Nat) : Int) - 1 - 1 = (j : Int) - 1 by omega]
theorem fix_ev (n : Int) (w : Nat) (h0 : 0 ≤ n) (h1 : n < 4611686018427387904) (hw : w ≤ 1000000) : Ev (fun k => spec_l02Fix.f k n (w : Int)) (strOfNums (sg w n)) := by
  have h := fix_loop w n [] h0 h1 hw
  rw [List.append_nil, List.append_nil] at h
  refine Ev.congr (fun k => ?_) h
  unfold spec_l02Fix.f
  rw [if_pos (by omega), if_pos (by omega), Int.toNat_natCast, w64 (by omega) (by omega)]
theorem long_loop : ∀ (d i : Nat) (x : Int), 0 ≤ x → x < 256 → i + d ≤ 1000000 → Ev (fun k => spec_l01Long.l0 k ((i + d : Nat) : Int) x (List.replicate i x ++ List.replicate d 0) (i : Int)) (strOfNums (List.replicate (i + d) x))
  | 0, i, x, h0, h1, hd => by
    refine Ev.step (f := fun _ => some (strOfNums (List.replicate i x))) (fun k => ?_) (Ev.now _)
    simp only [spec_l01Long.l0, Nat.add_zero, List.replicate_zero, List.append_nil]
    rw [if_neg (by omega)]
  | d + 1, i, x, h0, h1, hd => by
    have ih := long_loop d (i + 1) x h0 h1 (by omega)
    rw [show i + 1 + d = i + (d + 1) by omega] at ih
    refine Ev.step (fun k => ?_) ih
    simp only [spec_l01Long.l0]
    rw [if_pos (by omega), if_pos (by omega), if_pos (by simp; omega), w64 (by omega) (by omega), Int.toNat_natCast]
    have : (List.replicate i x ++ List.replicate (d + 1) 0).set i x = List.replicate (i + 1) x ++ List.replicate d 0 := by
      rw [List.set_append_right _ _ (by simp), List.replicate_succ' (n := i), List.append_assoc]
      simp [List.replicate_succ]
    rw [this]
    rfl
theorem long_ev (n : Nat) (x : Int) (h0 : 0 ≤ x) (h1 : x < 256) (hn : n ≤ 1000000) : Ev (fun k => spec_l01Long.f k (n : Int) x) (strOfNums (List.replicate n x)) := by
  have h := long_loop n 0 x h0 h1 (by omega)
  simp only [List.replicate_zero, List.nil_append, Nat.zero_add] at h
  refine Ev.congr (fun k => ?_) h
  unfold spec_l01Long.f
  rw [if_pos (by omega), if_pos (by omega), Int.toNat_natCast]
  rfl
theorem spec_ue_loop : ∀ (j n : Nat) (acc : List Int), n < 2 ^ j → n < 2305843009213693952 → 1 ≤ bl n + acc.length → acc.length + j ≤ 1000 →
    Ev (fun k => spec_l03Ue.l0 k (n : Int) (strOfNums acc)) (strOfNums (List.replicate (bl n + acc.length - 1) 48 ++ (sg (bl n) (n : Int) ++ acc)))
  | j, n, acc, hn, hn2, h1, ha => by
    by_cases hz : n = 0
    · subst hz
      rw [bl_zero] at h1 ⊢
      simp only [Nat.zero_add, sg, List.nil_append]
      refine Ev.step (f := fun k => (spec_l01Long.f k ((acc.length - 1 : Nat) : Int) 48).bind fun t => (if t.size + (strOfNums acc).size ≤ 9223372036854775807 then (some (t ++ strOfNums acc)) else (none))) (fun k => ?_) ?_
      · simp only [spec_l03Ue.l0]
        rw [if_neg (by omega), str_size, w64 (by omega) (by omega), show (acc.length : Int) - 1 = ((acc.length - 1 : Nat) : Int) by omega]
      · refine Ev.bind (long_ev _ 48 (by decide) (by decide) (by omega)) ?_
        simp only [str_size, List.length_replicate, if_pos (show acc.length - 1 + acc.length ≤ 9223372036854775807 by omega), str_append]
        exact Ev.now _
    · obtain ⟨j, rfl⟩ : ∃ i, j = i + 1 := by
        cases j with
        | zero => simp at hn; omega
        | succ i => exact ⟨i, rfl⟩
      have ih := spec_ue_loop j (n / 2) ([48 + ((n % 2 : Nat) : Int)] ++ acc) (by rw [Nat.pow_succ] at hn; omega) (by omega) (by simp; omega) (by simp; omega)
      have e : List.replicate (bl n + acc.length - 1) 48 ++ (sg (bl n) (n : Int) ++ acc) = List.replicate (bl (n / 2) + ([48 + ((n % 2 : Nat) : Int)] ++ acc).length - 1) 48 ++ (sg (bl (n / 2)) ((n / 2 : Nat) : Int) ++ ([48 + ((n % 2 : Nat) : Int)] ++ acc)) := by
        rw [bl_pos n hz, sg, show (n : Int) / 2 = ((n / 2 : Nat) : Int) by omega, show (n : Int) % 2 = ((n % 2 : Nat) : Int) by omega]
        have : bl (n / 2) + 1 + acc.length - 1 = bl (n / 2) + ([48 + ((n % 2 : Nat) : Int)] ++ acc).length - 1 := by rw [List.length_append]; simp only [List.length_cons, List.length_nil]; omega
        rw [this, List.append_assoc]
      rw [e]
      refine Ev.step (fun k => ?_) ih
      simp only [spec_l03Ue.l0]
      rw [if_pos (by omega), Int.tmod_eq_emod_of_nonneg (by omega), Int.tdiv_eq_ediv_of_nonneg (by omega), w64 (x := (n : Int) / 2) (by omega) (by omega), w64 (x := 48 + (n : Int) % 2) (by omega) (by omega), Int.emod_eq_of_lt (a := 48 + (n : Int) % 2) (by omega) (by omega)]
      simp only [Option.bind_some]
      rw [if_pos (by rw [str_size, str_size]; simp; omega), str_append, show (n : Int) / 2 = ((n / 2 : Nat) : Int) by omega, show (n : Int) % 2 = ((n % 2 : Nat) : Int) by omega]
theorem spec_ue_ev (n : Nat) (h : n < 2 ^ 60) : Ev (fun k => spec_l03Ue.f k (n : Int)) (strOfNums (ueL n)) := by
  have h1 := bl_one (n + 1) (by omega)
  have hl := spec_ue_loop 61 (n + 1) [] (by omega) (by omega) (by simp; omega) (by decide)
  rw [ueL_eq]
  simp only [List.length_nil, Nat.add_zero, List.append_nil] at hl
  refine Ev.congr (fun k => ?_) hl
  unfold spec_l03Ue.f
  rw [w64 (by omega) (by omega)]
  rfl
theorem spec_fold_yes {n : Int} (h0 : -500000 ≤ n) (h1 : n ≤ 500000) : spec_FoldSe.f n = some ((foldN n : Int), true) := by
  unfold spec_FoldSe.f foldN
  rw [in_yes h0 h1]
  simp only [Option.bind_some, if_true]
  by_cases h : n > 0
  · rw [if_pos h, if_pos h, w64 (x := 2 * n) (by omega) (by omega), w64 (by omega) (by omega), Int.toNat_of_nonneg (by omega)]
  · rw [if_neg h, if_neg h, w64 (by omega) (by omega), Int.toNat_of_nonneg (by omega)]
theorem fold_le {n : Int} (h0 : -500000 ≤ n) (h1 : n ≤ 500000) : foldN n ≤ 1000000 := by
  unfold foldN
  split <;> omega
theorem spec_se_ev {n : Int} (h0 : -500000 ≤ n) (h1 : n ≤ 500000) : Ev (fun k => spec_l03Se.f k n) (strOfNums (ueL (foldN n))) := by
  have := fold_le h0 h1
  unfold spec_l03Se.f
  rw [spec_fold_yes h0 h1]
  simp only [Option.bind_some]
  exact Ev.bind (spec_ue_ev (foldN n) (by omega)) (Ev.now _)
theorem spec_headrow_ev (a b : Int) (c r : List Int) (q : Int) (x y z : Bool) (t f h : Int) : Ev (fun k => spec_HeadRow.f k a b c r q x y z t f h) (if headOk a b c r q x y z t f h = true then (strOfNums (headL b q t f h), true) else (strOfNums [], false)) := by
  unfold spec_HeadRow.f
  refine Ev.bind (spec_headok_ev a b c r q x y z t f h) ?_
  by_cases ok : headOk a b c r q x y z t f h = true
  · obtain ⟨_, _, q0, q1, t0, t1, _, f0, f1, f2, h0, h1, b0, b1⟩ := headOk_facts ok
    have k1 := ueL_short (n := t.toNat) (by omega)
    have k2 := ueL_short (n := foldN (h - q)) (by have := fold_small (n := h - q) (by omega) (by omega); omega)
    have hue := spec_ue_ev t.toNat (by omega)
    rw [Int.toNat_of_nonneg (by omega)] at hue
    have hfix := fix_ev f b.toNat f0 (by omega) (by omega)
    rw [Int.toNat_of_nonneg (by omega)] at hfix
    simp only [ok, if_true]
    refine Ev.bind hue (Ev.bind hfix ?_)
    simp only [str_size, sg_len, if_pos (show (ueL t.toNat).length + b.toNat ≤ 9223372036854775807 by omega), str_append]
    rw [w64 (x := h - q) (by omega) (by omega)]
    refine Ev.bind (spec_se_ev (n := h - q) (by omega) (by omega)) ?_
    simp only [str_size, List.length_append, sg_len, if_pos (show (ueL t.toNat).length + b.toNat + (ueL (foldN (h - q))).length ≤ 9223372036854775807 by omega), str_append]
    exact Ev.now _
  · simp only [if_neg ok]
    exact Ev.now _
theorem within_yes {x lo hi : Int} (h0 : lo ≤ x) (h1 : x ≤ hi) : impl_within.f x lo hi = some true := by
  unfold impl_within.f
  rw [if_pos h0, decide_eq_true h1]
theorem within_no {x lo hi : Int} (h : ¬ (lo ≤ x ∧ x ≤ hi)) : impl_within.f x lo hi = some false := by
  unfold impl_within.f
  by_cases h0 : lo ≤ x
  · rw [if_pos h0, decide_eq_false (fun h1 => h ⟨h0, h1⟩)]
  · rw [if_neg h0]
theorem within_any (x lo hi : Int) : impl_within.f x lo hi = some (decide (lo ≤ x ∧ x ≤ hi)) := by
  by_cases h : lo ≤ x ∧ x ≤ hi
  · rw [within_yes h.1 h.2, decide_eq_true h]
  · rw [within_no h, decide_eq_false h]
theorem sumOf_loop : ∀ (suf pre : List Int) (acc : Int), (pre ++ suf).length ≤ 4 → suf.all inSide = true → 0 ≤ acc → acc ≤ 8 * (pre.length : Int) →
    Ev (fun k => impl_sumOf.l0 k acc (pre ++ suf) ((pre ++ suf).length : Int) (pre.length : Int)) (acc + sumI suf)
  | [], pre, acc, hl, _, h0, h1 => by
    refine Ev.step (f := fun _ => some acc) (fun k => ?_) (by simp only [sumI, Int.add_zero]; exact Ev.now _)
    simp only [impl_sumOf.l0, List.append_nil]
    rw [if_neg (by omega)]
  | x :: suf, pre, acc, hl, ha, h0, h1 => by
    have hl' : pre.length + (suf.length + 1) ≤ 4 := by simpa using hl
    rw [List.all_cons, Bool.and_eq_true] at ha
    have hx : 1 ≤ x ∧ x ≤ 8 := of_decide_eq_true ha.1
    have ih := sumOf_loop suf (pre ++ [x]) (acc + x) (by rw [← snoc_cons]; exact hl) ha.2 (by omega) (by simp; omega)
    rw [← snoc_cons] at ih
    rw [sumI, ← Int.add_assoc]
    refine Ev.step (fun k => ?_) ih
    simp only [impl_sumOf.l0]
    rw [if_pos (by simp; omega), if_pos (by omega), if_pos (by simp; omega), rd_mid, w64 (x := acc + x) (by omega) (by omega), next_len pre x (by omega)]
theorem sumOf_ev {l : List Int} (h : sideOk l = true) : Ev (fun k => impl_sumOf.f k l) (sumI l) := by
  obtain ⟨_, h1, h2, _⟩ := sideOk_facts h
  have := sumOf_loop l [] 0 h1 h2 (by decide) (by decide)
  rw [Int.zero_add] at this
  exact this
theorem sq_inner {c r : List Int} {a b : Int} {j : Int} {R : Int} : ∀ (suf pre : List Int), (pre ++ suf).length ≤ 4 → (suf.all inSide = true → Ev (fun k => impl_SquaresOf.l0 k [c, r] 2 (wrap64 (j + 1)) a b c r) R) →
    Ev (fun k => impl_SquaresOf.l1 k [c, r] 2 j (pre ++ suf) ((pre ++ suf).length : Int) (pre.length : Int) a b c r) (if suf.all inSide = true then R else 0)
  | [], pre, hl, h => by
    have h' := h rfl
    simp only [List.all_nil, if_true]
    refine Ev.step (fun k => ?_) h'
    simp only [impl_SquaresOf.l1, List.append_nil]
    rw [if_neg (by omega)]
  | x :: suf, pre, hl, h => by
    have hl' : pre.length + (suf.length + 1) ≤ 4 := by simpa using hl
    by_cases hx : 1 ≤ x ∧ x ≤ 8
    · have hxs : inSide x = true := decide_eq_true hx
      have ih := sq_inner suf (pre ++ [x]) (by rw [← snoc_cons]; exact hl) (fun hs => h (by rw [List.all_cons, hxs, hs]; rfl))
      rw [← snoc_cons] at ih
      rw [List.all_cons, hxs, Bool.true_and]
      refine Ev.step (fun k => ?_) ih
      simp only [impl_SquaresOf.l1]
      rw [if_pos (by simp; omega), if_pos (by omega), if_pos (by simp; omega), rd_mid, within_yes hx.1 hx.2]
      simp only [Option.bind_some, if_true]
      rw [next_len pre x (by omega)]
    · rw [List.all_cons, show inSide x = false from decide_eq_false hx, Bool.false_and]
      simp only [Bool.false_eq_true, if_false]
      refine Ev.step (f := fun _ => some 0) (fun k => ?_) (Ev.now _)
      simp only [impl_SquaresOf.l1]
      rw [if_pos (by simp; omega), if_pos (by omega), if_pos (by simp; omega), rd_mid, within_no hx]
      rfl
theorem sq_round {c r t : List Int} {a b : Int} {j : Int} {R : Int} (h0 : 0 ≤ j) (h2 : j < 2) (ht : rd_L2 [c, r] j = t) (h : sideOk t = true → Ev (fun k => impl_SquaresOf.l0 k [c, r] 2 (wrap64 (j + 1)) a b c r) R) :
    Ev (fun k => impl_SquaresOf.l0 k [c, r] 2 j a b c r) (if sideOk t = true then R else 0) := by
  by_cases hlen : 1 ≤ t.length ∧ t.length ≤ 4
  · have e : (if sideOk t = true then R else 0) = (if t.all inSide = true then R else 0) := by
      unfold sideOk
      rw [decide_eq_true hlen, Bool.true_and]
    rw [e]
    have hi := sq_inner (c := c) (r := r) (a := a) (b := b) (j := j) (R := R) t [] hlen.2 (fun hs => h (by unfold sideOk; rw [decide_eq_true hlen, hs]; rfl))
    refine Ev.step (fun k => ?_) hi
    simp only [impl_SquaresOf.l0]
    rw [if_pos h2, if_pos h0, if_pos (by simpa using h2), ht, within_yes (by omega) (by omega)]
    rfl
  · have e : (if sideOk t = true then R else 0) = 0 := by
      unfold sideOk
      rw [decide_eq_false hlen, Bool.false_and]
      rfl
    rw [e]
    refine Ev.step (f := fun _ => some 0) (fun k => ?_) (Ev.now _)
    simp only [impl_SquaresOf.l0]
    rw [if_pos h2, if_pos h0, if_pos (by simpa using h2), ht, within_no (by omega)]
    rfl
theorem impl_sq_ev (a b : Int) (c r : List Int) : Ev (fun k => impl_SquaresOf.f k a b c r) (sqv c r) := by
  have e : sqv c r = if sideOk c = true then (if sideOk r = true then sumI c * sumI r else 0) else 0 := by
    unfold sqv
    cases sideOk c <;> cases sideOk r <;> simp
  have hb := sqv_bounds c r
  unfold impl_SquaresOf.f
  simp only [Option.bind_some]
  rw [e]
  refine sq_round (by decide) (by decide) rfl (fun h1 => ?_)
  rw [show wrap64 (0 + 1) = 1 from w64 (by decide) (by decide)]
  refine sq_round (by decide) (by decide) rfl (fun h2 => ?_)
  rw [show wrap64 (1 + 1) = 2 from w64 (by decide) (by decide)]
  rw [e, if_pos h1, if_pos h2] at hb
  refine Ev.step (f := fun k => (impl_sumOf.f k c).bind fun x => (impl_sumOf.f k r).bind fun y => some (wrap64 (x * y))) (fun k => ?_) (Ev.bind (sumOf_ev h1) (Ev.bind (sumOf_ev h2) ?_))
  · simp only [impl_SquaresOf.l0]
    rw [if_neg (by decide)]
  · rw [w64 (by omega) (by omega)]
    exact Ev.now _
theorem impl_lv (n : Int) : impl_LevelSquares.f n = some (lvSq n) := by
  by_cases h : 1 ≤ n ∧ n ≤ 3
  · obtain rfl | rfl | rfl : n = 1 ∨ n = 2 ∨ n = 3 := by omega
    all_goals decide +kernel
  · unfold impl_LevelSquares.f lvSq
    rw [within_no h, if_neg (by omega), if_neg (by omega), if_neg (by omega)]
    rfl
theorem impl_seqok_ev (a b : Int) (c r : List Int) : Ev (fun k => impl_SeqOk.f k a b c r) (seqOk a b c r) := by
  unfold impl_SeqOk.f seqOk
  refine Ev.bind (impl_sq_ev a b c r) ?_
  simp only [impl_lv, Option.bind_some, within_any]
  by_cases h : 1 ≤ sqv c r ∧ sqv c r ≤ lvSq a
  · simp only [decide_eq_true h, if_true, Bool.true_and]
    exact Ev.now _
  · simp only [decide_eq_false h, Bool.false_eq_true, if_false, Bool.false_and]
    exact Ev.now _
theorem impl_tiles_ev (a b : Int) (c r : List Int) : Ev (fun k => impl_TilesOf.f k a b c r) (tilesV a b c r) := by
  unfold impl_TilesOf.f tilesV
  refine Ev.bind (impl_seqok_ev a b c r) ?_
  by_cases h : seqOk a b c r = true
  · have := tiles_bounds h
    simp only [h, if_true]
    rw [w64 (by omega) (by omega)]
    exact Ev.now _
  · simp only [if_neg h]
    exact Ev.now _
theorem impl_parok (q : Int) (a b c : Bool) : impl_ParOk.f q a b c = some (parOkV q a b c) := by
  unfold impl_ParOk.f parOkV
  rw [within_any]
  simp only [Option.bind_some]
  cases decide (0 ≤ q ∧ q ≤ 40) <;> cases a <;> cases b <;> rfl
theorem impl_headok_ev (a b : Int) (c r : List Int) (q : Int) (x y z : Bool) (t f h : Int) : Ev (fun k => impl_HeadOk.f k a b c r q x y z t f h) (headOk a b c r q x y z t f h) := by
  unfold impl_HeadOk.f headOk
  refine Ev.bind (impl_seqok_ev a b c r) ?_
  by_cases hs : seqOk a b c r = true
  · have hbits := seqOk_facts hs
    have htb := tiles_bounds hs
    obtain ⟨m, rfl⟩ := Int.eq_ofNat_of_zero_le (show 0 ≤ b by omega)
    have hp1 := pow_le m (by omega)
    have hp2 := pow_pos m (by omega)
    have et : tilesV a (m : Int) c r = (c.length : Int) * (r.length : Int) := by unfold tilesV; rw [if_pos hs]
    simp only [hs, if_true, Bool.true_and, impl_parok, Option.bind_some]
    cases hp : parOkV q x y z
    · simp only [Bool.false_eq_true, if_false, Bool.false_and]
      exact Ev.now _
    · simp only [if_true, Bool.true_and]
      refine Ev.bind (impl_tiles_ev a (m : Int) c r) ?_
      rw [w64 (x := tilesV a (m : Int) c r - 1) (by omega) (by omega)]
      by_cases h2 : 0 ≤ t ∧ t < tilesV a (m : Int) c r
      · rw [within_yes h2.1 (by omega)]
        simp only [Option.bind_some, if_true, if_pos (show (0 : Int) ≤ (m : Int) by omega), decide_eq_true h2, Bool.true_and, Int.toNat_natCast, shl_val m (by omega)]
        rw [w64 (x := 2 ^ m - 1) (by omega) (by omega)]
        by_cases h4 : 0 ≤ f ∧ f < 2 ^ m
        · rw [within_yes h4.1 (by omega)]
          simp only [Option.bind_some, if_true, decide_eq_true h4, Bool.true_and, within_any]
          exact Ev.now _
        · rw [within_no (x := f) (by omega)]
          simp only [Option.bind_some, Bool.false_eq_true, if_false, decide_eq_false h4, Bool.false_and]
          exact Ev.now _
      · rw [within_no (x := t) (by omega)]
        simp only [Option.bind_some, Bool.false_eq_true, if_false, decide_eq_false h2, Bool.false_and]
        exact Ev.now _
  · rw [Bool.eq_false_iff.2 hs, Bool.false_and]
    exact Ev.now _
theorem and1_val (n : Int) (h0 : 0 ≤ n) (h1 : n < 4611686018427387904) : Go.bits .and .i64 n 1 = n % 2 := by
  have h := Go.bits_mask .i64 62 (by decide) (fun m hm0 hm1 => by rw [Go.IntKind.wrap_i64]; omega) 1 (by decide) n h0 (by omega)
  simpa using h
theorem signs_loop : ∀ (j : Nat) (n : Int) (tl : List Int), 0 ≤ n → n < 4611686018427387904 → j ≤ 1000000 →
    Ev (fun k => impl_signs.l0 k n (List.replicate j 0 ++ tl) ((j : Int) - 1)) (strOfNums (sg j n ++ tl))
  | 0, n, tl, h0, h1, hj => by
    refine Ev.step (f := fun _ => some (strOfNums tl)) (fun k => ?_) (by simp only [sg, List.nil_append]; exact Ev.now _)
    simp only [impl_signs.l0, List.replicate_zero, List.nil_append]
    rw [if_neg (by omega)]
  | j + 1, n, tl, h0, h1, hj => by
    have ih := signs_loop j (n / 2) ((48 + n % 2) :: tl) (by omega) (by omega) (by omega)
    have e : sg (j + 1) n ++ tl = sg j (n / 2) ++ (48 + n % 2) :: tl := by simp [sg]
    rw [e]
    refine Ev.step (fun k => ?_) ih
    simp only [impl_signs.l0]
    rw [if_pos (by omega), if_pos (by omega), if_pos (by simp; omega), and1_val n h0 h1, w64 (x := 48 + n % 2) (by omega) (by omega)]
    rw [Int.emod_eq_of_lt (a := 48 + n % 2) (by omega) (by omega), show (((j + 1 : Nat) : Int) - 1).toNat = j by omega, set_rep]
    rw [w64 (by omega) (by omega), show ((j + 1 : Nat) : Int) - 1 - 1 = (j : Int) - 1 by omega]
theorem signs_ev (n : Int) (w : Nat) (h0 : 0 ≤ n) (h1 : n < 4611686018427387904) (hw : w ≤ 1000000) : Ev (fun k => impl_signs.f k n (w : Int)) (strOfNums (sg w n)) := by
  have h := signs_loop w n [] h0 h1 hw
  rw [List.append_nil, List.append_nil] at h
  refine Ev.congr (fun k => ?_) h
  unfold impl_signs.f
  rw [if_pos (by omega), if_pos (by omega), Int.toNat_natCast, w64 (by omega) (by omega)]
theorem figs_loop : ∀ (j n : Nat) (c : Int), n < 2 ^ j → 0 ≤ c → c + j ≤ 1000 → Ev (fun k => impl_figuresOf.l0 k (n : Int) c) (c + (bl n : Int))
  | j, n, c, hn, h0, h1 => by
    by_cases hz : n = 0
    · subst hz
      rw [bl_zero]
      refine Ev.step (f := fun _ => some c) (fun k => ?_) (by simp only [Int.natCast_zero, Int.add_zero]; exact Ev.now _)
      simp only [impl_figuresOf.l0]
      rw [if_neg (by omega)]
    · obtain ⟨j, rfl⟩ : ∃ i, j = i + 1 := by
        cases j with
        | zero => simp at hn; omega
        | succ i => exact ⟨i, rfl⟩
      have ih := figs_loop j (n / 2) (c + 1) (by rw [Nat.pow_succ] at hn; omega) (by omega) (by omega)
      rw [bl_pos n hz, show c + ((bl (n / 2) + 1 : Nat) : Int) = c + 1 + (bl (n / 2) : Int) by omega]
      refine Ev.step (fun k => ?_) ih
      simp only [impl_figuresOf.l0]
      rw [if_pos (by omega), w64 (x := c + 1) (by omega) (by omega), show (n : Int) / 2 = ((n / 2 : Nat) : Int) by omega]
theorem impl_ue_ev (n : Nat) (h : n < 2 ^ 60) : Ev (fun k => impl_ue.f k (n : Int)) (strOfNums (ueL n)) := by
  have hb := bl_small 61 (n + 1) (by omega)
  have h1 := bl_one (n + 1) (by omega)
  have hf := figs_loop 61 (n + 1) 0 (by omega) (by decide) (by decide)
  rw [Int.zero_add] at hf
  have hs := signs_ev ((n + 1 : Nat) : Int) (2 * bl (n + 1) - 1) (by omega) (by omega) (by omega)
  unfold impl_ue.f impl_figuresOf.f
  rw [w64 (x := (n : Int) + 1) (by omega) (by omega), show (n : Int) + 1 = ((n + 1 : Nat) : Int) by omega]
  refine Ev.bind hf ?_
  rw [w64 (x := 2 * ((bl (n + 1) : Nat) : Int)) (by omega) (by omega), w64 (by omega) (by omega), show 2 * ((bl (n + 1) : Nat) : Int) - 1 = ((2 * bl (n + 1) - 1 : Nat) : Int) by omega]
  exact Ev.bind hs (Ev.now _)
/-- UeRow. -/
def ueRow (n : Int) : ByteArray × Bool := if 0 ≤ n ∧ n ≤ 1000000 then (strOfNums (ueL n.toNat), true) else (strOfNums [], false)
theorem impl_uerow_ev (n : Int) : Ev (fun k => impl_UeRow.f k n) (ueRow n) := by
  unfold impl_UeRow.f ueRow
  by_cases h : 0 ≤ n ∧ n ≤ 1000000
  · obtain ⟨m, rfl⟩ := Int.eq_ofNat_of_zero_le h.1
    rw [within_yes h.1 h.2, if_pos h]
    simp only [Option.bind_some, if_true]
    exact Ev.bind (impl_ue_ev m (by omega)) (Ev.now _)
  · rw [within_no h, if_neg h]
    exact Ev.now _
theorem impl_fold_yes {n : Int} (h0 : -500000 ≤ n) (h1 : n ≤ 500000) : impl_FoldSe.f n = some ((foldN n : Int), true) := by
  unfold impl_FoldSe.f foldN
  rw [within_yes h0 h1]
  simp only [Option.bind_some, if_true]
  by_cases h : n > 0
  · rw [if_pos h, if_pos h, w64 (x := 2 * n) (by omega) (by omega), w64 (by omega) (by omega), Int.toNat_of_nonneg (by omega)]
  · rw [if_neg h, if_neg h, w64 (by omega) (by omega), Int.toNat_of_nonneg (by omega)]
theorem impl_fold_no {n : Int} (h : ¬ (-500000 ≤ n ∧ n ≤ 500000)) : impl_FoldSe.f n = some (0, false) := by
  unfold impl_FoldSe.f
  rw [within_no h]
  rfl
theorem ifold_le {n : Int} (h0 : -500000 ≤ n) (h1 : n ≤ 500000) : foldN n ≤ 1000000 := by
  unfold foldN
  split <;> omega
theorem impl_serow_ev (n : Int) : Ev (fun k => impl_SeRow.f k n) (if -500000 ≤ n ∧ n ≤ 500000 then (strOfNums (ueL (foldN n)), true) else (strOfNums [], false)) := by
  unfold impl_SeRow.f
  by_cases h : -500000 ≤ n ∧ n ≤ 500000
  · have hf := ifold_le h.1 h.2
    rw [impl_fold_yes h.1 h.2, if_pos h]
    simp only [Option.bind_some, if_true]
    have := impl_uerow_ev ((foldN n : Nat) : Int)
    unfold ueRow at this
    rw [if_pos ⟨by omega, by omega⟩, Int.toNat_natCast] at this
    exact Ev.bind this (Ev.now _)
  · rw [impl_fold_no h, if_neg h]
    exact Ev.now _
theorem impl_headrow_ev (a b : Int) (c r : List Int) (q : Int) (x y z : Bool) (t f h : Int) : Ev (fun k => impl_HeadRow.f k a b c r q x y z t f h) (if headOk a b c r q x y z t f h = true then (strOfNums (headL b q t f h), true) else (strOfNums [], false)) := by
  unfold impl_HeadRow.f
  refine Ev.bind (impl_headok_ev a b c r q x y z t f h) ?_
  by_cases ok : headOk a b c r q x y z t f h = true
  · obtain ⟨_, _, q0, q1, t0, t1, _, f0, f1, f2, h0, h1, b0, b1⟩ := headOk_facts ok
    have k1 := ueL_short (n := t.toNat) (by omega)
    have k2 := ueL_short (n := foldN (h - q)) (by have := fold_small (n := h - q) (by omega) (by omega); omega)
    have hue := impl_ue_ev t.toNat (by omega)
    rw [Int.toNat_of_nonneg (by omega)] at hue
    have hfix := signs_ev f b.toNat f0 (by omega) (by omega)
    rw [Int.toNat_of_nonneg (by omega)] at hfix
    have hse := impl_serow_ev (h - q)
    rw [if_pos ⟨by omega, by omega⟩] at hse
    simp only [ok, if_true]
    rw [w64 (x := h - q) (by omega) (by omega)]
    refine Ev.bind hse (Ev.bind hue (Ev.bind hfix ?_))
    simp only [str_size, sg_len, if_pos (show (ueL t.toNat).length + b.toNat ≤ 9223372036854775807 by omega), str_append, List.length_append, if_pos (show (ueL t.toNat).length + b.toNat + (ueL (foldN (h - q))).length ≤ 9223372036854775807 by omega)]
    exact Ev.now _
  · simp only [if_neg ok]
    exact Ev.now _
theorem FnExactHeadRow : laws_FnExactHeadRow.Pure := by
  intro a b c r q x y z t f h _ _ hc _ hr _ _ _ _ _
  refine Ev.rounds ?_
  unfold laws_FnExactHeadRow.f
  rcases szSeq_val a b hc hr with ⟨hl, e⟩ | e
  · have h1 : c.length ≤ 1048576 := by omega
    have h2 : r.length ≤ 1048576 := by omega
    rw [e]
    simp only [Option.bind_some, if_neg (show ¬ (1048576 : Int) - (c.length : Int) - (r.length : Int) < 0 by omega), laws_toPar.f, laws_toHead.f]
    refine Ev.bind (toSeq_ev h1 h2) (Ev.bind (spec_headrow_ev a b c r q x y z t f h) (Ev.bind (toSeq_ev h1 h2) (Ev.bind (impl_headrow_ev a b c r q x y z t f h) ?_)))
    simp only [if_true, bne_self_eq_false]
    refine Ev.step (f := fun k => (laws_toSeq.f k a b c r).bind fun s => (laws_eqSeq.f k a b c r s.1 s.2.1 s.2.2.1 s.2.2.2).bind fun t => if t = true then (some true) else (some false)) (fun k => ?_) (Ev.bind (toSeq_ev h1 h2) (Ev.bind (eqSeq_ev h1 h2) (by simp only [if_true]; exact Ev.now _)))
    simp only [laws_FnExactHeadRow.j0, Bool.false_eq_true, if_false]
  · rw [e]
    exact Ev.now _

end Go.Proofs.Ytheafkkpapnmdaa.Pure
