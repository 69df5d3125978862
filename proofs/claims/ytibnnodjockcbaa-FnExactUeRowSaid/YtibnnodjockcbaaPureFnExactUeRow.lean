/- The program's UeRow returns what the reference's returns, for every number. -/
import Derived.Test.YtibnnodjockcbaaQFnExactUeRowx1
set_option linter.unusedVariables false
set_option linter.unusedSimpArgs false
namespace Go.Proofs.Ytibnnodjockcbaa.Pure
open Go.RowKit Go.Proofs.Ytibnnodjockcbaa.QFnExactUeRow Go.Proofs.YtibnnodjockcbaaW.PrintWords Go.Proofs.YtibnnodjockcbaaW.PrintLast Go.Proofs.YtibnnodjockcbaaW.PrintMore

/-! ### Bytes as lists of numbers, and some plain facts -/
theorem w64 {x : Int} (h0 : -9223372036854775808 ≤ x) (h1 : x ≤ 9223372036854775807) : wrap64 x = x := by
  unfold wrap64
  omega
theorem i64_bounds {x : Int} (h : (Lit.int .i64 x).wf = true) : -9223372036854775808 ≤ x ∧ x ≤ 9223372036854775807 := by
  have e := h
  simp [Lit.wf, IntKind.min, IntKind.max, IntKind.signed, IntKind.bits] at e
  omega
/-- All numbers of the list are bytes. -/
def Bys (l : List Int) : Prop := ∀ x, x ∈ l → 0 ≤ x ∧ x < 256
theorem Bys.nil : Bys [] := fun _ h => by cases h
theorem Bys.cons {x : Int} {l : List Int} (h0 : 0 ≤ x) (h1 : x < 256) (h : Bys l) : Bys (x :: l) := fun y hy => by
  rcases List.mem_cons.1 hy with rfl | hy
  · exact ⟨h0, h1⟩
  · exact h y hy
theorem Bys.append {l m : List Int} (h : Bys l) (h' : Bys m) : Bys (l ++ m) := fun y hy => by
  rcases List.mem_append.1 hy with hy | hy
  · exact h y hy
  · exact h' y hy
theorem Bys.left {l m : List Int} (h : Bys (l ++ m)) : Bys l := fun y hy => h y (List.mem_append_left _ hy)
theorem Bys.right {l m : List Int} (h : Bys (l ++ m)) : Bys m := fun y hy => h y (List.mem_append_right _ hy)
theorem Bys.take {l : List Int} (h : Bys l) (n : Nat) : Bys (l.take n) := fun y hy => h y (List.mem_of_mem_take hy)
theorem Bys.drop {l : List Int} (h : Bys l) (n : Nat) : Bys (l.drop n) := fun y hy => h y (List.mem_of_mem_drop hy)
theorem Bys.getD {l : List Int} (h : Bys l) (i : Nat) : 0 ≤ l.getD i 0 ∧ l.getD i 0 < 256 := by
  rw [List.getD_eq_getElem?_getD]
  by_cases hi : i < l.length
  · rw [List.getElem?_eq_getElem hi]
    exact h _ (List.getElem_mem hi)
  · rw [List.getElem?_eq_none (by omega)]
    exact ⟨by decide, by decide⟩
theorem nums_of (a : ByteArray) : ∃ l, Bys l ∧ a = strOfNums l := by
  refine ⟨a.data.toList.map fun u => (u.toNat : Int), ?_, ?_⟩
  · intro x hx
    obtain ⟨u, _, rfl⟩ := List.mem_map.1 hx
    have := u.toNat_lt
    omega
  · unfold strOfNums
    rw [List.map_map]
    have e : ((fun n : Int => UInt8.ofNat n.toNat) ∘ fun u : UInt8 => (u.toNat : Int)) = id := by
      funext u
      simp
    rw [e, List.map_id]
theorem str_size (l : List Int) : (strOfNums l).size = l.length := strOfNums_size l
theorem bt_str {l : List Int} (h : Bys l) (i : Int) : bt (strOfNums l) i = l.getD i.toNat 0 := by
  unfold bt
  rw [List.getD_eq_getElem?_getD]
  split
  · rename_i hi
    have hi' : i.toNat < l.length := by rw [← str_size]; exact hi
    rw [List.getElem?_eq_getElem hi']
    have hb := h _ (List.getElem_mem hi')
    have e : (strOfNums l)[i.toNat]'hi = UInt8.ofNat (l[i.toNat]).toNat := by
      simp [strOfNums, ByteArray.getElem_eq_getElem_data]
    rw [e, UInt8.toNat_ofNat']
    simp only [Option.getD_some]
    omega
  · rename_i hi
    rw [List.getElem?_eq_none (by rw [← str_size]; omega)]
    rfl
theorem bt_get {l : List Int} (h : Bys l) {i : Int} {n : Nat} (hi : i = (n : Int)) : bt (strOfNums l) i = l.getD n 0 := by
  rw [bt_str h, hi, Int.toNat_natCast]
theorem str_append (l m : List Int) : strOfNums l ++ strOfNums m = strOfNums (l ++ m) := by
  apply ByteArray.ext
  rw [ByteArray.data_append]
  unfold strOfNums
  simp
theorem str_empty : (⟨#[]⟩ : ByteArray) = strOfNums [] := rfl
theorem str_inj {l m : List Int} (hl : Bys l) (hm : Bys m) (h : strOfNums l = strOfNums m) : l = m := by
  have hs : l.length = m.length := by rw [← str_size l, ← str_size m, h]
  apply List.ext_getElem hs
  intro i h1 h2
  have e1 := bt_get hl (i := (i : Int)) rfl
  have e2 := bt_get hm (i := (i : Int)) rfl
  rw [h, e2] at e1
  simp [List.getD_eq_getElem?_getD, h1, h2] at e1
  exact e1.symm
theorem str_extract (l : List Int) (i j : Nat) : (strOfNums l).extract i j = strOfNums ((l.take j).drop i) := by
  apply ByteArray.ext
  rw [ByteArray.data_extract]
  unfold strOfNums
  apply Array.ext'
  simp [List.extract_eq_take_drop, List.drop_take, List.map_drop, List.map_take]
theorem getD_mid (pre suf : List Int) (x : Int) : (pre ++ x :: suf).getD pre.length 0 = x := by
  rw [List.getD_eq_getElem?_getD, List.getElem?_append_right (Nat.le_refl _)]
  simp
theorem bt_mid {pre suf : List Int} {x : Int} (h : Bys (pre ++ x :: suf)) : bt (strOfNums (pre ++ x :: suf)) (pre.length : Int) = x := by
  rw [bt_get h rfl, getD_mid]
theorem rd_mid (pre suf : List Int) (x : Int) : rd (pre ++ x :: suf) (pre.length : Int) = x := by
  unfold rd
  rw [Int.toNat_natCast, getD_mid]
theorem snoc_cons (pre suf : List Int) (x : Int) : pre ++ x :: suf = (pre ++ [x]) ++ suf := by simp
theorem next_len (pre : List Int) (x : Int) (h : pre.length < 4611686018427387904) : wrap64 ((pre.length : Int) + 1) = ((pre ++ [x]).length : Int) := by
  rw [w64 (by omega) (by omega)]
  simp
theorem lt_mid (pre suf : List Int) (x : Int) : (pre.length : Int) < ((strOfNums (pre ++ x :: suf)).size : Int) := by
  rw [str_size]
  simp
  omega
theorem ge_end (pre : List Int) : ¬ ((pre.length : Int) < ((strOfNums pre).size : Int)) := by
  rw [str_size]
  omega
theorem mid_byte {pre suf : List Int} {x : Int} (h : Bys (pre ++ x :: suf)) : 0 ≤ x ∧ x < 256 := h x (by simp)
/-- The signs of a number, so many. -/
def sg : Nat → Int → List Int
  | 0, _ => []
  | w + 1, n => sg w (n / 2) ++ [48 + n % 2]
theorem sg_len : ∀ (w : Nat) (n : Int), (sg w n).length = w
  | 0, _ => rfl
  | w + 1, n => by simp [sg, sg_len w]
theorem sg_row : ∀ (w : Nat) (n : Int), ∀ x, x ∈ sg w n → x = 48 ∨ x = 49
  | 0, _ => fun _ h => by cases h
  | w + 1, n => fun x hx => by
    rcases List.mem_append.1 hx with h | h
    · exact sg_row w _ x h
    · have : x = 48 + n % 2 := by simpa using h
      omega
theorem sg_bys (w : Nat) (n : Int) : Bys (sg w n) := fun x hx => by
  rcases sg_row w n x hx with h | h <;> omega
theorem set_rep (j : Nat) (v : Int) (tl : List Int) : (List.replicate (j + 1) (0 : Int) ++ tl).set j v = List.replicate j 0 ++ v :: tl := by
  rw [List.replicate_succ', List.append_assoc, List.set_append_right _ _ (by simp)]
  simp
/-- How many binary figures a number has. -/
def bl (n : Nat) : Nat := if h : n = 0 then 0 else bl (n / 2) + 1
termination_by n
decreasing_by omega
theorem bl_zero : bl 0 = 0 := by rw [bl]; simp
theorem bl_pos (n : Nat) (h : n ≠ 0) : bl n = bl (n / 2) + 1 := by rw [bl]; simp [h]
theorem bl_small : ∀ (j n : Nat), n < 2 ^ j → bl n ≤ j
  | 0, n, h => by
    have : n = 0 := by simpa using h
    subst this
    rw [bl_zero]
    exact Nat.le_refl _
  | j + 1, n, h => by
    by_cases h0 : n = 0
    · subst h0
      rw [bl_zero]
      omega
    · rw [bl_pos n h0]
      have := bl_small j (n / 2) (by rw [Nat.pow_succ] at h; omega)
      omega
theorem lt_bl (j : Nat) : ∀ n : Nat, n < j → n < 2 ^ bl n := by
  induction j with
  | zero => intro n h; omega
  | succ j ih =>
    intro n h
    by_cases h0 : n = 0
    · subst h0
      rw [bl_zero]
      decide
    · rw [bl_pos n h0, Nat.pow_succ]
      have := ih (n / 2) (by omega)
      omega
theorem lt_two_bl (n : Nat) : n < 2 ^ bl n := lt_bl (n + 1) n (Nat.lt_succ_self n)
theorem bl_one (n : Nat) (h : n ≠ 0) : 1 ≤ bl n := by rw [bl_pos n h]; omega
theorem sg_zero : ∀ j : Nat, sg j 0 = List.replicate j 48
  | 0 => rfl
  | j + 1 => by
    rw [sg, show (0 : Int) / 2 = 0 by decide, sg_zero j, List.replicate_succ']
    rfl
/-- Noughts ahead. -/
theorem sg_pad (j : Nat) : ∀ (w : Nat) (n : Nat), n < 2 ^ w → sg (j + w) (n : Int) = List.replicate j 48 ++ sg w (n : Int)
  | 0, n, h => by
    have : n = 0 := by simpa using h
    subst this
    simp [sg, sg_zero]
  | w + 1, n, h => by
    have h2 : n / 2 < 2 ^ w := by rw [Nat.pow_succ] at h; omega
    have ih := sg_pad j w (n / 2) h2
    rw [← Nat.add_assoc, sg, sg, show ((n : Int) / 2) = ((n / 2 : Nat) : Int) by omega, ih, List.append_assoc]
/-- The row of a counted number. -/
def ueL (n : Nat) : List Int := sg (2 * bl (n + 1) - 1) ((n + 1 : Nat) : Int)
theorem ueL_len (n : Nat) : (ueL n).length = 2 * bl (n + 1) - 1 := sg_len _ _
theorem ueL_eq (n : Nat) : ueL n = List.replicate (bl (n + 1) - 1) 48 ++ sg (bl (n + 1)) ((n + 1 : Nat) : Int) := by
  unfold ueL
  have h := bl_one (n + 1) (by omega)
  rw [show 2 * bl (n + 1) - 1 = (bl (n + 1) - 1) + bl (n + 1) by omega]
  exact sg_pad _ _ _ (lt_two_bl (n + 1))
theorem ueL_bys (n : Nat) : Bys (ueL n) := sg_bys _ _
theorem and1_val (n : Int) (h0 : 0 ≤ n) (h1 : n < 4611686018427387904) : Go.bits .and .i64 n 1 = n % 2 := by
  have h := Go.bits_mask .i64 62 (by decide) (fun m hm0 hm1 => by rw [Go.IntKind.wrap_i64]; omega) 1 (by decide) n h0 (by omega)
  simpa using h
theorem signs_loop : ∀ (j : Nat) (n : Int) (tl : List Int), 0 ≤ n → n < 4611686018427387904 → j ≤ 1000000 →
    Ev (fun k => impl_signs.l0 k n (List.replicate j 0 ++ tl) ((j : Int) - 1)) (strOfNums (sg j n ++ tl))
  | 0, n, tl, h0, h1, hj => by
    refine Ev.step (f := fun _ => some (strOfNums tl)) (fun k => ?_) (by simp only [sg, List.nil_append]; exact Ev.now _)
    simp only [impl_signs.l0, List.replicate_zero, List.nil_append]
    rw [if_neg (by omega)]
  | j + 1, n, tl, h0, h1, hj => by
    have ih := signs_loop j (n / 2) ((48 + n % 2) :: tl) (by omega) (by omega) (by omega)
    have e : sg (j + 1) n ++ tl = sg j (n / 2) ++ (48 + n % 2) :: tl := by simp [sg]
    rw [e]
    refine Ev.step (fun k => ?_) ih
    simp only [impl_signs.l0]
    rw [if_pos (by omega), if_pos (by omega), if_pos (by simp; omega), and1_val n h0 h1, w64 (x := 48 + n % 2) (by omega) (by omega)]
    rw [Int.emod_eq_of_lt (a := 48 + n % 2) (by omega) (by omega), show (((j + 1 : Nat) : Int) - 1).toNat = j by omega, set_rep]
    rw [w64 (by omega) (by omega), show ((j + 1 : Nat) : Int) - 1 - 1 = (j : Int) - 1 by omega]
theorem signs_ev (n : Int) (w : Nat) (h0 : 0 ≤ n) (h1 : n < 4611686018427387904) (hw : w ≤ 1000000) : Ev (fun k => impl_signs.f k n (w : Int)) (strOfNums (sg w n)) := by
  have h := signs_loop w n [] h0 h1 hw
  rw [List.append_nil, List.append_nil] at h
  refine Ev.congr (fun k => ?_) h
  unfold impl_signs.f
  rw [if_pos (by omega), if_pos (by omega), Int.toNat_natCast, w64 (by omega) (by omega)]
theorem exact_sb {g h : Nat → Option (ByteArray × Bool)} {v : ByteArray × Bool} (hg : Ev g v) (hh : Ev h v) :
    Ev (fun k => (g k).bind fun b1 => (h k).bind fun b2 => if b2.1.toList = b1.1.toList then (if (b2.2 != b1.2) = true then some false else some true) else some false) true := by
  refine Ev.bind hg (Ev.bind hh ?_)
  simp only [if_true, bne_self_eq_false, Bool.false_eq_true, if_false]
  exact Ev.now _
theorem exact_i {g h : Nat → Option Int} {v : Int} (hg : Ev g v) (hh : Ev h v) :
    Ev (fun k => (g k).bind fun b1 => (h k).bind fun b2 => if b2 = b1 then some true else some false) true := by
  refine Ev.bind hg (Ev.bind hh ?_)
  simp only [if_true]
  exact Ev.now _
theorem exact_s {g h : Nat → Option ByteArray} {v : ByteArray} (hg : Ev g v) (hh : Ev h v) :
    Ev (fun k => (g k).bind fun b1 => (h k).bind fun b2 => if b2.toList = b1.toList then some true else some false) true := by
  refine Ev.bind hg (Ev.bind hh ?_)
  simp only [if_true]
  exact Ev.now _
theorem exact_ib {g h : Nat → Option (Int × Bool)} {v : Int × Bool} (hg : Ev g v) (hh : Ev h v) :
    Ev (fun k => (g k).bind fun b1 => (h k).bind fun b2 => if b2.1 = b1.1 then (if (b2.2 != b1.2) = true then some false else some true) else some false) true := by
  refine Ev.bind hg (Ev.bind hh ?_)
  simp only [if_true, bne_self_eq_false, Bool.false_eq_true, if_false]
  exact Ev.now _
theorem exact_iib {g h : Nat → Option (Int × Int × Bool)} {v : Int × Int × Bool} (hg : Ev g v) (hh : Ev h v) :
    Ev (fun k => (g k).bind fun b1 => (h k).bind fun b2 => if b2.1 = b1.1 then (if b2.2.1 = b1.2.1 then (if (b2.2.2 != b1.2.2) = true then some false else some true) else some false) else some false) true := by
  refine Ev.bind hg (Ev.bind hh ?_)
  simp only [if_true, bne_self_eq_false, Bool.false_eq_true, if_false]
  exact Ev.now _
theorem exact_b {g h : Nat → Option Bool} {v : Bool} (hg : Ev g v) (hh : Ev h v) :
    Ev (fun k => (g k).bind fun b1 => (h k).bind fun b2 => if (b2 != b1) = true then some false else some true) true := by
  refine Ev.bind hg (Ev.bind hh ?_)
  simp only [bne_self_eq_false, Bool.false_eq_true, if_false]
  exact Ev.now _
theorem ev_now {α : Type} {g : Nat → Option α} {v : α} (h : ∀ k, g k = some v) : Ev g v := Ev.congr h (Ev.now v)
theorem figs_loop : ∀ (j n : Nat) (c : Int), n < 2 ^ j → 0 ≤ c → c + j ≤ 1000 → Ev (fun k => impl_figuresOf.l0 k (n : Int) c) (c + (bl n : Int))
  | j, n, c, hn, h0, h1 => by
    by_cases hz : n = 0
    · subst hz
      rw [bl_zero]
      refine Ev.step (f := fun _ => some c) (fun k => ?_) (by simp only [Int.natCast_zero, Int.add_zero]; exact Ev.now _)
      simp only [impl_figuresOf.l0]
      rw [if_neg (by omega)]
    · obtain ⟨j, rfl⟩ : ∃ i, j = i + 1 := by
        cases j with
        | zero => simp at hn; omega
        | succ i => exact ⟨i, rfl⟩
      have ih := figs_loop j (n / 2) (c + 1) (by rw [Nat.pow_succ] at hn; omega) (by omega) (by omega)
      rw [bl_pos n hz, show c + ((bl (n / 2) + 1 : Nat) : Int) = c + 1 + (bl (n / 2) : Int) by omega]
      refine Ev.step (fun k => ?_) ih
      simp only [impl_figuresOf.l0]
      rw [if_pos (by omega), w64 (x := c + 1) (by omega) (by omega), show (n : Int) / 2 = ((n / 2 : Nat) : Int) by omega]
theorem impl_ue_ev (n : Nat) (h : n < 2 ^ 60) : Ev (fun k => impl_ue.f k (n : Int)) (strOfNums (ueL n)) := by
  have hb := bl_small 61 (n + 1) (by omega)
  have h1 := bl_one (n + 1) (by omega)
  have hf := figs_loop 61 (n + 1) 0 (by omega) (by decide) (by decide)
  rw [Int.zero_add] at hf
  have hs := signs_ev ((n + 1 : Nat) : Int) (2 * bl (n + 1) - 1) (by omega) (by omega) (by omega)
  unfold impl_ue.f impl_figuresOf.f
  rw [w64 (x := (n : Int) + 1) (by omega) (by omega), show (n : Int) + 1 = ((n + 1 : Nat) : Int) by omega]
  refine Ev.bind hf ?_
  rw [w64 (x := 2 * ((bl (n + 1) : Nat) : Int)) (by omega) (by omega), w64 (by omega) (by omega), show 2 * ((bl (n + 1) : Nat) : Int) - 1 = ((2 * bl (n + 1) - 1 : Nat) : Int) by omega]
  exact Ev.bind hs (Ev.now _)
theorem within_yes {x lo hi : Int} (h0 : lo ≤ x) (h1 : x ≤ hi) : impl_within.f x lo hi = some true := by
  unfold impl_within.f
  rw [if_pos h0, decide_eq_true h1]
theorem within_no {x lo hi : Int} (h : ¬ (lo ≤ x ∧ x ≤ hi)) : impl_within.f x lo hi = some false := by
  unfold impl_within.f
  by_cases h0 : lo ≤ x
  · rw [if_pos h0, decide_eq_false (fun h1 => h ⟨h0, h1⟩)]
  · rw [if_neg h0]
theorem within_any (x lo hi : Int) : impl_within.f x lo hi = some (decide (lo ≤ x ∧ x ≤ hi)) := by
  by_cases h : lo ≤ x ∧ x ≤ hi
  · rw [within_yes h.1 h.2, decide_eq_true h]
  · rw [within_no h, decide_eq_false h]
/-- UeRow. -/
def ueRow (n : Int) : ByteArray × Bool := if 0 ≤ n ∧ n ≤ 1000000 then (strOfNums (ueL n.toNat), true) else (strOfNums [], false)
theorem impl_uerow_ev (n : Int) : Ev (fun k => impl_UeRow.f k n) (ueRow n) := by
  unfold impl_UeRow.f ueRow
  by_cases h : 0 ≤ n ∧ n ≤ 1000000
  · obtain ⟨m, rfl⟩ := Int.eq_ofNat_of_zero_le h.1
    rw [within_yes h.1 h.2, if_pos h]
    simp only [Option.bind_some, if_true]
    exact Ev.bind (impl_ue_ev m (by omega)) (Ev.now _)
  · rw [within_no h, if_neg h]
    exact Ev.now _
theorem long_loop : ∀ (d i : Nat) (x : Int), 0 ≤ x → x < 256 → i + d ≤ 1000000 → Ev (fun k => spec_l01Long.l0 k ((i + d : Nat) : Int) x (List.replicate i x ++ List.replicate d 0) (i : Int)) (strOfNums (List.replicate (i + d) x))
  | 0, i, x, h0, h1, hd => by
    refine Ev.step (f := fun _ => some (strOfNums (List.replicate i x))) (fun k => ?_) (Ev.now _)
    simp only [spec_l01Long.l0, Nat.add_zero, List.replicate_zero, List.append_nil]
    rw [if_neg (by omega)]
  | d + 1, i, x, h0, h1, hd => by
    have ih := long_loop d (i + 1) x h0 h1 (by omega)
    rw [show i + 1 + d = i + (d + 1) by omega] at ih
    refine Ev.step (fun k => ?_) ih
    simp only [spec_l01Long.l0]
    rw [if_pos (by omega), if_pos (by omega), if_pos (by simp; omega), w64 (by omega) (by omega), Int.toNat_natCast]
    have : (List.replicate i x ++ List.replicate (d + 1) 0).set i x = List.replicate (i + 1) x ++ List.replicate d 0 := by
      rw [List.set_append_right _ _ (by simp), List.replicate_succ' (n := i), List.append_assoc]
      simp [List.replicate_succ]
    rw [this]
    rfl
theorem long_ev (n : Nat) (x : Int) (h0 : 0 ≤ x) (h1 : x < 256) (hn : n ≤ 1000000) : Ev (fun k => spec_l01Long.f k (n : Int) x) (strOfNums (List.replicate n x)) := by
  have h := long_loop n 0 x h0 h1 (by omega)
  simp only [List.replicate_zero, List.nil_append, Nat.zero_add] at h
  refine Ev.congr (fun k => ?_) h
  unfold spec_l01Long.f
  rw [if_pos (by omega), if_pos (by omega), Int.toNat_natCast]
  rfl
theorem spec_ue_loop : ∀ (j n : Nat) (acc : List Int), n < 2 ^ j → n < 2305843009213693952 → 1 ≤ bl n + acc.length → acc.length + j ≤ 1000 →
    Ev (fun k => spec_l03Ue.l0 k (n : Int) (strOfNums acc)) (strOfNums (List.replicate (bl n + acc.length - 1) 48 ++ (sg (bl n) (n : Int) ++ acc)))
  | j, n, acc, hn, hn2, h1, ha => by
    by_cases hz : n = 0
    · subst hz
      rw [bl_zero] at h1 ⊢
      simp only [Nat.zero_add, sg, List.nil_append]
      refine Ev.step (f := fun k => (spec_l01Long.f k ((acc.length - 1 : Nat) : Int) 48).bind fun t => (if t.size + (strOfNums acc).size ≤ 9223372036854775807 then (some (t ++ strOfNums acc)) else (none))) (fun k => ?_) ?_
      · simp only [spec_l03Ue.l0]
        rw [if_neg (by omega), str_size, w64 (by omega) (by omega), show (acc.length : Int) - 1 = ((acc.length - 1 : Nat) : Int) by omega]
      · refine Ev.bind (long_ev _ 48 (by decide) (by decide) (by omega)) ?_
        simp only [str_size, List.length_replicate, if_pos (show acc.length - 1 + acc.length ≤ 9223372036854775807 by omega), str_append]
        exact Ev.now _
    · obtain ⟨j, rfl⟩ : ∃ i, j = i + 1 := by
        cases j with
        | zero => simp at hn; omega
        | succ i => exact ⟨i, rfl⟩
      have ih := spec_ue_loop j (n / 2) ([48 + ((n % 2 : Nat) : Int)] ++ acc) (by rw [Nat.pow_succ] at hn; omega) (by omega) (by simp; omega) (by simp; omega)
      have e : List.replicate (bl n + acc.length - 1) 48 ++ (sg (bl n) (n : Int) ++ acc) = List.replicate (bl (n / 2) + ([48 + ((n % 2 : Nat) : Int)] ++ acc).length - 1) 48 ++ (sg (bl (n / 2)) ((n / 2 : Nat) : Int) ++ ([48 + ((n % 2 : Nat) : Int)] ++ acc)) := by
        rw [bl_pos n hz, sg, show (n : Int) / 2 = ((n / 2 : Nat) : Int) by omega, show (n : Int) % 2 = ((n % 2 : Nat) : Int) by omega]
        have : bl (n / 2) + 1 + acc.length - 1 = bl (n / 2) + ([48 + ((n % 2 : Nat) : Int)] ++ acc).length - 1 := by rw [List.length_append]; simp only [List.length_cons, List.length_nil]; omega
        rw [this, List.append_assoc]
      rw [e]
      refine Ev.step (fun k => ?_) ih
      simp only [spec_l03Ue.l0]
      rw [if_pos (by omega), Int.tmod_eq_emod_of_nonneg (by omega), Int.tdiv_eq_ediv_of_nonneg (by omega), w64 (x := (n : Int) / 2) (by omega) (by omega), w64 (x := 48 + (n : Int) % 2) (by omega) (by omega), Int.emod_eq_of_lt (a := 48 + (n : Int) % 2) (by omega) (by omega)]
      simp only [Option.bind_some]
      rw [if_pos (by rw [str_size, str_size]; simp; omega), str_append, show (n : Int) / 2 = ((n / 2 : Nat) : Int) by omega, show (n : Int) % 2 = ((n % 2 : Nat) : Int) by omega]
theorem spec_ue_ev (n : Nat) (h : n < 2 ^ 60) : Ev (fun k => spec_l03Ue.f k (n : Int)) (strOfNums (ueL n)) := by
  have h1 := bl_one (n + 1) (by omega)
  have hl := spec_ue_loop 61 (n + 1) [] (by omega) (by omega) (by simp; omega) (by decide)
  rw [ueL_eq]
  simp only [List.length_nil, Nat.add_zero, List.append_nil] at hl
  refine Ev.congr (fun k => ?_) hl
  unfold spec_l03Ue.f
  rw [w64 (by omega) (by omega)]
  rfl
theorem in_yes {x lo hi : Int} (h0 : lo ≤ x) (h1 : x ≤ hi) : spec_l01In.f x lo hi = some true := by
  unfold spec_l01In.f
  rw [if_pos h0, decide_eq_true h1]
theorem in_no {x lo hi : Int} (h : ¬ (lo ≤ x ∧ x ≤ hi)) : spec_l01In.f x lo hi = some false := by
  unfold spec_l01In.f
  by_cases h0 : lo ≤ x
  · rw [if_pos h0, decide_eq_false (fun h1 => h ⟨h0, h1⟩)]
  · rw [if_neg h0]
theorem in_any (x lo hi : Int) : spec_l01In.f x lo hi = some (decide (lo ≤ x ∧ x ≤ hi)) := by
  by_cases h : lo ≤ x ∧ x ≤ hi
  · rw [in_yes h.1 h.2, decide_eq_true h]
  · rw [in_no h, decide_eq_false h]
theorem spec_uerow_ev (n : Int) : Ev (fun k => spec_UeRow.f k n) (if 0 ≤ n ∧ n ≤ 1000000 then (strOfNums (ueL n.toNat), true) else (strOfNums [], false)) := by
  unfold spec_UeRow.f
  by_cases h : 0 ≤ n ∧ n ≤ 1000000
  · obtain ⟨m, rfl⟩ := Int.eq_ofNat_of_zero_le h.1
    rw [in_yes h.1 h.2, if_pos h]
    simp only [Option.bind_some, if_true]
    exact Ev.bind (spec_ue_ev m (by omega)) (Ev.now _)
  · rw [in_no h, if_neg h]
    exact Ev.now _
theorem FnExactUeRow : laws_FnExactUeRow.Pure := by
  intro n _
  refine Ev.rounds ?_
  unfold laws_FnExactUeRow.f
  exact exact_sb (spec_uerow_ev n) (impl_uerow_ev n)

end Go.Proofs.Ytibnnodjockcbaa.Pure
