/- The program's Unhex returns what the reference's returns, for every text. -/
import Derived.Test.YtibnnodjockcbaaQFnExactUnhexx1
set_option linter.unusedVariables false
set_option linter.unusedSimpArgs false
namespace Go.Proofs.Ytibnnodjockcbaa.Pure
open Go.RowKit Go.Proofs.Ytibnnodjockcbaa.QFnExactUnhex Go.Proofs.YtibnnodjockcbaaW.PrintWords Go.Proofs.YtibnnodjockcbaaW.PrintLast Go.Proofs.YtibnnodjockcbaaW.PrintMore

/-! ### Bytes as lists of numbers, and some plain facts -/
theorem w64 {x : Int} (h0 : -9223372036854775808 ≤ x) (h1 : x ≤ 9223372036854775807) : wrap64 x = x := by
  unfold wrap64
  omega
theorem i64_bounds {x : Int} (h : (Lit.int .i64 x).wf = true) : -9223372036854775808 ≤ x ∧ x ≤ 9223372036854775807 := by
  have e := h
  simp [Lit.wf, IntKind.min, IntKind.max, IntKind.signed, IntKind.bits] at e
  omega
/-- All numbers of the list are bytes. -/
def Bys (l : List Int) : Prop := ∀ x, x ∈ l → 0 ≤ x ∧ x < 256
theorem Bys.nil : Bys [] := fun _ h => by cases h
theorem Bys.cons {x : Int} {l : List Int} (h0 : 0 ≤ x) (h1 : x < 256) (h : Bys l) : Bys (x :: l) := fun y hy => by
  rcases List.mem_cons.1 hy with rfl | hy
  · exact ⟨h0, h1⟩
  · exact h y hy
theorem Bys.append {l m : List Int} (h : Bys l) (h' : Bys m) : Bys (l ++ m) := fun y hy => by
  rcases List.mem_append.1 hy with hy | hy
  · exact h y hy
  · exact h' y hy
theorem Bys.left {l m : List Int} (h : Bys (l ++ m)) : Bys l := fun y hy => h y (List.mem_append_left _ hy)
theorem Bys.right {l m : List Int} (h : Bys (l ++ m)) : Bys m := fun y hy => h y (List.mem_append_right _ hy)
theorem Bys.take {l : List Int} (h : Bys l) (n : Nat) : Bys (l.take n) := fun y hy => h y (List.mem_of_mem_take hy)
theorem Bys.drop {l : List Int} (h : Bys l) (n : Nat) : Bys (l.drop n) := fun y hy => h y (List.mem_of_mem_drop hy)
theorem Bys.getD {l : List Int} (h : Bys l) (i : Nat) : 0 ≤ l.getD i 0 ∧ l.getD i 0 < 256 := by
  rw [List.getD_eq_getElem?_getD]
  by_cases hi : i < l.length
  · rw [List.getElem?_eq_getElem hi]
    exact h _ (List.getElem_mem hi)
  · rw [List.getElem?_eq_none (by omega)]
    exact ⟨by decide, by decide⟩
theorem nums_of (a : ByteArray) : ∃ l, Bys l ∧ a = strOfNums l := by
  refine ⟨a.data.toList.map fun u => (u.toNat : Int), ?_, ?_⟩
  · intro x hx
    obtain ⟨u, _, rfl⟩ := List.mem_map.1 hx
    have := u.toNat_lt
    omega
  · unfold strOfNums
    rw [List.map_map]
    have e : ((fun n : Int => UInt8.ofNat n.toNat) ∘ fun u : UInt8 => (u.toNat : Int)) = id := by
      funext u
      simp
    rw [e, List.map_id]
theorem str_size (l : List Int) : (strOfNums l).size = l.length := strOfNums_size l
theorem bt_str {l : List Int} (h : Bys l) (i : Int) : bt (strOfNums l) i = l.getD i.toNat 0 := by
  unfold bt
  rw [List.getD_eq_getElem?_getD]
  split
  · rename_i hi
    have hi' : i.toNat < l.length := by rw [← str_size]; exact hi
    rw [List.getElem?_eq_getElem hi']
    have hb := h _ (List.getElem_mem hi')
    have e : (strOfNums l)[i.toNat]'hi = UInt8.ofNat (l[i.toNat]).toNat := by
      simp [strOfNums, ByteArray.getElem_eq_getElem_data]
    rw [e, UInt8.toNat_ofNat']
    simp only [Option.getD_some]
    omega
  · rename_i hi
    rw [List.getElem?_eq_none (by rw [← str_size]; omega)]
    rfl
theorem bt_get {l : List Int} (h : Bys l) {i : Int} {n : Nat} (hi : i = (n : Int)) : bt (strOfNums l) i = l.getD n 0 := by
  rw [bt_str h, hi, Int.toNat_natCast]
theorem str_append (l m : List Int) : strOfNums l ++ strOfNums m = strOfNums (l ++ m) := by
  apply ByteArray.ext
  rw [ByteArray.data_append]
  unfold strOfNums
  simp
theorem str_empty : (⟨#[]⟩ : ByteArray) = strOfNums [] := rfl
theorem str_inj {l m : List Int} (hl : Bys l) (hm : Bys m) (h : strOfNums l = strOfNums m) : l = m := by
  have hs : l.length = m.length := by rw [← str_size l, ← str_size m, h]
  apply List.ext_getElem hs
  intro i h1 h2
  have e1 := bt_get hl (i := (i : Int)) rfl
  have e2 := bt_get hm (i := (i : Int)) rfl
  rw [h, e2] at e1
  simp [List.getD_eq_getElem?_getD, h1, h2] at e1
  exact e1.symm
theorem str_extract (l : List Int) (i j : Nat) : (strOfNums l).extract i j = strOfNums ((l.take j).drop i) := by
  apply ByteArray.ext
  rw [ByteArray.data_extract]
  unfold strOfNums
  apply Array.ext'
  simp [List.extract_eq_take_drop, List.drop_take, List.map_drop, List.map_take]
theorem getD_mid (pre suf : List Int) (x : Int) : (pre ++ x :: suf).getD pre.length 0 = x := by
  rw [List.getD_eq_getElem?_getD, List.getElem?_append_right (Nat.le_refl _)]
  simp
theorem bt_mid {pre suf : List Int} {x : Int} (h : Bys (pre ++ x :: suf)) : bt (strOfNums (pre ++ x :: suf)) (pre.length : Int) = x := by
  rw [bt_get h rfl, getD_mid]
theorem rd_mid (pre suf : List Int) (x : Int) : rd (pre ++ x :: suf) (pre.length : Int) = x := by
  unfold rd
  rw [Int.toNat_natCast, getD_mid]
theorem snoc_cons (pre suf : List Int) (x : Int) : pre ++ x :: suf = (pre ++ [x]) ++ suf := by simp
theorem next_len (pre : List Int) (x : Int) (h : pre.length < 4611686018427387904) : wrap64 ((pre.length : Int) + 1) = ((pre ++ [x]).length : Int) := by
  rw [w64 (by omega) (by omega)]
  simp
theorem lt_mid (pre suf : List Int) (x : Int) : (pre.length : Int) < ((strOfNums (pre ++ x :: suf)).size : Int) := by
  rw [str_size]
  simp
  omega
theorem ge_end (pre : List Int) : ¬ ((pre.length : Int) < ((strOfNums pre).size : Int)) := by
  rw [str_size]
  omega
theorem mid_byte {pre suf : List Int} {x : Int} (h : Bys (pre ++ x :: suf)) : 0 ≤ x ∧ x < 256 := h x (by simp)
theorem exact_sb {g h : Nat → Option (ByteArray × Bool)} {v : ByteArray × Bool} (hg : Ev g v) (hh : Ev h v) :
    Ev (fun k => (g k).bind fun b1 => (h k).bind fun b2 => if b2.1.toList = b1.1.toList then (if (b2.2 != b1.2) = true then some false else some true) else some false) true := by
  refine Ev.bind hg (Ev.bind hh ?_)
  simp only [if_true, bne_self_eq_false, Bool.false_eq_true, if_false]
  exact Ev.now _
theorem exact_i {g h : Nat → Option Int} {v : Int} (hg : Ev g v) (hh : Ev h v) :
    Ev (fun k => (g k).bind fun b1 => (h k).bind fun b2 => if b2 = b1 then some true else some false) true := by
  refine Ev.bind hg (Ev.bind hh ?_)
  simp only [if_true]
  exact Ev.now _
theorem exact_s {g h : Nat → Option ByteArray} {v : ByteArray} (hg : Ev g v) (hh : Ev h v) :
    Ev (fun k => (g k).bind fun b1 => (h k).bind fun b2 => if b2.toList = b1.toList then some true else some false) true := by
  refine Ev.bind hg (Ev.bind hh ?_)
  simp only [if_true]
  exact Ev.now _
theorem exact_ib {g h : Nat → Option (Int × Bool)} {v : Int × Bool} (hg : Ev g v) (hh : Ev h v) :
    Ev (fun k => (g k).bind fun b1 => (h k).bind fun b2 => if b2.1 = b1.1 then (if (b2.2 != b1.2) = true then some false else some true) else some false) true := by
  refine Ev.bind hg (Ev.bind hh ?_)
  simp only [if_true, bne_self_eq_false, Bool.false_eq_true, if_false]
  exact Ev.now _
theorem exact_iib {g h : Nat → Option (Int × Int × Bool)} {v : Int × Int × Bool} (hg : Ev g v) (hh : Ev h v) :
    Ev (fun k => (g k).bind fun b1 => (h k).bind fun b2 => if b2.1 = b1.1 then (if b2.2.1 = b1.2.1 then (if (b2.2.2 != b1.2.2) = true then some false else some true) else some false) else some false) true := by
  refine Ev.bind hg (Ev.bind hh ?_)
  simp only [if_true, bne_self_eq_false, Bool.false_eq_true, if_false]
  exact Ev.now _
theorem exact_b {g h : Nat → Option Bool} {v : Bool} (hg : Ev g v) (hh : Ev h v) :
    Ev (fun k => (g k).bind fun b1 => (h k).bind fun b2 => if (b2 != b1) = true then some false else some true) true := by
  refine Ev.bind hg (Ev.bind hh ?_)
  simp only [bne_self_eq_false, Bool.false_eq_true, if_false]
  exact Ev.now _
theorem ev_now {α : Type} {g : Nat → Option α} {v : α} (h : ∀ k, g k = some v) : Ev g v := Ev.congr h (Ev.now v)
/-- The value of a figure, or -1. -/
def fv (x : Int) : Int := if 48 ≤ x ∧ x ≤ 57 then x - 48 else if 97 ≤ x ∧ x ≤ 102 then x - 87 else -1
theorem fv_range (x : Int) : -1 ≤ fv x ∧ fv x < 16 := by
  unfold fv
  split
  · omega
  · split <;> omega
def unhx : List Int → Option (List Int)
  | [] => some []
  | [_] => none
  | x :: y :: l => if fv x < 0 ∨ fv y < 0 then none else (unhx l).map fun r => (16 * fv x + fv y) :: r
def unhxRes (acc : List Int) (o : Option (List Int)) : ByteArray × Bool := match o with | some r => (strOfNums (acc ++ r), true) | none => (strOfNums [], false)
def unhxAll (l : List Int) : ByteArray × Bool := if l.length % 2 = 0 ∧ l.length ≤ 40000 then unhxRes [] (unhx l) else (strOfNums [], false)
theorem next_two (pre : List Int) (x y : Int) (h : pre.length < 4611686018427387904) : wrap64 ((pre.length : Int) + 2) = ((pre ++ [x, y]).length : Int) := by
  rw [w64 (by omega) (by omega)]
  simp
theorem two_cons (pre suf : List Int) (x y : Int) : pre ++ x :: y :: suf = (pre ++ [x, y]) ++ suf := by simp
theorem bt_mid2 {pre suf : List Int} {x y : Int} (h : Bys (pre ++ x :: y :: suf)) : bt (strOfNums (pre ++ x :: y :: suf)) ((pre.length : Int) + 1) = y := by
  rw [bt_get h (n := pre.length + 1) (by omega), List.getD_eq_getElem?_getD, List.getElem?_append_right (by omega)]
  simp
theorem impl_figure_ev (x : Int) (h0 : 0 ≤ x) (h1 : x < 256) : Ev (fun k => impl_figure.f k x) (fv x) := by
  unfold impl_figure.f fv
  by_cases h2 : x ≥ 48
  · simp only [if_pos h2]
    by_cases h3 : x ≤ 57
    · rw [if_pos ⟨h2, h3⟩]
      refine Ev.step (f := fun _ => some (x - 48)) (fun k => ?_) (Ev.now _)
      simp only [impl_figure.j0, decide_eq_true h3, if_true]
      rw [Int.emod_eq_of_lt (by omega) (by omega)]
    · rw [if_neg (by omega)]
      refine Ev.step (f := fun _ => some (if 97 ≤ x ∧ x ≤ 102 then x - 87 else -1)) (fun k => ?_) (Ev.now _)
      simp only [impl_figure.j0, decide_eq_false h3, Bool.false_eq_true, if_false]
      by_cases h4 : x ≥ 97
      · rw [if_pos h4]
        by_cases h5 : x ≤ 102
        · rw [if_pos h5, if_pos ⟨h4, h5⟩, Int.emod_eq_of_lt (by omega) (by omega)]
          congr 1
          omega
        · rw [if_neg h5, if_neg (by omega)]
      · rw [if_neg h4, if_neg (by omega)]
  · simp only [if_neg h2]
    rw [if_neg (by omega), if_neg (by omega)]
    refine Ev.step (f := fun _ => some (-1)) (fun k => ?_) (Ev.now _)
    simp only [impl_figure.j0, Bool.false_eq_true, if_false]
    rw [if_neg (by omega)]
theorem or_figs : ∀ m : Fin 256, (Go.bits .or .i64 (wrap64 ((((m : Nat) / 16 : Nat) : Int) * 16)) (((m : Nat) % 16 : Nat) : Int)) % 256 = ((m : Nat) : Int) := by decide +kernel
theorem or_val (a b : Int) (h0 : 0 ≤ a) (h1 : a < 16) (h2 : 0 ≤ b) (h3 : b < 16) : (Go.bits .or .i64 (wrap64 (a * 16)) b) % 256 = 16 * a + b := by
  obtain ⟨m, rfl⟩ := Int.eq_ofNat_of_zero_le h0
  obtain ⟨n, rfl⟩ := Int.eq_ofNat_of_zero_le h2
  have h := or_figs ⟨16 * m + n, by omega⟩
  simp only at h
  rw [show (16 * m + n) / 16 = m by omega, show (16 * m + n) % 16 = n by omega] at h
  rw [h]
  omega
theorem impl_unhex_loop : ∀ (n : Nat) (suf pre acc : List Int), suf.length = 2 * n → Bys (pre ++ suf) → (pre ++ suf).length ≤ 40000 → acc.length ≤ pre.length →
    Ev (fun k => impl_Unhex.l0 k (strOfNums (pre ++ suf)) acc (pre.length : Int)) (unhxRes acc (unhx suf))
  | 0, suf, pre, acc, hs, hb, hl, ha => by
    have : suf = [] := List.eq_nil_of_length_eq_zero (by omega)
    subst this
    refine Ev.step (f := fun _ => some (strOfNums acc, true)) (fun k => ?_) (by simp only [unhx, unhxRes, List.append_nil]; exact Ev.now _)
    simp only [impl_Unhex.l0, List.append_nil]
    rw [if_neg (ge_end pre)]
  | n + 1, suf, pre, acc, hs, hb, hl, ha => by
    match suf, hs with
    | x :: y :: suf, hs =>
      have hx1 := mid_byte hb
      have hy1 : 0 ≤ y ∧ y < 256 := hb y (by simp)
      have hl' : pre.length + (suf.length + 2) ≤ 40000 := by simpa using hl
      have hsz : (strOfNums (pre ++ x :: y :: suf)).size = pre.length + (suf.length + 2) := by rw [str_size]; simp
      have f1 := impl_figure_ev x hx1.1 hx1.2
      have f2 := impl_figure_ev y hy1.1 hy1.2
      have r1 := fv_range x
      have r2 := fv_range y
      have hstep : ∀ k, impl_Unhex.l0 (k + 1) (strOfNums (pre ++ x :: y :: suf)) acc (pre.length : Int) = ((impl_figure.f k x).bind fun t => ((impl_figure.f k y).bind fun u => (if t < 0 then (some ((⟨#[]⟩ : ByteArray), false)) else (if u < 0 then (some ((⟨#[]⟩ : ByteArray), false)) else (impl_Unhex.l0 k (strOfNums (pre ++ x :: y :: suf)) (acc ++ [(Go.bits .or .i64 (wrap64 (t * 16)) u) % 256]) ((pre ++ [x, y]).length : Int)))))) := fun k => by
        simp only [impl_Unhex.l0]
        rw [if_pos (by omega), if_pos (by omega), bt_mid hb, next_two pre x y (by omega), w64 (x := (pre.length : Int) + 1) (by omega) (by omega), bt_mid2 hb]
        simp only [if_pos (show (0 : Int) ≤ (pre.length : Int) + 1 by omega), if_pos (show (pre.length : Int) + 1 < ((strOfNums (pre ++ x :: y :: suf)).size : Int) by omega), if_pos (show acc.length < 140737488355328 by omega)]
      refine Ev.step hstep (Ev.bind f1 (Ev.bind f2 ?_))
      by_cases h1 : fv x < 0
      · simp only [if_pos h1, unhx, if_pos (Or.inl h1 : fv x < 0 ∨ fv y < 0), unhxRes]
        exact Ev.now _
      · by_cases h2 : fv y < 0
        · simp only [if_neg h1, if_pos h2, unhx, if_pos (Or.inr h2 : fv x < 0 ∨ fv y < 0), unhxRes]
          exact Ev.now _
        · have ih := impl_unhex_loop n suf (pre ++ [x, y]) (acc ++ [16 * fv x + fv y]) (by simp at hs; omega) (by rw [← two_cons]; exact hb) (by rw [← two_cons]; exact hl) (by simp; omega)
          rw [← two_cons] at ih
          simp only [if_neg h1, if_neg h2, unhx, if_neg (show ¬ (fv x < 0 ∨ fv y < 0) by omega), or_val (fv x) (fv y) (by omega) (by omega) (by omega) (by omega)]
          have e : unhxRes (acc ++ [16 * fv x + fv y]) (unhx suf) = unhxRes acc ((unhx suf).map fun r => (16 * fv x + fv y) :: r) := by
            cases unhx suf with
            | none => rfl
            | some r => simp [unhxRes]
          rw [← e]
          exact ih
theorem impl_unhex_ev {l : List Int} (hb : Bys l) (hl : l.length ≤ 1048576) : Ev (fun k => impl_Unhex.f k (strOfNums l)) (unhxAll l) := by
  unfold impl_Unhex.f unhxAll
  have no : Ev (fun k => impl_Unhex.j0 k (strOfNums l) true) (strOfNums [], false) :=
    Ev.step (f := fun _ => some (strOfNums [], false)) (fun k => by simp only [impl_Unhex.j0, if_true]; rfl) (Ev.now _)
  by_cases h1 : l.length % 2 = 0
  · simp only [if_pos (show ((strOfNums l).size : Int) % 2 = 0 by rw [str_size]; omega)]
    by_cases h2 : l.length ≤ 40000
    · rw [if_pos ⟨h1, h2⟩, decide_eq_false (by rw [str_size]; omega)]
      have h := impl_unhex_loop (l.length / 2) l [] [] (by omega) hb h2 (Nat.zero_le _)
      simp only [List.nil_append] at h
      refine Ev.step (fun k => ?_) h
      simp only [impl_Unhex.j0, Bool.false_eq_true, if_false]
      rw [str_size, w64 (by omega) (by omega), if_pos (by omega), if_pos (by omega)]
      rfl
    · rw [if_neg (by omega), decide_eq_true (by rw [str_size]; omega)]
      exact no
  · simp only [if_neg (show ¬ ((strOfNums l).size : Int) % 2 = 0 by rw [str_size]; omega)]
    rw [if_neg (by omega)]
    exact no
theorem spec_figure_ev (x : Int) (h0 : 0 ≤ x) (h1 : x < 256) : Ev (fun k => spec_l01Value.f k x) (fv x) := by
  unfold spec_l01Value.f fv
  by_cases h2 : x ≥ 48
  · simp only [if_pos h2]
    by_cases h3 : x ≤ 57
    · rw [if_pos ⟨h2, h3⟩]
      refine Ev.step (f := fun _ => some (x - 48)) (fun k => ?_) (Ev.now _)
      simp only [spec_l01Value.j0, decide_eq_true h3, if_true]
      rw [w64 (x := x) (by omega) (by omega), w64 (by omega) (by omega)]
    · rw [if_neg (by omega)]
      refine Ev.step (f := fun _ => some (if 97 ≤ x ∧ x ≤ 102 then x - 87 else -1)) (fun k => ?_) (Ev.now _)
      simp only [spec_l01Value.j0, decide_eq_false h3, Bool.false_eq_true, if_false]
      by_cases h4 : x ≥ 97
      · rw [if_pos h4]
        by_cases h5 : x ≤ 102
        · rw [if_pos h5, if_pos ⟨h4, h5⟩, w64 (x := x) (by omega) (by omega), w64 (x := x - 97) (by omega) (by omega), w64 (by omega) (by omega)]
          congr 1
          omega
        · rw [if_neg h5, if_neg (by omega)]
      · rw [if_neg h4, if_neg (by omega)]
  · simp only [if_neg h2]
    rw [if_neg (by omega), if_neg (by omega)]
    refine Ev.step (f := fun _ => some (-1)) (fun k => ?_) (Ev.now _)
    simp only [spec_l01Value.j0, Bool.false_eq_true, if_false]
    rw [if_neg (by omega)]
theorem sum_val (a b : Int) (h0 : 0 ≤ a) (h1 : a < 16) (h2 : 0 ≤ b) (h3 : b < 16) : (wrap64 ((wrap64 (16 * a)) + b)) % 256 = 16 * a + b := by
  rw [w64 (x := 16 * a) (by omega) (by omega), w64 (by omega) (by omega), Int.emod_eq_of_lt (by omega) (by omega)]
theorem spec_unhex_loop : ∀ (n : Nat) (suf pre acc : List Int), suf.length = 2 * n → Bys (pre ++ suf) → (pre ++ suf).length ≤ 40000 → acc.length ≤ pre.length →
    Ev (fun k => spec_Unhex.l0 k (strOfNums (pre ++ suf)) acc (pre.length : Int)) (unhxRes acc (unhx suf))
  | 0, suf, pre, acc, hs, hb, hl, ha => by
    have : suf = [] := List.eq_nil_of_length_eq_zero (by omega)
    subst this
    refine Ev.step (f := fun _ => some (strOfNums acc, true)) (fun k => ?_) (by simp only [unhx, unhxRes, List.append_nil]; exact Ev.now _)
    simp only [spec_Unhex.l0, List.append_nil]
    rw [if_neg (ge_end pre)]
  | n + 1, suf, pre, acc, hs, hb, hl, ha => by
    match suf, hs with
    | x :: y :: suf, hs =>
      have hx1 := mid_byte hb
      have hy1 : 0 ≤ y ∧ y < 256 := hb y (by simp)
      have hl' : pre.length + (suf.length + 2) ≤ 40000 := by simpa using hl
      have hsz : (strOfNums (pre ++ x :: y :: suf)).size = pre.length + (suf.length + 2) := by rw [str_size]; simp
      have f1 := spec_figure_ev x hx1.1 hx1.2
      have f2 := spec_figure_ev y hy1.1 hy1.2
      have r1 := fv_range x
      have r2 := fv_range y
      have hstep : ∀ k, spec_Unhex.l0 (k + 1) (strOfNums (pre ++ x :: y :: suf)) acc (pre.length : Int) = ((spec_l01Value.f k x).bind fun t => ((spec_l01Value.f k y).bind fun u => (if t < 0 then (some ((⟨#[]⟩ : ByteArray), false)) else (if u < 0 then (some ((⟨#[]⟩ : ByteArray), false)) else (spec_Unhex.l0 k (strOfNums (pre ++ x :: y :: suf)) (acc ++ [(wrap64 ((wrap64 (16 * t)) + u)) % 256]) ((pre ++ [x, y]).length : Int)))))) := fun k => by
        simp only [spec_Unhex.l0]
        rw [if_pos (by omega), if_pos (by omega), bt_mid hb, next_two pre x y (by omega), w64 (x := (pre.length : Int) + 1) (by omega) (by omega), bt_mid2 hb]
        simp only [if_pos (show (0 : Int) ≤ (pre.length : Int) + 1 by omega), if_pos (show (pre.length : Int) + 1 < ((strOfNums (pre ++ x :: y :: suf)).size : Int) by omega), if_pos (show acc.length < 140737488355328 by omega)]
      refine Ev.step hstep (Ev.bind f1 (Ev.bind f2 ?_))
      by_cases h1 : fv x < 0
      · simp only [if_pos h1, unhx, if_pos (Or.inl h1 : fv x < 0 ∨ fv y < 0), unhxRes]
        exact Ev.now _
      · by_cases h2 : fv y < 0
        · simp only [if_neg h1, if_pos h2, unhx, if_pos (Or.inr h2 : fv x < 0 ∨ fv y < 0), unhxRes]
          exact Ev.now _
        · have ih := spec_unhex_loop n suf (pre ++ [x, y]) (acc ++ [16 * fv x + fv y]) (by simp at hs; omega) (by rw [← two_cons]; exact hb) (by rw [← two_cons]; exact hl) (by simp; omega)
          rw [← two_cons] at ih
          simp only [if_neg h1, if_neg h2, unhx, if_neg (show ¬ (fv x < 0 ∨ fv y < 0) by omega), sum_val (fv x) (fv y) (by omega) (by omega) (by omega) (by omega)]
          have e : unhxRes (acc ++ [16 * fv x + fv y]) (unhx suf) = unhxRes acc ((unhx suf).map fun r => (16 * fv x + fv y) :: r) := by
            cases unhx suf with
            | none => rfl
            | some r => simp [unhxRes]
          rw [← e]
          exact ih
theorem spec_unhex_ev {l : List Int} (hb : Bys l) (hl : l.length ≤ 1048576) : Ev (fun k => spec_Unhex.f k (strOfNums l)) (unhxAll l) := by
  unfold spec_Unhex.f unhxAll
  have no : Ev (fun k => spec_Unhex.j0 k (strOfNums l) true) (strOfNums [], false) :=
    Ev.step (f := fun _ => some (strOfNums [], false)) (fun k => by simp only [spec_Unhex.j0, if_true]; rfl) (Ev.now _)
  by_cases h2 : l.length ≤ 40000
  · simp only [if_neg (show ¬ ((strOfNums l).size : Int) > 40000 by rw [str_size]; omega)]
    by_cases h1 : l.length % 2 = 0
    · rw [if_pos ⟨h1, h2⟩, bne_eq_false_iff_eq.2 (by rw [str_size]; omega)]
      have h := spec_unhex_loop (l.length / 2) l [] [] (by omega) hb h2 (Nat.zero_le _)
      simp only [List.nil_append] at h
      refine Ev.step (fun k => ?_) h
      simp only [spec_Unhex.j0, Bool.false_eq_true, if_false]
      rfl
    · rw [if_neg (by omega), bne_iff_ne.2 (by rw [str_size]; omega)]
      exact no
  · simp only [if_pos (show ((strOfNums l).size : Int) > 40000 by rw [str_size]; omega)]
    rw [if_neg (by omega)]
    exact no
theorem FnExactUnhex : laws_FnExactUnhex.Pure := by
  intro a _
  obtain ⟨l, hb, rfl⟩ := nums_of a
  by_cases hbig : ((strOfNums l).size : Int) > 1048576
  · exact ⟨0, by unfold laws_FnExactUnhex.f; rw [if_pos hbig]⟩
  · have hl : l.length ≤ 1048576 := by rw [str_size] at hbig; omega
    refine Ev.rounds ?_
    unfold laws_FnExactUnhex.f
    simp only [if_neg hbig]
    exact exact_sb (spec_unhex_ev hb hl) (impl_unhex_ev hb hl)

end Go.Proofs.Ytibnnodjockcbaa.Pure
