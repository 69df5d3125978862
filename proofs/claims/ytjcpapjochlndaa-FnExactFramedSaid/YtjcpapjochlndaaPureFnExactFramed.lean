/- The program's Framed returns what the reference's returns, for every list of texts, and leaves the list as it was. -/
import Derived.Test.YtjcpapjochlndaaQFnExactFramedx3
import Derived.Test.YtjcpapjochlndaaStmtFnExactFramed
set_option linter.unusedVariables false
set_option linter.unusedSimpArgs false
namespace Go.Proofs.Ytjcpapjochlndaa.Pure
open Go.RowKit Go.Proofs.Ytjcpapjochlndaa.QFnExactFramed Go.Proofs.YtjcpapjochlndaaW.PrintWords Go.Proofs.YtjcpapjochlndaaW.PrintLast Go.Proofs.YtjcpapjochlndaaW.PrintMore

/-! ### Bytes as lists of numbers, and some plain facts -/
theorem w64 {x : Int} (h0 : -9223372036854775808 ≤ x) (h1 : x ≤ 9223372036854775807) : wrap64 x = x := by
  unfold wrap64
  omega
theorem i64_bounds {x : Int} (h : (Lit.int .i64 x).wf = true) : -9223372036854775808 ≤ x ∧ x ≤ 9223372036854775807 := by
  have e := h
  simp [Lit.wf, IntKind.min, IntKind.max, IntKind.signed, IntKind.bits] at e
  omega
/-- All numbers of the list are bytes. -/
def Bys (l : List Int) : Prop := ∀ x, x ∈ l → 0 ≤ x ∧ x < 256
theorem Bys.nil : Bys [] := fun _ h => by cases h
theorem Bys.cons {x : Int} {l : List Int} (h0 : 0 ≤ x) (h1 : x < 256) (h : Bys l) : Bys (x :: l) := fun y hy => by
  rcases List.mem_cons.1 hy with rfl | hy
  · exact ⟨h0, h1⟩
  · exact h y hy
theorem Bys.append {l m : List Int} (h : Bys l) (h' : Bys m) : Bys (l ++ m) := fun y hy => by
  rcases List.mem_append.1 hy with hy | hy
  · exact h y hy
  · exact h' y hy
theorem Bys.left {l m : List Int} (h : Bys (l ++ m)) : Bys l := fun y hy => h y (List.mem_append_left _ hy)
theorem Bys.right {l m : List Int} (h : Bys (l ++ m)) : Bys m := fun y hy => h y (List.mem_append_right _ hy)
theorem Bys.take {l : List Int} (h : Bys l) (n : Nat) : Bys (l.take n) := fun y hy => h y (List.mem_of_mem_take hy)
theorem Bys.drop {l : List Int} (h : Bys l) (n : Nat) : Bys (l.drop n) := fun y hy => h y (List.mem_of_mem_drop hy)
theorem Bys.getD {l : List Int} (h : Bys l) (i : Nat) : 0 ≤ l.getD i 0 ∧ l.getD i 0 < 256 := by
  rw [List.getD_eq_getElem?_getD]
  by_cases hi : i < l.length
  · rw [List.getElem?_eq_getElem hi]
    exact h _ (List.getElem_mem hi)
  · rw [List.getElem?_eq_none (by omega)]
    exact ⟨by decide, by decide⟩
theorem nums_of (a : ByteArray) : ∃ l, Bys l ∧ a = strOfNums l := by
  refine ⟨a.data.toList.map fun u => (u.toNat : Int), ?_, ?_⟩
  · intro x hx
    obtain ⟨u, _, rfl⟩ := List.mem_map.1 hx
    have := u.toNat_lt
    omega
  · unfold strOfNums
    rw [List.map_map]
    have e : ((fun n : Int => UInt8.ofNat n.toNat) ∘ fun u : UInt8 => (u.toNat : Int)) = id := by
      funext u
      simp
    rw [e, List.map_id]
theorem str_size (l : List Int) : (strOfNums l).size = l.length := strOfNums_size l
theorem bt_str {l : List Int} (h : Bys l) (i : Int) : bt (strOfNums l) i = l.getD i.toNat 0 := by
  unfold bt
  rw [List.getD_eq_getElem?_getD]
  split
  · rename_i hi
    have hi' : i.toNat < l.length := by rw [← str_size]; exact hi
    rw [List.getElem?_eq_getElem hi']
    have hb := h _ (List.getElem_mem hi')
    have e : (strOfNums l)[i.toNat]'hi = UInt8.ofNat (l[i.toNat]).toNat := by
      simp [strOfNums, ByteArray.getElem_eq_getElem_data]
    rw [e, UInt8.toNat_ofNat']
    simp only [Option.getD_some]
    omega
  · rename_i hi
    rw [List.getElem?_eq_none (by rw [← str_size]; omega)]
    rfl
theorem bt_get {l : List Int} (h : Bys l) {i : Int} {n : Nat} (hi : i = (n : Int)) : bt (strOfNums l) i = l.getD n 0 := by
  rw [bt_str h, hi, Int.toNat_natCast]
theorem str_append (l m : List Int) : strOfNums l ++ strOfNums m = strOfNums (l ++ m) := by
  apply ByteArray.ext
  rw [ByteArray.data_append]
  unfold strOfNums
  simp
theorem str_empty : (⟨#[]⟩ : ByteArray) = strOfNums [] := rfl
theorem str_inj {l m : List Int} (hl : Bys l) (hm : Bys m) (h : strOfNums l = strOfNums m) : l = m := by
  have hs : l.length = m.length := by rw [← str_size l, ← str_size m, h]
  apply List.ext_getElem hs
  intro i h1 h2
  have e1 := bt_get hl (i := (i : Int)) rfl
  have e2 := bt_get hm (i := (i : Int)) rfl
  rw [h, e2] at e1
  simp [List.getD_eq_getElem?_getD, h1, h2] at e1
  exact e1.symm
theorem str_extract (l : List Int) (i j : Nat) : (strOfNums l).extract i j = strOfNums ((l.take j).drop i) := by
  apply ByteArray.ext
  rw [ByteArray.data_extract]
  unfold strOfNums
  apply Array.ext'
  simp [List.extract_eq_take_drop, List.drop_take, List.map_drop, List.map_take]
theorem getD_mid (pre suf : List Int) (x : Int) : (pre ++ x :: suf).getD pre.length 0 = x := by
  rw [List.getD_eq_getElem?_getD, List.getElem?_append_right (Nat.le_refl _)]
  simp
theorem bt_mid {pre suf : List Int} {x : Int} (h : Bys (pre ++ x :: suf)) : bt (strOfNums (pre ++ x :: suf)) (pre.length : Int) = x := by
  rw [bt_get h rfl, getD_mid]
theorem rd_mid (pre suf : List Int) (x : Int) : rd (pre ++ x :: suf) (pre.length : Int) = x := by
  unfold rd
  rw [Int.toNat_natCast, getD_mid]
theorem snoc_cons (pre suf : List Int) (x : Int) : pre ++ x :: suf = (pre ++ [x]) ++ suf := by simp
theorem next_len (pre : List Int) (x : Int) (h : pre.length < 4611686018427387904) : wrap64 ((pre.length : Int) + 1) = ((pre ++ [x]).length : Int) := by
  rw [w64 (by omega) (by omega)]
  simp
theorem lt_mid (pre suf : List Int) (x : Int) : (pre.length : Int) < ((strOfNums (pre ++ x :: suf)).size : Int) := by
  rw [str_size]
  simp
  omega
theorem ge_end (pre : List Int) : ¬ ((pre.length : Int) < ((strOfNums pre).size : Int)) := by
  rw [str_size]
  omega
theorem mid_byte {pre suf : List Int} {x : Int} (h : Bys (pre ++ x :: suf)) : 0 ≤ x ∧ x < 256 := h x (by simp)
/-- A text, escaped, behind z zeros. -/
def esc : Nat → List Int → List Int
  | _, [] => []
  | z, x :: l => if x < 4 ∧ 2 ≤ z then 3 :: x :: esc (if x = 0 then 1 else 0) l else x :: esc (if x = 0 then z + 1 else 0) l
/-- Whether Escaped takes the text. -/
def escOk (l : List Int) : Bool := decide (l ≠ [] ∧ l.length ≤ 60000 ∧ l.getLast? ≠ some 0)
theorem esc_bys : ∀ (l : List Int) (z : Nat), Bys l → Bys (esc z l)
  | [], _, _ => Bys.nil
  | x :: l, z, h => by
    have hx := h x (by simp)
    have hl : Bys l := fun y hy => h y (by simp [hy])
    unfold esc
    split
    · exact Bys.cons (by decide) (by decide) (Bys.cons hx.1 hx.2 (esc_bys l _ hl))
    · exact Bys.cons hx.1 hx.2 (esc_bys l _ hl)
theorem esc_len : ∀ (l : List Int) (z : Nat), l.length ≤ (esc z l).length ∧ (esc z l).length ≤ 2 * l.length
  | [], _ => ⟨Nat.le_refl _, Nat.le_refl _⟩
  | x :: l, z => by
    unfold esc
    split
    · have := esc_len l (if x = 0 then 1 else 0)
      simp only [List.length_cons]
      omega
    · have := esc_len l (if x = 0 then z + 1 else 0)
      simp only [List.length_cons]
      omega
theorem last_get (l : List Int) (h : l ≠ []) : l.getLast? = some (l.getD (l.length - 1) 0) := by
  rw [List.getLast?_eq_getElem?, List.getD_eq_getElem?_getD]
  have : l.length - 1 < l.length := by
    have := List.length_pos_iff.2 h
    omega
  rw [List.getElem?_eq_getElem this]
  rfl
theorem bt_last {l : List Int} (hb : Bys l) (h : l ≠ []) (hl : l.length ≤ 1048576) : bt (strOfNums l) (wrap64 (((strOfNums l).size : Int) - 1)) = l.getD (l.length - 1) 0 := by
  have := List.length_pos_iff.2 h
  rw [str_size, w64 (by omega) (by omega)]
  exact bt_get hb (by omega)
theorem str_toList (l : List Int) : (strOfNums l).toList = l.map fun n => UInt8.ofNat n.toNat := by
  rw [Go.ByteArray.toList_eq, strOfNums_data]
theorem str_toList_nil {l : List Int} : (strOfNums l).toList = ([] : List UInt8) ↔ l = [] := by
  rw [str_toList, List.map_eq_nil_iff]
theorem str_toList_inj {l m : List Int} (hl : Bys l) (hm : Bys m) : (strOfNums l).toList = (strOfNums m).toList ↔ l = m := by
  constructor
  · intro h
    apply str_inj hl hm
    apply ByteArray.ext
    apply Array.ext'
    rw [← Go.ByteArray.toList_eq, ← Go.ByteArray.toList_eq, h]
  · intro h
    rw [h]
theorem exact_sb {g h : Nat → Option (ByteArray × Bool)} {v : ByteArray × Bool} (hg : Ev g v) (hh : Ev h v) :
    Ev (fun k => (g k).bind fun b1 => (h k).bind fun b2 => if b2.1.toList = b1.1.toList then (if (b2.2 != b1.2) = true then some false else some true) else some false) true := by
  refine Ev.bind hg (Ev.bind hh ?_)
  simp only [if_true, bne_self_eq_false, Bool.false_eq_true, if_false]
  exact Ev.now _
theorem exact_i {g h : Nat → Option Int} {v : Int} (hg : Ev g v) (hh : Ev h v) :
    Ev (fun k => (g k).bind fun b1 => (h k).bind fun b2 => if b2 = b1 then some true else some false) true := by
  refine Ev.bind hg (Ev.bind hh ?_)
  simp only [if_true]
  exact Ev.now _
theorem exact_s {g h : Nat → Option ByteArray} {v : ByteArray} (hg : Ev g v) (hh : Ev h v) :
    Ev (fun k => (g k).bind fun b1 => (h k).bind fun b2 => if b2.toList = b1.toList then some true else some false) true := by
  refine Ev.bind hg (Ev.bind hh ?_)
  simp only [if_true]
  exact Ev.now _
theorem exact_ib {g h : Nat → Option (Int × Bool)} {v : Int × Bool} (hg : Ev g v) (hh : Ev h v) :
    Ev (fun k => (g k).bind fun b1 => (h k).bind fun b2 => if b2.1 = b1.1 then (if (b2.2 != b1.2) = true then some false else some true) else some false) true := by
  refine Ev.bind hg (Ev.bind hh ?_)
  simp only [if_true, bne_self_eq_false, Bool.false_eq_true, if_false]
  exact Ev.now _
theorem exact_iib {g h : Nat → Option (Int × Int × Bool)} {v : Int × Int × Bool} (hg : Ev g v) (hh : Ev h v) :
    Ev (fun k => (g k).bind fun b1 => (h k).bind fun b2 => if b2.1 = b1.1 then (if b2.2.1 = b1.2.1 then (if (b2.2.2 != b1.2.2) = true then some false else some true) else some false) else some false) true := by
  refine Ev.bind hg (Ev.bind hh ?_)
  simp only [if_true, bne_self_eq_false, Bool.false_eq_true, if_false]
  exact Ev.now _
theorem exact_b {g h : Nat → Option Bool} {v : Bool} (hg : Ev g v) (hh : Ev h v) :
    Ev (fun k => (g k).bind fun b1 => (h k).bind fun b2 => if (b2 != b1) = true then some false else some true) true := by
  refine Ev.bind hg (Ev.bind hh ?_)
  simp only [bne_self_eq_false, Bool.false_eq_true, if_false]
  exact Ev.now _
theorem ev_now {α : Type} {g : Nat → Option α} {v : α} (h : ∀ k, g k = some v) : Ev g v := Ev.congr h (Ev.now v)
/-- What the escaping put in is left out again, behind z zeros. -/
def une : Nat → List Int → List Int
  | _, [] => []
  | z, x :: l => if x = 3 ∧ 2 ≤ z then une 0 l else x :: une (if x = 0 then z + 1 else 0) l
def uneRes (t out : List Int) : ByteArray × Bool := if escOk out = true ∧ esc 0 out = t then (strOfNums out, true) else (strOfNums [], false)
theorem une_bys : ∀ (l : List Int) (z : Nat), Bys l → Bys (une z l)
  | [], _, _ => Bys.nil
  | x :: l, z, h => by
    have hx := h x (by simp)
    have hl : Bys l := fun y hy => h y (by simp [hy])
    unfold une
    split
    · exact une_bys l _ hl
    · exact Bys.cons hx.1 hx.2 (une_bys l _ hl)
theorem une_len : ∀ (l : List Int) (z : Nat), (une z l).length ≤ l.length
  | [], _ => Nat.le_refl _
  | x :: l, z => by
    unfold une
    split
    · have := une_len l 0
      simp only [List.length_cons]
      omega
    · have := une_len l (if x = 0 then z + 1 else 0)
      simp only [List.length_cons]
      omega
/-- A start at a place. -/
def isStart (l : List Int) (i : Nat) : Bool := decide (i + 2 < l.length) && (l.getD i 0 == 0 && (l.getD (i + 1) 0 == 0 && l.getD (i + 2) 0 == 1))
/-- The starts from a place on, so many places. -/
def starts (l : List Int) : Nat → Nat → List Nat
  | 0, _ => []
  | d + 1, i => if isStart l i = true then i :: starts l d (i + 1) else starts l d (i + 1)
/-- The zeros at a text's end left out. -/
def strip (l : List Int) (f : Nat) : Nat → Nat
  | 0 => 0
  | q + 1 => if f < q + 1 ∧ l.getD q 0 = 0 then strip l f q else q + 1
theorem strip_bounds (l : List Int) (f : Nat) : ∀ q : Nat, f ≤ q → f ≤ strip l f q ∧ strip l f q ≤ q
  | 0, h => ⟨by simpa [strip] using h, Nat.le_refl _⟩
  | q + 1, h => by
    unfold strip
    split
    · rename_i hc
      have := strip_bounds l f q (by omega)
      omega
    · omega
def seg (l : List Int) (f q : Nat) : List Int := (l.take (strip l f q)).drop f
/-- One unit more. -/
def addU (l : List Int) (out : List ByteArray) (f q : Nat) : List ByteArray := if (uneRes (seg l f q) (une 0 (seg l f q))).2 = true then (if out.length < 400 then out ++ [(uneRes (seg l f q) (une 0 (seg l f q))).1] else out) else out
/-- The units behind the starts. -/
def runU (l : List Int) : List ByteArray → Nat → List Nat → List ByteArray
  | out, f, [] => addU l out f l.length
  | out, f, p :: P => runU l (addU l out f p) (p + 3) P
def allU (l : List Int) : List Nat → List ByteArray
  | [] => []
  | p :: P => runU l [] (p + 3) P
theorem addU_len (l : List Int) (out : List ByteArray) (f q : Nat) (h : out.length ≤ 400) : (addU l out f q).length ≤ 400 := by
  unfold addU
  split
  · split
    · rw [List.length_append, List.length_singleton]; omega
    · exact h
  · exact h
theorem addU_full (l : List Int) (out : List ByteArray) (f q : Nat) (h : ¬ out.length < 400) : addU l out f q = out := by
  unfold addU
  rw [if_neg h, ite_self]
theorem runU_full (l : List Int) (out : List ByteArray) (h : ¬ out.length < 400) : ∀ (P : List Nat) (f : Nat), runU l out f P = out
  | [], f => addU_full l out f _ h
  | p :: P, f => by rw [runU, addU_full l out f p h, runU_full l out h P]
theorem runU_len (l : List Int) : ∀ (P : List Nat) (out : List ByteArray) (f : Nat), out.length ≤ 400 → (runU l out f P).length ≤ 400
  | [], out, f, h => addU_len l out f _ h
  | p :: P, out, f, h => runU_len l P _ _ (addU_len l out f p h)
theorem allU_len (l : List Int) (P : List Nat) : (allU l P).length ≤ 400 := by
  cases P with
  | nil => exact Nat.zero_le _
  | cons p P => exact runU_len l P [] _ (Nat.zero_le _)
theorem seg_bys {l : List Int} (hb : Bys l) (f q : Nat) : Bys (seg l f q) := (hb.take _).drop _
theorem seg_len {l : List Int} (f q : Nat) : (seg l f q).length ≤ l.length := by
  unfold seg
  rw [List.length_drop, List.length_take]
  omega
theorem starts_apart {l : List Int} {i j : Nat} (h : isStart l i = true) (hj : isStart l j = true) (hij : i < j) : i + 3 ≤ j := by
  unfold isStart at h hj
  simp only [Bool.and_eq_true, decide_eq_true_eq, beq_iff_eq] at h hj
  obtain ⟨_, _, _, h3⟩ := h
  obtain ⟨_, g1, g2, _⟩ := hj
  by_cases e1 : j = i + 1
  · subst e1
    rw [show i + 1 + 1 = i + 2 by omega, h3] at g2
    exact absurd g2 (by decide)
  · by_cases e2 : j = i + 2
    · subst e2
      rw [h3] at g1
      exact absurd g1 (by decide)
    · omega
theorem start_last {l : List Int} {i : Nat} (h : ¬ i + 2 < l.length) : isStart l i = false := by
  unfold isStart
  rw [decide_eq_false h]
  rfl
theorem starts_nil {l : List Int} : ∀ (d i : Nat), ¬ i + 2 < l.length → starts l d i = []
  | 0, _, _ => rfl
  | d + 1, i, h => by
    rw [starts, start_last h, if_neg (by decide), starts_nil d (i + 1) (by omega)]
theorem three {l : List Int} {i : Nat} (h : i + 2 < l.length) : (l.take (i + 3)).drop i = [l.getD i 0, l.getD (i + 1) 0, l.getD (i + 2) 0] := by
  rw [List.drop_take, show i + 3 - i = 3 by omega, List.drop_eq_getElem_cons (by omega), List.drop_eq_getElem_cons (by omega), List.drop_eq_getElem_cons (by omega), List.getD_eq_getElem?_getD, List.getD_eq_getElem?_getD, List.getD_eq_getElem?_getD, List.getElem?_eq_getElem (by omega), List.getElem?_eq_getElem (by omega), List.getElem?_eq_getElem (by omega)]
  rfl
theorem start_text {l : List Int} (hb : Bys l) {i : Nat} (h : i + 2 < l.length) : ((strOfNums l).extract i (i + 3)).toList = ([0, 0, 1] : List UInt8) ↔ isStart l i = true := by
  have e : ([0, 0, 1] : List UInt8) = (strOfNums [0, 0, 1]).toList := by
    rw [str_toList]
    rfl
  rw [e, str_extract, str_toList_inj ((hb.take _).drop _) (Bys.cons (by decide) (by decide) (Bys.cons (by decide) (by decide) (Bys.cons (by decide) (by decide) Bys.nil))), three h]
  unfold isStart
  rw [decide_eq_true h]
  simp
theorem starts_len (l : List Int) : ∀ (d i : Nat), (starts l d i).length ≤ d
  | 0, _ => Nat.le_refl _
  | d + 1, i => by
    have := starts_len l d (i + 1)
    rw [starts]
    split
    · rw [List.length_cons]; omega
    · omega
theorem starts_in (l : List Int) : ∀ (d i : Nat), ∀ p, p ∈ starts l d i → i ≤ p ∧ isStart l p = true
  | 0, _, p, h => by cases h
  | d + 1, i, p, h => by
    rw [starts] at h
    split at h
    · rename_i hs
      rcases List.mem_cons.1 h with rfl | h
      · exact ⟨Nat.le_refl _, hs⟩
      · have := starts_in l d (i + 1) p h
        exact ⟨by omega, this.2⟩
    · have := starts_in l d (i + 1) p h
      exact ⟨by omega, this.2⟩
/-- The places a unit ends at. -/
def Run (l : List Int) : Nat → List Nat → Prop
  | f, [] => f + 3 ≤ l.length
  | f, p :: P => f + 3 ≤ p ∧ Run l p P
theorem starts_run {l : List Int} : ∀ (d i s : Nat), isStart l s = true → s < i → Run l s (starts l d i)
  | 0, i, s, hs, hi => by
    unfold isStart at hs
    rw [Bool.and_eq_true] at hs
    have := of_decide_eq_true hs.1
    simp only [starts, Run]
    omega
  | d + 1, i, s, hs, hi => by
    rw [starts]
    cases h : isStart l i
    · rw [if_neg (by decide)]
      exact starts_run d (i + 1) s hs (by omega)
    · rw [if_pos rfl]
      exact ⟨starts_apart hs h hi, starts_run d (i + 1) i h (by omega)⟩
theorem Run.le {l : List Int} : ∀ (P : List Nat) (f : Nat), Run l f P → f + 3 ≤ l.length
  | [], _, h => h
  | p :: P, f, h => by
    have := Run.le P p h.2
    have := h.1
    omega
theorem une_esc : ∀ (l : List Int) (z : Nat), une z (esc z l) = l
  | [], _ => rfl
  | x :: l, z => by
    unfold esc
    by_cases h : x < 4 ∧ 2 ≤ z
    · rw [if_pos h, une, if_pos ⟨rfl, h.2⟩, une, if_neg (by omega), une_esc l]
    · rw [if_neg h, une, if_neg (by omega), une_esc l]
/-- No start in a text, behind z zeros. -/
def chk : Nat → List Int → Bool
  | _, [] => true
  | z, x :: l => !(decide (x < 3) && decide (2 ≤ z)) && chk (if x = 0 then z + 1 else 0) l
theorem chk_esc : ∀ (l : List Int) (z : Nat), chk z (esc z l) = true
  | [], _ => rfl
  | x :: l, z => by
    unfold esc
    by_cases h : x < 4 ∧ 2 ≤ z
    · rw [if_pos h, chk, chk]
      simp only [if_neg (show ¬ (3 : Int) = 0 by decide), Nat.zero_add]
      rw [chk_esc l]
      simp
    · rw [if_neg h, chk, chk_esc l]
      by_cases h3 : x < 3
      · rw [decide_eq_false (show ¬ 2 ≤ z by omega)]
        simp
      · rw [decide_eq_false h3]
        simp
theorem chk_get : ∀ (E : List Int) (z j : Nat), chk z E = true → j + 2 < E.length → ¬ (E.getD j 0 = 0 ∧ E.getD (j + 1) 0 = 0 ∧ E.getD (j + 2) 0 = 1)
  | [], _, _, _, h => by simp at h
  | x :: E, z, j + 1, hc, h => by
    rw [chk, Bool.and_eq_true] at hc
    have := chk_get E _ j hc.2 (by simp only [List.length_cons] at h; omega)
    simpa using this
  | [x], z, 0, _, h => by simp at h
  | [x, y], z, 0, _, h => by simp at h
  | x :: y :: w :: E, z, 0, hc, h => by
    rintro ⟨h1, h2, h3⟩
    simp only [List.getD_cons_zero, List.getD_cons_succ, Nat.zero_add] at h1 h2 h3
    subst h1 h2 h3
    rw [chk, chk, chk] at hc
    simp at hc
/-- The frame of units. -/
def frameL : List (List Int) → List Int
  | [] => []
  | u :: us => 0 :: 0 :: 1 :: (esc 0 u ++ frameL us)
/-- Where the units of a frame begin. -/
def posL : List (List Int) → Nat → List Nat
  | [], _ => []
  | u :: us, a => a :: posL us (a + 3 + (esc 0 u).length)
theorem esc_last_ne {u : List Int} (h : escOk u = true) : esc 0 u ≠ [] ∧ (esc 0 u).getD ((esc 0 u).length - 1) 0 ≠ 0 := by
  have h' : u ≠ [] ∧ u.length ≤ 60000 ∧ u.getLast? ≠ some 0 := of_decide_eq_true h
  obtain ⟨h1, _, h3⟩ := h'
  obtain ⟨t, x, rfl⟩ : ∃ t x, u = t ++ [x] := ⟨u.dropLast, u.getLast h1, (List.dropLast_concat_getLast h1).symm⟩
  have hx : x ≠ 0 := by
    rintro rfl
    exact h3 (by simp)
  have key : ∀ (t : List Int) (z : Nat), ∃ m, esc z (t ++ [x]) = m ++ [x] := by
    intro t
    induction t with
    | nil =>
      intro z
      rw [List.nil_append, esc]
      split
      · exact ⟨[3], by rw [esc]; rfl⟩
      · exact ⟨[], by rw [esc]; rfl⟩
    | cons y t ih =>
      intro z
      rw [List.cons_append, esc]
      split
      · obtain ⟨m, hm⟩ := ih (if y = 0 then 1 else 0)
        exact ⟨3 :: y :: m, by rw [hm]; rfl⟩
      · obtain ⟨m, hm⟩ := ih (if y = 0 then z + 1 else 0)
        exact ⟨y :: m, by rw [hm]; rfl⟩
  obtain ⟨m, hm⟩ := key t 0
  rw [hm]
  simp [hx]
theorem starts_skip {l : List Int} : ∀ (n d a : Nat), (∀ i, a ≤ i → i < a + n → isStart l i = false) → starts l (n + d) a = starts l d (a + n)
  | 0, d, a, _ => by rw [Nat.zero_add, Nat.add_zero]
  | n + 1, d, a, h => by
    rw [show n + 1 + d = (n + d) + 1 by omega, starts, h a (Nat.le_refl _) (by omega), if_neg (by decide), starts_skip n d (a + 1) (fun i h1 h2 => h i (by omega) (by omega)), show a + 1 + n = a + (n + 1) by omega]
theorem getD_at (pre m : List Int) (j : Nat) : (pre ++ m).getD (pre.length + j) 0 = m.getD j 0 := by
  rw [List.getD_eq_getElem?_getD, List.getD_eq_getElem?_getD, List.getElem?_append_right (by omega), Nat.add_sub_cancel_left]
theorem getD_in (m suf : List Int) {j : Nat} (h : j < m.length) : (m ++ suf).getD j 0 = m.getD j 0 := by
  rw [List.getD_eq_getElem?_getD, List.getD_eq_getElem?_getD, List.getElem?_append_left h]
theorem not_start {l : List Int} {i : Nat} (h : ¬ (l.getD i 0 = 0 ∧ l.getD (i + 1) 0 = 0 ∧ l.getD (i + 2) 0 = 1)) : isStart l i = false := by
  cases hs : isStart l i
  · rfl
  · exfalso
    unfold isStart at hs
    simp only [Bool.and_eq_true, beq_iff_eq] at hs
    exact h ⟨hs.2.1, hs.2.2.1, hs.2.2.2⟩
theorem no_start_in {pre suf u : List Int} (h : escOk u = true) : ∀ i, pre.length ≤ i → i < pre.length + (esc 0 u).length → isStart (pre ++ (esc 0 u ++ suf)) i = false := by
  intro i h1 h2
  obtain ⟨hne, hlast⟩ := esc_last_ne h
  have hp := List.length_pos_iff.2 hne
  have hc := chk_esc u 0
  obtain ⟨j, rfl⟩ : ∃ j, i = pre.length + j := ⟨i - pre.length, by omega⟩
  refine not_start ?_
  rw [Nat.add_assoc, Nat.add_assoc, getD_at, getD_at, getD_at, getD_in _ _ (by omega)]
  by_cases e1 : j + 2 < (esc 0 u).length
  · rw [getD_in _ _ (by omega), getD_in _ _ e1]
    exact chk_get _ 0 j hc e1
  · by_cases e2 : j + 1 < (esc 0 u).length
    · rw [getD_in _ _ e2]
      rintro ⟨_, g, _⟩
      rw [show j + 1 = (esc 0 u).length - 1 by omega] at g
      exact hlast g
    · rintro ⟨g, _, _⟩
      rw [show j = (esc 0 u).length - 1 by omega] at g
      exact hlast g
theorem starts_frame : ∀ (us : List (List Int)) (pre : List Int), (∀ u, u ∈ us → escOk u = true) → starts (pre ++ frameL us) ((frameL us).length + 1) pre.length = posL us pre.length
  | [], pre, _ => by
    rw [starts_nil _ _ (by simp [frameL])]
    rfl
  | u :: us, pre, h => by
    have hu := h u (List.mem_cons_self ..)
    have ih := starts_frame us (pre ++ (0 :: 0 :: 1 :: esc 0 u)) (fun v hv => h v (List.mem_cons_of_mem _ hv))
    have a1 : pre ++ (0 :: 0 :: 1 :: esc 0 u) ++ frameL us = pre ++ frameL (u :: us) := by simp [frameL]
    have a2 : (pre ++ [0, 0, 1]) ++ (esc 0 u ++ frameL us) = pre ++ frameL (u :: us) := by simp [frameL]
    have hl : (pre ++ (0 :: 0 :: 1 :: esc 0 u)).length = pre.length + 3 + (esc 0 u).length := by simp; omega
    rw [a1, hl] at ih
    have hfl : (frameL (u :: us)).length = 3 + (esc 0 u).length + (frameL us).length := by simp [frameL]; omega
    have g : ∀ j, (pre ++ frameL (u :: us)).getD (pre.length + j) 0 = (frameL (u :: us)).getD j 0 := getD_at pre _
    have s0 : isStart (pre ++ frameL (u :: us)) pre.length = true := by
      unfold isStart
      have g0 := g 0
      rw [Nat.add_zero] at g0
      rw [decide_eq_true (by rw [List.length_append, hfl]; omega), g0, g 1, g 2]
      rfl
    have s1 : isStart (pre ++ frameL (u :: us)) (pre.length + 1) = false := by
      refine not_start ?_
      rw [g 1, show pre.length + 1 + 1 = pre.length + 2 from rfl, g 2, show pre.length + 1 + 2 = pre.length + 3 from rfl, g 3]
      simp [frameL]
    have s2 : isStart (pre ++ frameL (u :: us)) (pre.length + 1 + 1) = false := by
      refine not_start ?_
      rw [show pre.length + 1 + 1 = pre.length + 2 from rfl, g 2, show pre.length + 2 + 1 = pre.length + 3 from rfl, g 3, show pre.length + 2 + 2 = pre.length + 4 from rfl, g 4]
      simp [frameL]
    have hin := no_start_in (pre := pre ++ [0, 0, 1]) (suf := frameL us) hu
    rw [a2, show (pre ++ [(0 : Int), 0, 1]).length = pre.length + 3 by simp] at hin
    rw [hfl, show 3 + (esc 0 u).length + (frameL us).length + 1 = ((((esc 0 u).length + ((frameL us).length + 1)) + 1) + 1) + 1 by omega, starts, s0, if_pos rfl, starts, s1, if_neg (by decide), starts, s2, if_neg (by decide), show pre.length + 1 + 1 + 1 = pre.length + 3 by omega, starts_skip _ _ _ hin, ih]
    rfl
theorem add_unit {l u : List Int} {out : List ByteArray} {f q : Nat} (h : escOk u = true) (hq : q = f + (esc 0 u).length) (hs : (l.take q).drop f = esc 0 u) (hl : q ≤ l.length) (ho : out.length < 400) : addU l out f q = out ++ [strOfNums u] := by
  obtain ⟨hne, hlast⟩ := esc_last_ne h
  have hp := List.length_pos_iff.2 hne
  have hg : l.getD (q - 1) 0 ≠ 0 := by
    have e : (esc 0 u).getD ((esc 0 u).length - 1) 0 = l.getD (q - 1) 0 := by
      rw [← hs, List.getD_eq_getElem?_getD, List.getD_eq_getElem?_getD, List.getElem?_drop, List.getElem?_take_of_lt (by rw [hs]; omega), hs]
      congr 2
      omega
    rw [← e]
    exact hlast
  have hst : strip l f q = q := by
    cases q with
    | zero => rfl
    | succ q =>
      rw [Nat.add_sub_cancel] at hg
      rw [strip, if_neg (fun hc => hg hc.2)]
  have hseg : seg l f q = esc 0 u := by
    unfold seg
    rw [hst, hs]
  have hr : uneRes (esc 0 u) u = (strOfNums u, true) := by
    unfold uneRes
    rw [if_pos ⟨h, rfl⟩]
  unfold addU
  rw [hseg, une_esc, hr, if_pos rfl, if_pos ho]
theorem run_frame : ∀ (us : List (List Int)) (u pre : List Int) (out : List ByteArray), (∀ v, v ∈ u :: us → escOk v = true) → out.length + us.length < 400 → runU (pre ++ frameL (u :: us)) out (pre.length + 3) (posL us (pre.length + 3 + (esc 0 u).length)) = out ++ (u :: us).map strOfNums
  | us, u, pre, out, h, ho => by
    have hu := h u (List.mem_cons_self ..)
    have a1 : pre ++ (0 :: 0 :: 1 :: esc 0 u) ++ frameL us = pre ++ frameL (u :: us) := by simp [frameL]
    have hl : (pre ++ (0 :: 0 :: 1 :: esc 0 u)).length = pre.length + 3 + (esc 0 u).length := by simp; omega
    have hs : ((pre ++ frameL (u :: us)).take (pre.length + 3 + (esc 0 u).length)).drop (pre.length + 3) = esc 0 u := by
      rw [← a1, List.take_left' hl, show pre ++ (0 :: 0 :: 1 :: esc 0 u) = (pre ++ [0, 0, 1]) ++ esc 0 u by simp, List.drop_left' (by simp)]
    have hle : pre.length + 3 + (esc 0 u).length ≤ (pre ++ frameL (u :: us)).length := by rw [← a1, List.length_append, hl]; omega
    have hadd := add_unit (out := out) hu rfl hs hle (by omega)
    cases us with
    | nil =>
      have e : (pre ++ frameL [u]).length = pre.length + 3 + (esc 0 u).length := by simp [frameL]; omega
      rw [posL, runU, e, hadd]
      rfl
    | cons v us =>
      have ih := run_frame us v (pre ++ (0 :: 0 :: 1 :: esc 0 u)) (out ++ [strOfNums u]) (fun w hw => h w (List.mem_cons_of_mem _ hw)) (by simp only [List.length_append, List.length_cons, List.length_nil] at ho ⊢; omega)
      rw [a1, hl] at ih
      rw [posL, runU, hadd, ih]
      simp
/-- A frame behind bytes that are not 0: its units come back. -/
theorem units_frame {us : List (List Int)} {pre : List Int} (h : ∀ u, u ∈ us → escOk u = true) (hn : us.length ≤ 400) (hp : ∀ x, x ∈ pre → x ≠ 0) : allU (pre ++ frameL us) (starts (pre ++ frameL us) ((pre ++ frameL us).length + 1) 0) = us.map strOfNums := by
  have hskip := starts_skip (l := pre ++ frameL us) pre.length ((frameL us).length + 1) 0 (fun i _ hi => by
    refine not_start ?_
    rintro ⟨g, _, _⟩
    rw [getD_in _ _ (by omega), List.getD_eq_getElem?_getD, List.getElem?_eq_getElem (by omega)] at g
    exact hp _ (List.getElem_mem _) g)
  rw [List.length_append, Nat.add_assoc, hskip, Nat.zero_add, starts_frame us pre h]
  cases us with
  | nil => rfl
  | cons u us =>
    have := run_frame us u pre [] h (by simp only [List.length_cons, List.length_nil] at hn ⊢; omega)
    rw [posL, allU, this]
    rfl
/-- The signs of a number, so many. -/
def sg : Nat → Int → List Int
  | 0, _ => []
  | w + 1, n => sg w (n / 2) ++ [48 + n % 2]
theorem sg_len : ∀ (w : Nat) (n : Int), (sg w n).length = w
  | 0, _ => rfl
  | w + 1, n => by simp [sg, sg_len w]
theorem sg_row : ∀ (w : Nat) (n : Int), ∀ x, x ∈ sg w n → x = 48 ∨ x = 49
  | 0, _ => fun _ h => by cases h
  | w + 1, n => fun x hx => by
    rcases List.mem_append.1 hx with h | h
    · exact sg_row w _ x h
    · have : x = 48 + n % 2 := by simpa using h
      omega
theorem sg_bys (w : Nat) (n : Int) : Bys (sg w n) := fun x hx => by
  rcases sg_row w n x hx with h | h <;> omega
theorem set_rep (j : Nat) (v : Int) (tl : List Int) : (List.replicate (j + 1) (0 : Int) ++ tl).set j v = List.replicate j 0 ++ v :: tl := by
  rw [List.replicate_succ', List.append_assoc, List.set_append_right _ _ (by simp)]
  simp
theorem bytesOf_str {l : List Int} (h : Bys l) : bytesOf (strOfNums l) = l := by
  unfold bytesOf
  rw [strOfNums_data, List.map_map]
  have : ∀ m : List Int, Bys m → m.map ((fun b : UInt8 => (b.toNat : Int)) ∘ fun n : Int => UInt8.ofNat n.toNat) = m := by
    intro m
    induction m with
    | nil => intro _; rfl
    | cons x m ih =>
      intro hm
      have hx := hm x (List.mem_cons_self ..)
      rw [List.map_cons, ih (fun y hy => hm y (List.mem_cons_of_mem _ hy))]
      congr 1
      simp only [Function.comp, UInt8.toNat_ofNat']
      omega
  exact this l h
/-- The bits of bytes, the highest first. -/
def bitsL : List Int → List Int
  | [] => []
  | x :: l => sg 8 x ++ bitsL l
theorem bitsL_len : ∀ l : List Int, (bitsL l).length = 8 * l.length
  | [] => rfl
  | x :: l => by rw [bitsL, List.length_append, sg_len, bitsL_len l, List.length_cons]; omega
theorem bitsL_row : ∀ (l : List Int), ∀ x, x ∈ bitsL l → x = 48 ∨ x = 49
  | [] => fun _ h => by cases h
  | y :: l => fun x hx => by
    rcases List.mem_append.1 hx with h | h
    · exact sg_row 8 y x h
    · exact bitsL_row l x h
theorem bitsL_append : ∀ (l m : List Int), bitsL (l ++ m) = bitsL l ++ bitsL m
  | [], m => rfl
  | x :: l, m => by rw [List.cons_append, bitsL, bitsL, bitsL_append l m, List.append_assoc]
theorem has_one : ∀ m : Fin 256, (m : Nat) ≠ 0 → (49 : Int) ∈ sg 8 ((m : Nat) : Int) := by decide +kernel
/-- A row with a one in it: what stands ahead of its last one, and the noughts behind it. -/
theorem last_one : ∀ M : List Int, (∀ x, x ∈ M → x = 48 ∨ x = 49) → (49 : Int) ∈ M → ∃ A z, M = A ++ 49 :: List.replicate z 48
  | [], _, h => by cases h
  | x :: M, hm, h => by
    by_cases h1 : (49 : Int) ∈ M
    · obtain ⟨A, z, e⟩ := last_one M (fun y hy => hm y (List.mem_cons_of_mem _ hy)) h1
      exact ⟨x :: A, z, by rw [e]; rfl⟩
    · have hx : x = 49 := by
        rcases List.mem_cons.1 h with h2 | h2
        · exact h2.symm
        · exact absurd h2 h1
      refine ⟨[], M.length, ?_⟩
      rw [List.nil_append, hx]
      congr 1
      refine List.eq_replicate_iff.2 ⟨rfl, fun y hy => ?_⟩
      rcases hm y (List.mem_cons_of_mem _ hy) with h2 | h2
      · exact h2
      · exact absurd (h2 ▸ hy) h1
theorem bits_last {l : List Int} (hb : Bys l) (h0 : l ≠ []) (h1 : l.getD (l.length - 1) 0 ≠ 0) : ∃ A z, bitsL l = A ++ 49 :: List.replicate z 48 := by
  refine last_one _ (bitsL_row l) ?_
  obtain ⟨m, x, rfl⟩ : ∃ m x, l = m ++ [x] := ⟨l.dropLast, l.getLast h0, (List.dropLast_concat_getLast h0).symm⟩
  have hx := hb x (List.mem_append_right _ (List.mem_singleton.2 rfl))
  rw [bitsL_append, bitsL, bitsL, List.append_nil]
  refine List.mem_append_right _ ?_
  obtain ⟨n, rfl⟩ := Int.eq_ofNat_of_zero_le hx.1
  have hn : n ≠ 0 := by
    intro h
    apply h1
    subst h
    simp
  exact has_one ⟨n, by omega⟩ hn
/-- BytesRow, told over numbers. -/
def rowOfBytes (A : List Int) : ByteArray × Bool := if 400000 < A.length then (⟨#[]⟩, false) else (strOfNums A, true)
theorem rd_pad {A : List Int} {z j : Nat} (hj : j ≤ z) : rd (A ++ 49 :: List.replicate z 48) ((A.length + j : Nat) : Int) = if j = 0 then 49 else 48 := by
  unfold rd
  rw [Int.toNat_natCast, List.getD_eq_getElem?_getD, List.getElem?_append_right (by omega), show A.length + j - A.length = j by omega]
  cases j with
  | zero => rfl
  | succ j => rw [List.getElem?_cons_succ, List.getElem?_replicate_of_lt (by omega)]; rfl
theorem take_pad (A : List Int) (z : Nat) : (A ++ 49 :: List.replicate z 48).take A.length = A := by
  rw [List.take_append_of_le_length (Nat.le_refl _), List.take_length]
theorem str_bytesOf (b : ByteArray) : strOfNums (bytesOf b) = b ∧ Bys (bytesOf b) := by
  obtain ⟨l, hb, rfl⟩ := nums_of b
  rw [bytesOf_str hb]
  exact ⟨rfl, hb⟩
/-- Framed, told over numbers. -/
def fr : List Int → List ByteArray → ByteArray × Bool
  | acc, [] => (strOfNums acc, true)
  | acc, u :: us => if escOk (bytesOf u) = true ∧ acc.length + 3 + (esc 0 (bytesOf u)).length ≤ 60000 then fr (acc ++ (0 :: 0 :: 1 :: esc 0 (bytesOf u))) us else (strOfNums [], false)
def frV (U : List ByteArray) : ByteArray × Bool := if 400 < U.length then (strOfNums [], false) else fr [] U
def finU (l : List Int) (U : List ByteArray) : List ByteArray × Bool := if (frV U).2 = true ∧ (frV U).1.toList = (strOfNums l).toList then (U, true) else ([], false)
theorem frame_bys : ∀ us : List (List Int), (∀ u, u ∈ us → Bys u) → Bys (frameL us)
  | [], _ => Bys.nil
  | u :: us, h => Bys.cons (by decide) (by decide) (Bys.cons (by decide) (by decide) (Bys.cons (by decide) (by decide) (Bys.append (esc_bys u 0 (h u (List.mem_cons_self ..))) (frame_bys us (fun v hv => h v (List.mem_cons_of_mem _ hv))))))
theorem fr_true : ∀ (U : List ByteArray) (acc : List Int), (fr acc U).2 = true → (∀ u, u ∈ U → escOk (bytesOf u) = true) ∧ (fr acc U).1 = strOfNums (acc ++ frameL (U.map bytesOf)) ∧ (acc.length ≤ 60000 → (acc ++ frameL (U.map bytesOf)).length ≤ 60000)
  | [], acc, _ => ⟨(fun u hu => by cases hu), by simp [fr, frameL], (fun h => by simpa [frameL] using h)⟩
  | u :: U, acc, h => by
    unfold fr at h ⊢
    by_cases hc : escOk (bytesOf u) = true ∧ acc.length + 3 + (esc 0 (bytesOf u)).length ≤ 60000
    · rw [if_pos hc] at h ⊢
      obtain ⟨i1, i2, i3⟩ := fr_true U _ h
      have e : acc ++ (0 :: 0 :: 1 :: esc 0 (bytesOf u)) ++ frameL (U.map bytesOf) = acc ++ frameL ((u :: U).map bytesOf) := by simp [frameL]
      rw [e] at i2 i3
      refine ⟨fun v hv => ?_, i2, fun _ => i3 (by simp only [List.length_append, List.length_cons]; omega)⟩
      rcases List.mem_cons.1 hv with rfl | hv
      · exact hc.1
      · exact i1 v hv
    · rw [if_neg hc] at h
      cases h
theorem fr_frame : ∀ (U : List ByteArray) (acc : List Int), (∀ u, u ∈ U → escOk (bytesOf u) = true) → (acc ++ frameL (U.map bytesOf)).length ≤ 60000 → fr acc U = (strOfNums (acc ++ frameL (U.map bytesOf)), true)
  | [], acc, _, _ => by simp [fr, frameL]
  | u :: U, acc, h, hl => by
    have e : acc ++ (0 :: 0 :: 1 :: esc 0 (bytesOf u)) ++ frameL (U.map bytesOf) = acc ++ frameL ((u :: U).map bytesOf) := by simp [frameL]
    have hl' := hl
    rw [← e, List.length_append, List.length_append] at hl'
    simp only [List.length_cons] at hl'
    rw [fr, if_pos ⟨h u (List.mem_cons_self ..), by omega⟩, fr_frame U _ (fun v hv => h v (List.mem_cons_of_mem _ hv)) (by rw [e]; exact hl), e]
/-- A text that is a frame. -/
def IsFrame (l : List Int) (U : List ByteArray) : Prop := U.length ≤ 400 ∧ (∀ u, u ∈ U → escOk (bytesOf u) = true) ∧ l = frameL (U.map bytesOf) ∧ l.length ≤ 60000
theorem fin_yes {l : List Int} {U : List ByteArray} (h : IsFrame l U) : finU l U = (U, true) := by
  obtain ⟨h1, h2, h3, h4⟩ := h
  have e := fr_frame U [] h2 (by rw [List.nil_append, ← h3]; exact h4)
  rw [List.nil_append, ← h3] at e
  have e2 : frV U = (strOfNums l, true) := by
    unfold frV
    rw [if_neg (by omega), e]
  unfold finU
  rw [e2, if_pos ⟨rfl, rfl⟩]
theorem fin_no {l : List Int} (hb : Bys l) {U : List ByteArray} (h : ¬ IsFrame l U) : finU l U = ([], false) := by
  unfold finU
  refine if_neg ?_
  rintro ⟨h1, h2⟩
  unfold frV at h1 h2
  by_cases h4 : 400 < U.length
  · rw [if_pos h4] at h1
    cases h1
  · rw [if_neg h4] at h1 h2
    obtain ⟨i1, i2, i3⟩ := fr_true U [] h1
    rw [List.nil_append] at i2 i3
    have hf : Bys (frameL (U.map bytesOf)) := frame_bys _ (fun u hu => by
      obtain ⟨b, _, rfl⟩ := List.mem_map.1 hu
      exact (str_bytesOf b).2)
    rw [i2, str_toList_inj hf hb] at h2
    exact h ⟨by omega, i1, h2.symm, by rw [← h2]; exact i3 (by simp)⟩
theorem frame_units {l : List Int} {U : List ByteArray} (h : IsFrame l U) : allU l (starts l (l.length + 1) 0) = U := by
  obtain ⟨h1, h2, h3, h4⟩ := h
  have := units_frame (us := U.map bytesOf) (pre := []) (fun u hu => by
    obtain ⟨b, hb, rfl⟩ := List.mem_map.1 hu
    exact h2 b hb) (by rw [List.length_map]; exact h1) (fun x hx => by cases hx)
  rw [List.nil_append, ← h3, List.map_map] at this
  rw [this]
  have e : (strOfNums ∘ bytesOf) = id := by
    funext b
    exact (str_bytesOf b).1
  rw [e, List.map_id]
theorem snext_len (pre : List ByteArray) (x : ByteArray) (h : pre.length < 4611686018427387904) : wrap64 ((pre.length : Int) + 1) = ((pre ++ [x]).length : Int) := by
  rw [w64 (by omega) (by omega)]
  simp
theorem ssnoc (pre suf : List ByteArray) (x : ByteArray) : pre ++ x :: suf = (pre ++ [x]) ++ suf := by simp
theorem srd_mid (pre suf : List ByteArray) (x : ByteArray) : rdOf ByteArray.empty (pre ++ x :: suf) (pre.length : Int) = x := by
  unfold rdOf
  rw [Int.toNat_natCast, List.getD_eq_getElem?_getD, List.getElem?_append_right (Nat.le_refl _), Nat.sub_self]
  rfl
theorem impl_esc_loop : ∀ (suf pre acc : List Int) (z : Nat), Bys (pre ++ suf) → (pre ++ suf).length ≤ 60000 → acc.length ≤ 2 * pre.length → z ≤ pre.length →
    Ev (fun k => impl_Escaped.l0 k (strOfNums (pre ++ suf)) acc (z : Int) (pre.length : Int)) (strOfNums (acc ++ esc z suf), true)
  | [], pre, acc, z, hb, hl, ha, hz => by
    refine Ev.step (f := fun _ => some (strOfNums acc, true)) (fun k => ?_) (by simp only [esc, List.append_nil]; exact Ev.now _)
    simp only [impl_Escaped.l0, List.append_nil]
    rw [if_neg (ge_end pre)]
  | x :: suf, pre, acc, z, hb, hl, ha, hz => by
    have hx1 := mid_byte hb
    have hl' : pre.length + (suf.length + 1) ≤ 60000 := by simpa using hl
    have hp : (pre ++ [x]).length = pre.length + 1 := by simp
    have ih := fun (acc' : List Int) (z' : Nat) (h1 : acc'.length ≤ 2 * (pre ++ [x]).length) (h2 : z' ≤ (pre ++ [x]).length) => impl_esc_loop suf (pre ++ [x]) acc' z' (by rw [← snoc_cons]; exact hb) (by rw [← snoc_cons]; exact hl) h1 h2
    simp only [← snoc_cons] at ih
    have hlt := lt_mid pre suf x
    have hnext := next_len pre x (by omega)
    by_cases hc : x < 4 ∧ 2 ≤ z
    · have e : acc ++ esc z (x :: suf) = (acc ++ [3] ++ [x]) ++ esc (if x = 0 then 1 else 0) suf := by
        rw [esc, if_pos hc]
        simp
      rw [e]
      refine Ev.step (f := fun k => impl_Escaped.j2 k (strOfNums (pre ++ x :: suf)) acc (z : Int) (pre.length : Int) true) (fun k => ?_) ?_
      · simp only [impl_Escaped.l0]
        rw [if_pos hlt, if_pos (by omega), bt_mid hb, if_pos hc.1, decide_eq_true (by omega)]
      · by_cases h0 : x = 0
        · have := ih (acc ++ [3] ++ [x]) 1 (by simp; omega) (by omega)
          rw [if_pos h0]
          refine Ev.step (fun k => ?_) this
          simp only [impl_Escaped.j2, if_true]
          rw [if_pos (by omega)]
          try simp only [Option.bind_some]
          rw [if_pos (by omega), if_pos hlt, if_pos (by simp; omega)]
          try simp only [Option.bind_some]
          rw [bt_mid hb, if_pos h0, hnext]
          rfl
        · have := ih (acc ++ [3] ++ [x]) 0 (by simp; omega) (by omega)
          rw [if_neg h0]
          refine Ev.step (fun k => ?_) this
          simp only [impl_Escaped.j2, if_true]
          rw [if_pos (by omega)]
          try simp only [Option.bind_some]
          rw [if_pos (by omega), if_pos hlt, if_pos (by simp; omega)]
          try simp only [Option.bind_some]
          rw [bt_mid hb, if_neg h0, hnext]
          rfl
    · have e : acc ++ esc z (x :: suf) = (acc ++ [x]) ++ esc (if x = 0 then z + 1 else 0) suf := by
        rw [esc, if_neg hc]
        simp
      rw [e]
      refine Ev.step (f := fun k => impl_Escaped.j2 k (strOfNums (pre ++ x :: suf)) acc (z : Int) (pre.length : Int) false) (fun k => ?_) ?_
      · simp only [impl_Escaped.l0]
        rw [if_pos hlt, if_pos (by omega), bt_mid hb]
        by_cases h4 : x < 4
        · rw [if_pos h4, decide_eq_false (by omega)]
        · rw [if_neg h4]
      · by_cases h0 : x = 0
        · have := ih (acc ++ [x]) (z + 1) (by simp; omega) (by omega)
          rw [if_pos h0]
          refine Ev.step (fun k => ?_) this
          simp only [impl_Escaped.j2, Bool.false_eq_true, if_false]
          rw [if_pos (by omega), if_pos hlt, if_pos (by omega)]
          try simp only [Option.bind_some]
          rw [bt_mid hb, if_pos h0, hnext, w64 (x := (z : Int) + 1) (by omega) (by omega)]
          rfl
        · have := ih (acc ++ [x]) 0 (by simp; omega) (by omega)
          rw [if_neg h0]
          refine Ev.step (fun k => ?_) this
          simp only [impl_Escaped.j2, Bool.false_eq_true, if_false]
          rw [if_pos (by omega), if_pos hlt, if_pos (by omega)]
          try simp only [Option.bind_some]
          rw [bt_mid hb, if_neg h0, hnext]
          rfl
theorem impl_esc_yes {l : List Int} (hb : Bys l) (h : escOk l = true) : Ev (fun k => impl_Escaped.f k (strOfNums l)) (strOfNums (esc 0 l), true) := by
  have h' : l ≠ [] ∧ l.length ≤ 60000 ∧ l.getLast? ≠ some 0 := of_decide_eq_true h
  obtain ⟨h1, h2, h3⟩ := h'
  have hpos := List.length_pos_iff.2 h1
  have hlast := bt_last hb h1 (by omega)
  have hne : l.getD (l.length - 1) 0 ≠ 0 := by
    intro e
    rw [last_get l h1, e] at h3
    exact h3 rfl
  have hl := impl_esc_loop l [] [] 0 hb h2 (Nat.zero_le _) (Nat.zero_le _)
  simp only [List.nil_append] at hl
  have hj : Ev (fun k => impl_Escaped.j0 k (strOfNums l) false) (strOfNums (esc 0 l), true) := by
    refine Ev.step (fun k => ?_) hl
    simp only [impl_Escaped.j0, Bool.false_eq_true, if_false]
    rw [str_size, w64 (x := (l.length : Int) / 2) (by omega) (by omega), w64 (by omega) (by omega), if_pos (by omega), if_pos (by omega)]
    rfl
  refine Ev.congr (fun k => ?_) hj
  unfold impl_Escaped.f
  rw [if_neg (fun e => h1 (str_toList_nil.1 e)), if_neg (by rw [str_size]; omega), hlast]
  have hw : wrap64 (((strOfNums l).size : Int) - 1) = (l.length : Int) - 1 := by rw [str_size, w64 (by omega) (by omega)]
  rw [hw, if_pos (by omega), if_pos (by rw [str_size]; omega), beq_eq_false_iff_ne.2 hne]
theorem impl_esc_no {l : List Int} (hb : Bys l) (hl : l.length ≤ 1048576) (h : escOk l = false) : Ev (fun k => impl_Escaped.f k (strOfNums l)) (strOfNums [], false) := by
  have h' : ¬ (l ≠ [] ∧ l.length ≤ 60000 ∧ l.getLast? ≠ some 0) := of_decide_eq_false h
  have hj : Ev (fun k => impl_Escaped.j0 k (strOfNums l) true) (strOfNums [], false) := by
    refine Ev.step (f := fun _ => some (strOfNums [], false)) (fun k => ?_) (Ev.now _)
    simp only [impl_Escaped.j0, if_true]
    rfl
  refine Ev.congr (fun k => ?_) hj
  unfold impl_Escaped.f
  by_cases h1 : l = []
  · rw [if_pos (str_toList_nil.2 h1)]
  · rw [if_neg (fun e => h1 (str_toList_nil.1 e))]
    have hpos := List.length_pos_iff.2 h1
    by_cases h2 : ((strOfNums l).size : Int) > 60000
    · rw [if_pos h2]
    · rw [if_neg h2]
      rw [str_size] at h2
      have hlast := bt_last hb h1 (by omega)
      have he : l.getD (l.length - 1) 0 = 0 := by
        have := last_get l h1
        by_cases e : l.getD (l.length - 1) 0 = 0
        · exact e
        · exact absurd ⟨h1, by omega, by rw [this]; intro e2; exact e (Option.some.inj e2)⟩ h'
      rw [hlast, he]
      have hw : wrap64 (((strOfNums l).size : Int) - 1) = (l.length : Int) - 1 := by rw [str_size, w64 (by omega) (by omega)]
      rw [hw, if_pos (by omega), if_pos (by rw [str_size]; omega)]
      rfl
theorem nat3 {n : Nat} (h : n ≤ 1000000) : wrap64 (((n : Int)) + 3) = ((n + 3 : Nat) : Int) := by rw [w64 (by omega) (by omega)]; rfl
theorem impl_framed_loop : ∀ (suf pre : List ByteArray) (acc : List Int), Bys acc → (pre ++ suf).length ≤ 400 → acc.length ≤ 60000 → (∀ u, u ∈ suf → u.size ≤ 1048576) → Ev (fun k => impl_Framed.l0 k acc (pre ++ suf) ((pre ++ suf).length : Int) (pre.length : Int)) (fr acc suf)
  | [], pre, acc, hb, hl, ha, _ => by
    refine Ev.step (f := fun _ => some (strOfNums acc, true)) (fun k => ?_) (Ev.now _)
    simp only [impl_Framed.l0, List.append_nil]
    rw [if_neg (by omega)]
  | u :: suf, pre, acc, hb, hl, ha, hs => by
    have hll : (pre ++ u :: suf).length = pre.length + (suf.length + 1) := by simp
    obtain ⟨e, hub⟩ := str_bytesOf u
    have hsz := hs u (List.mem_cons_self ..)
    have hbl : (bytesOf u).length = u.size := bytesOf_length u
    have hel := esc_len (bytesOf u) 0
    have hbe := esc_bys (bytesOf u) 0 hub
    have hE : ∀ R, Ev (fun k => (impl_Escaped.f k (strOfNums (bytesOf u))).bind fun bt126 => (if bt126.2 = true then (if (wrap64 ((wrap64 ((acc.length : Int) + 3)) + (bt126.1.size : Int))) > 60000 then (some ((⟨#[]⟩ : ByteArray), false)) else ((some (([0, 0, 1] : List Int) : List Int)).bind fun y128 => (if acc.length + y128.length < 140737488355328 then ((some (acc ++ y128 : List Int)).bind fun y131 => (if y131.length + bt126.1.size < 140737488355328 then (impl_Framed.l0 k (y131 ++ bytesOf bt126.1) (pre ++ u :: suf) ((pre ++ u :: suf).length : Int) ((pre ++ [u]).length : Int)) else (none))) else (none)))) else (some ((⟨#[]⟩ : ByteArray), false)))) R → Ev (fun k => impl_Framed.l0 k acc (pre ++ u :: suf) ((pre ++ u :: suf).length : Int) (pre.length : Int)) R := by
      intro R hR
      refine Ev.step (fun k => ?_) hR
      simp only [impl_Framed.l0]
      rw [if_pos (by omega), if_pos (by omega), if_pos (by omega), srd_mid, e, snext_len pre u (by omega)]
    refine hE _ ?_
    rw [fr]
    by_cases hok : escOk (bytesOf u) = true
    · refine Ev.bind (impl_esc_yes hub hok) ?_
      simp only [if_true, str_size, nat3 (n := acc.length) (by omega), w64 (x := ((acc.length + 3 : Nat) : Int) + ((esc 0 (bytesOf u)).length : Int)) (by omega) (by omega), Option.bind_some]
      by_cases hc : acc.length + 3 + (esc 0 (bytesOf u)).length ≤ 60000
      · rw [if_pos ⟨hok, hc⟩]
        have a1 : acc ++ [0, 0, 1] ++ esc 0 (bytesOf u) = acc ++ (0 :: 0 :: 1 :: esc 0 (bytesOf u)) := by simp
        have ih := impl_framed_loop suf (pre ++ [u]) (acc ++ (0 :: 0 :: 1 :: esc 0 (bytesOf u))) (Bys.append hb (Bys.cons (by decide) (by decide) (Bys.cons (by decide) (by decide) (Bys.cons (by decide) (by decide) hbe)))) (by rw [← ssnoc]; exact hl) (by simp only [List.length_append, List.length_cons]; omega) (fun v hv => hs v (List.mem_cons_of_mem _ hv))
        rw [← ssnoc] at ih
        simp only [if_neg (show ¬ ((acc.length + 3 : Nat) : Int) + ((esc 0 (bytesOf u)).length : Int) > 60000 by omega), if_pos (show acc.length + ([0, 0, 1] : List Int).length < 140737488355328 by simp only [List.length_cons, List.length_nil]; omega), if_pos (show (acc ++ ([0, 0, 1] : List Int)).length + (esc 0 (bytesOf u)).length < 140737488355328 by simp only [List.length_append, List.length_cons, List.length_nil]; omega), bytesOf_str hbe, a1]
        exact ih
      · rw [if_neg (fun h => hc h.2)]
        simp only [if_pos (show ((acc.length + 3 : Nat) : Int) + ((esc 0 (bytesOf u)).length : Int) > 60000 by omega)]
        exact Ev.now _
    · rw [if_neg (fun h => hok h.1)]
      refine Ev.bind (impl_esc_no hub (by omega) (by simpa using hok)) ?_
      simp only [Bool.false_eq_true, if_false]
      exact Ev.now _
theorem impl_framed_evB {U : List ByteArray} (hU : U.length ≤ 100000) (hs : ∀ u, u ∈ U → u.size ≤ 1048576) : Ev (fun k => impl_Framed.f k U) (frV U) := by
  unfold impl_Framed.f frV
  by_cases h : 400 < U.length
  · rw [if_pos h]
    simp only [if_pos (show (U.length : Int) > 400 by omega)]
    exact Ev.now _
  · rw [if_neg h]
    simp only [if_neg (show ¬ (U.length : Int) > 400 by omega)]
    exact impl_framed_loop U [] [] Bys.nil (by rw [List.nil_append]; omega) (by decide) hs
theorem impl_framed_ev {U : List ByteArray} (hU : U.length ≤ 100000) (hs : ∀ u, u ∈ U → u.size ≤ 60000) : Ev (fun k => impl_Framed.f k U) (frV U) := impl_framed_evB hU (fun u hu => Nat.le_trans (hs u hu) (by decide))
/-- How many zeros a list ends with (told from its back). -/
def tz : List Int → Nat
  | [] => 0
  | x :: l => if x = 0 then tz l + 1 else 0
theorem two_zeros (acc : List Int) : (2 ≤ tz acc.reverse) ↔ (2 ≤ acc.length ∧ acc.getD (acc.length - 1) 0 = 0 ∧ acc.getD (acc.length - 2) 0 = 0) := by
  obtain ⟨r, rfl⟩ : ∃ r : List Int, acc = r.reverse := ⟨acc.reverse, (List.reverse_reverse acc).symm⟩
  rw [List.reverse_reverse]
  match r with
  | [] => simp [tz]
  | [x] => 
    constructor
    · intro h
      unfold tz at h
      split at h <;> simp [tz] at h
    · intro h
      simp at h
  | x :: y :: l =>
    have e1 : (x :: y :: l).reverse.getD ((x :: y :: l).reverse.length - 1) 0 = x := by
      rw [List.getD_eq_getElem?_getD]
      simp
    have e2 : (x :: y :: l).reverse.getD ((x :: y :: l).reverse.length - 2) 0 = y := by
      rw [List.getD_eq_getElem?_getD]
      simp
    rw [e1, e2]
    constructor
    · intro h
      unfold tz at h
      split at h
      · rename_i hx
        refine ⟨by simp, hx, ?_⟩
        unfold tz at h
        split at h
        · assumption
        · omega
      · omega
    · rintro ⟨_, rfl, rfl⟩
      simp [tz]
theorem spec_esc_loop : ∀ (suf pre acc : List Int), Bys (pre ++ suf) → (pre ++ suf).length ≤ 60000 → acc.length ≤ 2 * pre.length →
    Ev (fun k => spec_l04Escaped.l0 k (strOfNums (pre ++ suf)) acc (pre.length : Int)) (strOfNums (acc ++ esc (tz acc.reverse) suf))
  | [], pre, acc, hb, hl, ha => by
    refine Ev.step (f := fun _ => some (strOfNums acc)) (fun k => ?_) (by simp only [esc, List.append_nil]; exact Ev.now _)
    simp only [spec_l04Escaped.l0, List.append_nil]
    rw [if_neg (ge_end pre)]
  | x :: suf, pre, acc, hb, hl, ha => by
    have hx1 := mid_byte hb
    have hl' : pre.length + (suf.length + 1) ≤ 60000 := by simpa using hl
    have hp : (pre ++ [x]).length = pre.length + 1 := by simp
    have ih := fun (acc' : List Int) (h1 : acc'.length ≤ 2 * (pre ++ [x]).length) => spec_esc_loop suf (pre ++ [x]) acc' (by rw [← snoc_cons]; exact hb) (by rw [← snoc_cons]; exact hl) h1
    simp only [← snoc_cons] at ih
    have hlt := lt_mid pre suf x
    have hnext := next_len pre x (by omega)
    have ht := two_zeros acc
    by_cases hc : x < 4 ∧ 2 ≤ tz acc.reverse
    · obtain ⟨g1, g2, g3⟩ := ht.1 hc.2
      have e : acc ++ esc (tz acc.reverse) (x :: suf) = (acc ++ [3] ++ [x]) ++ esc (tz (acc ++ [3] ++ [x]).reverse) suf := by
        rw [esc, if_pos hc]
        have : tz (acc ++ [3] ++ [x]).reverse = if x = 0 then 1 else 0 := by simp [tz]
        rw [this]
        simp
      rw [e]
      refine Ev.step (fun k => ?_) (ih (acc ++ [3] ++ [x]) (by simp; omega))
      simp only [spec_l04Escaped.l0]
      rw [if_pos hlt, if_pos (by omega), w64 (x := (acc.length : Int) - 1) (by omega) (by omega), w64 (x := (acc.length : Int) - 2) (by omega) (by omega), if_pos (by omega), if_pos (by omega)]
      unfold rd
      rw [show ((acc.length : Int) - 1).toNat = acc.length - 1 by omega, show ((acc.length : Int) - 2).toNat = acc.length - 2 by omega, if_pos g2, if_pos (by omega), if_pos (by omega), if_pos g3, if_pos (by omega), bt_mid hb, if_pos hc.1, if_pos (by omega)]
      simp only [Option.bind_some]
      rw [if_pos (by simp; omega), hnext]
    · have e : acc ++ esc (tz acc.reverse) (x :: suf) = (acc ++ [x]) ++ esc (tz (acc ++ [x]).reverse) suf := by
        rw [esc, if_neg hc]
        have : tz (acc ++ [x]).reverse = if x = 0 then tz acc.reverse + 1 else 0 := by simp [tz]
        rw [this]
        simp
      rw [e]
      refine Ev.step (fun k => ?_) (ih (acc ++ [x]) (by simp; omega))
      simp only [spec_l04Escaped.l0]
      rw [if_pos hlt]
      by_cases h1 : 2 ≤ acc.length
      · rw [if_pos (by omega), w64 (x := (acc.length : Int) - 1) (by omega) (by omega), w64 (x := (acc.length : Int) - 2) (by omega) (by omega), if_pos (by omega), if_pos (by omega)]
        unfold rd
        rw [show ((acc.length : Int) - 1).toNat = acc.length - 1 by omega, show ((acc.length : Int) - 2).toNat = acc.length - 2 by omega]
        by_cases h2 : acc.getD (acc.length - 1) 0 = 0
        · rw [if_pos h2, if_pos (by omega), if_pos (by omega)]
          by_cases h3 : acc.getD (acc.length - 2) 0 = 0
          · have : ¬ x < 4 := fun h4 => hc ⟨h4, ht.2 ⟨h1, h2, h3⟩⟩
            rw [if_pos h3, if_pos (by omega), bt_mid hb, if_neg this, if_pos (by omega), hnext]
          · rw [if_neg h3, if_pos (by omega), if_pos (by omega), bt_mid hb, hnext]
        · rw [if_neg h2, if_pos (by omega), if_pos (by omega), bt_mid hb, hnext]
      · rw [if_neg (by omega), if_pos (by omega), if_pos (by omega), bt_mid hb, hnext]
theorem spec_esc_yes {l : List Int} (hb : Bys l) (h : escOk l = true) : Ev (fun k => spec_Escaped.f k (strOfNums l)) (strOfNums (esc 0 l), true) := by
  have h' : l ≠ [] ∧ l.length ≤ 60000 ∧ l.getLast? ≠ some 0 := of_decide_eq_true h
  obtain ⟨h1, h2, h3⟩ := h'
  have hpos := List.length_pos_iff.2 h1
  have hlast := bt_last hb h1 (by omega)
  have hne : l.getD (l.length - 1) 0 ≠ 0 := by
    intro e
    rw [last_get l h1, e] at h3
    exact h3 rfl
  have hl := spec_esc_loop l [] [] hb h2 (Nat.zero_le _)
  simp only [List.nil_append, List.reverse_nil, tz] at hl
  have hw : wrap64 (((strOfNums l).size : Int) - 1) = (l.length : Int) - 1 := by rw [str_size, w64 (by omega) (by omega)]
  unfold spec_Escaped.f spec_l04Escaped.f
  rw [hlast]
  simp only [hw, if_neg hne, if_neg (show ¬ ((strOfNums l).size : Int) = 0 by rw [str_size]; omega), if_neg (show ¬ ((strOfNums l).size : Int) > 60000 by rw [str_size]; omega), if_pos (show (0 : Int) ≤ (l.length : Int) - 1 by omega), if_pos (show (l.length : Int) - 1 < ((strOfNums l).size : Int) by rw [str_size]; omega)]
  exact Ev.bind hl (Ev.now _)
theorem spec_esc_no {l : List Int} (hb : Bys l) (hl : l.length ≤ 1048576) (h : escOk l = false) : Ev (fun k => spec_Escaped.f k (strOfNums l)) (strOfNums [], false) := by
  have h' : ¬ (l ≠ [] ∧ l.length ≤ 60000 ∧ l.getLast? ≠ some 0) := of_decide_eq_false h
  refine ev_now (fun k => ?_)
  unfold spec_Escaped.f
  by_cases h1 : l = []
  · rw [if_pos (by rw [str_size, h1]; rfl)]
    rfl
  · have hpos := List.length_pos_iff.2 h1
    rw [if_neg (by rw [str_size]; omega)]
    by_cases h2 : ((strOfNums l).size : Int) > 60000
    · rw [if_pos h2]
      rfl
    · rw [if_neg h2]
      rw [str_size] at h2
      have hlast := bt_last hb h1 (by omega)
      have he : l.getD (l.length - 1) 0 = 0 := by
        have := last_get l h1
        by_cases e : l.getD (l.length - 1) 0 = 0
        · exact e
        · exact absurd ⟨h1, by omega, by rw [this]; intro e2; exact e (Option.some.inj e2)⟩ h'
      have hw : wrap64 (((strOfNums l).size : Int) - 1) = (l.length : Int) - 1 := by rw [str_size, w64 (by omega) (by omega)]
      rw [hlast, he, hw, if_pos (by omega), if_pos (by rw [str_size]; omega), if_pos rfl]
      rfl
theorem spec_framed_loop : ∀ (suf pre : List ByteArray) (acc : List Int), Bys acc → (pre ++ suf).length ≤ 400 → acc.length ≤ 60000 → (∀ u, u ∈ suf → u.size ≤ 1048576) → Ev (fun k => spec_Framed.l0 k (pre ++ suf) acc (pre.length : Int)) (fr acc suf)
  | [], pre, acc, hb, hl, ha, _ => by
    refine Ev.step (f := fun _ => some (strOfNums acc, true)) (fun k => ?_) (Ev.now _)
    simp only [spec_Framed.l0, List.append_nil]
    rw [if_neg (by omega)]
  | u :: suf, pre, acc, hb, hl, ha, hs => by
    have hll : (pre ++ u :: suf).length = pre.length + (suf.length + 1) := by simp
    obtain ⟨e, hub⟩ := str_bytesOf u
    have hsz := hs u (List.mem_cons_self ..)
    have hbl : (bytesOf u).length = u.size := bytesOf_length u
    have hel := esc_len (bytesOf u) 0
    have hbe := esc_bys (bytesOf u) 0 hub
    have hE : ∀ R, Ev (fun k => (spec_Escaped.f k (strOfNums (bytesOf u))).bind fun bt239 => (if bt239.2 = true then ((some (([0, 0, 1] : List Int) : List Int)).bind fun y241 => (if acc.length + y241.length < 140737488355328 then ((some (acc ++ y241 : List Int)).bind fun y244 => (if y244.length + bt239.1.size < 140737488355328 then ((some (y244 ++ bytesOf bt239.1 : List Int)).bind fun y247 => (if (y247.length : Int) > 60000 then (some ((⟨#[]⟩ : ByteArray), false)) else (spec_Framed.l0 k (pre ++ u :: suf) y247 ((pre ++ [u]).length : Int)))) else (none))) else (none))) else (some ((⟨#[]⟩ : ByteArray), false)))) R → Ev (fun k => spec_Framed.l0 k (pre ++ u :: suf) acc (pre.length : Int)) R := by
      intro R hR
      refine Ev.step (fun k => ?_) hR
      simp only [spec_Framed.l0]
      rw [if_pos (by omega), if_pos (by omega), srd_mid, e, snext_len pre u (by omega)]
    refine hE _ ?_
    rw [fr]
    by_cases hok : escOk (bytesOf u) = true
    · refine Ev.bind (spec_esc_yes hub hok) ?_
      have a1 : acc ++ [0, 0, 1] ++ esc 0 (bytesOf u) = acc ++ (0 :: 0 :: 1 :: esc 0 (bytesOf u)) := by simp
      simp only [if_true, str_size, Option.bind_some, if_pos (show acc.length + ([0, 0, 1] : List Int).length < 140737488355328 by simp only [List.length_cons, List.length_nil]; omega), if_pos (show (acc ++ ([0, 0, 1] : List Int)).length + (esc 0 (bytesOf u)).length < 140737488355328 by simp only [List.length_append, List.length_cons, List.length_nil]; omega), bytesOf_str hbe, a1]
      have hal : (acc ++ (0 :: 0 :: 1 :: esc 0 (bytesOf u))).length = acc.length + 3 + (esc 0 (bytesOf u)).length := by simp only [List.length_append, List.length_cons]; omega
      by_cases hc : acc.length + 3 + (esc 0 (bytesOf u)).length ≤ 60000
      · rw [if_pos ⟨hok, hc⟩]
        have ih := spec_framed_loop suf (pre ++ [u]) (acc ++ (0 :: 0 :: 1 :: esc 0 (bytesOf u))) (Bys.append hb (Bys.cons (by decide) (by decide) (Bys.cons (by decide) (by decide) (Bys.cons (by decide) (by decide) hbe)))) (by rw [← ssnoc]; exact hl) (by omega) (fun v hv => hs v (List.mem_cons_of_mem _ hv))
        rw [← ssnoc] at ih
        simp only [if_neg (show ¬ (((acc ++ (0 :: 0 :: 1 :: esc 0 (bytesOf u))).length : Nat) : Int) > 60000 by omega)]
        exact ih
      · rw [if_neg (fun h => hc h.2)]
        simp only [if_pos (show (((acc ++ (0 :: 0 :: 1 :: esc 0 (bytesOf u))).length : Nat) : Int) > 60000 by omega)]
        exact Ev.now _
    · rw [if_neg (fun h => hok h.1)]
      refine Ev.bind (spec_esc_no hub (by omega) (by simpa using hok)) ?_
      simp only [Bool.false_eq_true, if_false]
      exact Ev.now _
theorem spec_framed_evB {U : List ByteArray} (hU : U.length ≤ 100000) (hs : ∀ u, u ∈ U → u.size ≤ 1048576) : Ev (fun k => spec_Framed.f k U) (frV U) := by
  unfold spec_Framed.f frV
  by_cases h : 400 < U.length
  · rw [if_pos h]
    simp only [if_pos (show (U.length : Int) > 400 by omega)]
    exact Ev.now _
  · rw [if_neg h]
    simp only [if_neg (show ¬ (U.length : Int) > 400 by omega)]
    exact spec_framed_loop U [] [] Bys.nil (by rw [List.nil_append]; omega) (by decide) hs
theorem spec_framed_ev {U : List ByteArray} (hU : U.length ≤ 100000) (hs : ∀ u, u ∈ U → u.size ≤ 60000) : Ev (fun k => spec_Framed.f k U) (frV U) := spec_framed_evB hU (fun u hu => Nat.le_trans (hs u hu) (by decide))
theorem sset_mid (pre zs : List ByteArray) (y x : ByteArray) : (pre ++ y :: zs).set pre.length x = (pre ++ [x]) ++ zs := by
  rw [List.set_append_right _ _ (Nat.le_refl _), Nat.sub_self, List.set_cons_zero, List.append_assoc]
  rfl
theorem eqStrings_loop : ∀ (suf pre : List ByteArray), (pre ++ suf).length ≤ 1048576 → Ev (fun k => laws_eqStringS.l0 k (pre ++ suf) (pre ++ suf) (pre.length : Int)) true
  | [], pre, hl => by
    refine Ev.step (f := fun _ => some true) (fun k => ?_) (Ev.now _)
    simp only [laws_eqStringS.l0, List.append_nil]
    rw [if_neg (by omega)]
  | x :: suf, pre, hl => by
    have hll : (pre ++ x :: suf).length = pre.length + (suf.length + 1) := by simp
    have ih := eqStrings_loop suf (pre ++ [x]) (by rw [← ssnoc]; exact hl)
    rw [← ssnoc] at ih
    refine Ev.step (fun k => ?_) ih
    simp only [laws_eqStringS.l0, if_true]
    rw [if_pos (by omega), if_pos (by omega), if_pos (by omega), snext_len pre x (by omega)]
theorem eqStrings_ev {l : List ByteArray} (hl : l.length ≤ 1048576) : Ev (fun k => laws_eqStringS.f k l l) true := by
  unfold laws_eqStringS.f
  simp only [if_true]
  exact eqStrings_loop l [] hl
theorem sz_loop : ∀ (suf pre : List ByteArray) (x : Int), (pre ++ suf).length ≤ 8796093022208 → 0 ≤ x → x ≤ 1048576 → (∀ u, u ∈ suf → u.size ≤ 9223372036854775807) → ∃ v, Ev (fun k => laws_szStringS.l0 k (pre ++ suf) x (pre.length : Int)) v ∧ (v < 0 ∨ ∀ u, u ∈ suf → u.size ≤ 1048576)
  | [], pre, x, hl, h0, h1, hs => by
    refine ⟨x, Ev.step (f := fun _ => some x) (fun k => ?_) (Ev.now _), Or.inr (fun u hu => by cases hu)⟩
    rw [laws_szStringS.l0, List.append_nil, if_neg (by omega)]
  | y :: suf, pre, x, hl, h0, h1, hs => by
    have hll : (pre ++ y :: suf).length = pre.length + (suf.length + 1) := by simp
    have hy := hs y (List.mem_cons_self ..)
    by_cases h : x - (y.size : Int) < 0
    · refine ⟨-1, Ev.step (f := fun _ => some (-1)) (fun k => ?_) (Ev.now _), Or.inl (by decide)⟩
      rw [laws_szStringS.l0, if_pos (by omega), if_pos (by omega), srd_mid, w64 (x := x - (y.size : Int)) (by omega) (by omega), if_pos h]
    · obtain ⟨v, hv, hz⟩ := sz_loop suf (pre ++ [y]) (x - (y.size : Int)) (by rw [← ssnoc]; exact hl) (by omega) (by omega) (fun u hu => hs u (List.mem_cons_of_mem _ hu))
      rw [← ssnoc] at hv
      refine ⟨v, Ev.step (fun k => ?_) hv, ?_⟩
      · rw [laws_szStringS.l0, if_pos (by omega), if_pos (by omega), srd_mid, w64 (x := x - (y.size : Int)) (by omega) (by omega), if_neg h, snext_len pre y (by omega)]
      · rcases hz with hz | hz
        · exact Or.inl hz
        · refine Or.inr (fun u hu => ?_)
          rcases List.mem_cons.1 hu with rfl | hu
          · omega
          · exact hz u hu
theorem sz_ev {U : List ByteArray} (hl : U.length ≤ 8796093022208) (hs : ∀ u, u ∈ U → u.size ≤ 9223372036854775807) : ∃ v, Ev (fun k => laws_szStringS.f k U 1048576) v ∧ (v < 0 ∨ (U.length ≤ 1048576 ∧ ∀ u, u ∈ U → u.size ≤ 1048576)) := by
  unfold laws_szStringS.f
  have hw : wrap64 (1048576 - (U.length : Int)) = 1048576 - (U.length : Int) := w64 (by omega) (by omega)
  by_cases h : 1048576 - (U.length : Int) < 0
  · refine ⟨-1, ?_, Or.inl (by decide)⟩
    simp only [hw, if_pos h]
    exact Ev.now _
  · obtain ⟨v, hv, hz⟩ := sz_loop U [] (1048576 - (U.length : Int)) (by rw [List.nil_append]; exact hl) (by omega) (by omega) hs
    refine ⟨v, ?_, ?_⟩
    · simp only [hw, if_neg h]
      exact hv
    · rcases hz with hz | hz
      · exact Or.inl hz
      · exact Or.inr ⟨by omega, hz⟩
theorem toStr_loop : ∀ (suf pre : List ByteArray), (pre ++ suf).length ≤ 8796093022208 → Ev (fun k => laws_toStringS.l0 k (pre ++ suf) (pre ++ List.replicate suf.length (⟨#[]⟩ : ByteArray)) (pre.length : Int)) (pre ++ suf)
  | [], pre, hl => by
    refine Ev.step (f := fun _ => some (pre ++ [])) (fun k => ?_) (Ev.now _)
    rw [laws_toStringS.l0, if_neg (by rw [List.append_nil]; omega)]
    rfl
  | y :: suf, pre, hl => by
    have hll : (pre ++ y :: suf).length = pre.length + (suf.length + 1) := by simp
    have ih := toStr_loop suf (pre ++ [y]) (by rw [← ssnoc]; exact hl)
    rw [← ssnoc] at ih
    refine Ev.step (fun k => ?_) ih
    rw [laws_toStringS.l0, if_pos (by omega), if_pos (by omega), if_pos (by rw [List.length_append, List.length_replicate, List.length_cons]; omega), srd_mid, List.length_cons, List.replicate_succ, Int.toNat_natCast, sset_mid, snext_len pre y (by omega)]
theorem toStr_ev {U : List ByteArray} (hl : U.length ≤ 8796093022208) : Ev (fun k => laws_toStringS.f k U) U := by
  unfold laws_toStringS.f
  simp only [if_pos (show (0 : Int) ≤ (U.length : Int) by omega), Int.toNat_natCast, if_pos (show U.length ≤ 17592186044416 by omega)]
  exact toStr_loop U [] hl
theorem framed_same {U : List ByteArray} (h1 : U.length ≤ 1048576) (h2 : ∀ u, u ∈ U → u.size ≤ 1048576) : ∃ v, Ev (fun k => spec_Framed.f k U) v ∧ Ev (fun k => impl_Framed.f k U) v := by
  by_cases h : U.length ≤ 100000
  · exact ⟨_, spec_framed_evB h h2, impl_framed_evB h h2⟩
  · refine ⟨((⟨#[]⟩ : ByteArray), false), ?_, ?_⟩
    · unfold spec_Framed.f
      simp only [if_pos (show (U.length : Int) > 400 by omega)]
      exact Ev.now _
    · unfold impl_Framed.f
      simp only [if_pos (show (U.length : Int) > 400 by omega)]
      exact Ev.now _
theorem framed_tail {U : List ByteArray} (h1 : U.length ≤ 1048576) : Ev (fun k => laws_FnExactFramed.j0 k U U false) true := by
  refine Ev.step (f := fun k => (laws_toStringS.f k U).bind fun t => ((laws_eqStringS.f k U t).bind fun e => (if e = true then (some true) else (some false)))) (fun k => ?_) (Ev.bind (toStr_ev (by omega)) (Ev.bind (eqStrings_ev h1) (Ev.now _)))
  rw [laws_FnExactFramed.j0, if_neg Bool.false_ne_true]
theorem FnExactFramed : laws_FnExactFramed.Pure := by
  intro U hU hs
  have hs' : ∀ u, u ∈ U → u.size ≤ 9223372036854775807 := fun u hu => by
    have h := hs u hu
    simp only [maxLen] at h
    omega
  refine Ev.rounds ?_
  unfold laws_FnExactFramed.f
  obtain ⟨v, hv, hz⟩ := sz_ev (U := U) (by omega) hs'
  refine Ev.bind hv ?_
  by_cases h : v < 0
  · simp only [if_pos h]
    exact Ev.now _
  · simp only [if_neg h]
    rcases hz with hz | ⟨z1, z2⟩
    · exact absurd hz h
    · obtain ⟨g, hg1, hg2⟩ := framed_same z1 z2
      refine Ev.bind (toStr_ev (by omega)) (Ev.bind hg1 (Ev.bind (toStr_ev (by omega)) (Ev.bind hg2 ?_)))
      simp only [if_true, bne_self_eq_false]
      exact framed_tail z1

end Go.Proofs.Ytjcpapjochlndaa.Pure
