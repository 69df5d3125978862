/- The program's PartsOf returns what the reference's returns, for every text, and its list is its own. -/
import Derived.Test.YtjcpapjochlndaaQFnExactPartsOfx3
set_option linter.unusedVariables false
set_option linter.unusedSimpArgs false
namespace Go.Proofs.Ytjcpapjochlndaa.Pure
open Go.RowKit Go.Proofs.Ytjcpapjochlndaa.QFnExactPartsOf Go.Proofs.YtjcpapjochlndaaW.PrintWords Go.Proofs.YtjcpapjochlndaaW.PrintLast Go.Proofs.YtjcpapjochlndaaW.PrintMore

/-! ### Bytes as lists of numbers, and some plain facts -/
theorem w64 {x : Int} (h0 : -9223372036854775808 ≤ x) (h1 : x ≤ 9223372036854775807) : wrap64 x = x := by
  unfold wrap64
  omega
theorem i64_bounds {x : Int} (h : (Lit.int .i64 x).wf = true) : -9223372036854775808 ≤ x ∧ x ≤ 9223372036854775807 := by
  have e := h
  simp [Lit.wf, IntKind.min, IntKind.max, IntKind.signed, IntKind.bits] at e
  omega
/-- All numbers of the list are bytes. -/
def Bys (l : List Int) : Prop := ∀ x, x ∈ l → 0 ≤ x ∧ x < 256
theorem Bys.nil : Bys [] := fun _ h => by cases h
theorem Bys.cons {x : Int} {l : List Int} (h0 : 0 ≤ x) (h1 : x < 256) (h : Bys l) : Bys (x :: l) := fun y hy => by
  rcases List.mem_cons.1 hy with rfl | hy
  · exact ⟨h0, h1⟩
  · exact h y hy
theorem Bys.append {l m : List Int} (h : Bys l) (h' : Bys m) : Bys (l ++ m) := fun y hy => by
  rcases List.mem_append.1 hy with hy | hy
  · exact h y hy
  · exact h' y hy
theorem Bys.left {l m : List Int} (h : Bys (l ++ m)) : Bys l := fun y hy => h y (List.mem_append_left _ hy)
theorem Bys.right {l m : List Int} (h : Bys (l ++ m)) : Bys m := fun y hy => h y (List.mem_append_right _ hy)
theorem Bys.take {l : List Int} (h : Bys l) (n : Nat) : Bys (l.take n) := fun y hy => h y (List.mem_of_mem_take hy)
theorem Bys.drop {l : List Int} (h : Bys l) (n : Nat) : Bys (l.drop n) := fun y hy => h y (List.mem_of_mem_drop hy)
theorem Bys.getD {l : List Int} (h : Bys l) (i : Nat) : 0 ≤ l.getD i 0 ∧ l.getD i 0 < 256 := by
  rw [List.getD_eq_getElem?_getD]
  by_cases hi : i < l.length
  · rw [List.getElem?_eq_getElem hi]
    exact h _ (List.getElem_mem hi)
  · rw [List.getElem?_eq_none (by omega)]
    exact ⟨by decide, by decide⟩
theorem nums_of (a : ByteArray) : ∃ l, Bys l ∧ a = strOfNums l := by
  refine ⟨a.data.toList.map fun u => (u.toNat : Int), ?_, ?_⟩
  · intro x hx
    obtain ⟨u, _, rfl⟩ := List.mem_map.1 hx
    have := u.toNat_lt
    omega
  · unfold strOfNums
    rw [List.map_map]
    have e : ((fun n : Int => UInt8.ofNat n.toNat) ∘ fun u : UInt8 => (u.toNat : Int)) = id := by
      funext u
      simp
    rw [e, List.map_id]
theorem str_size (l : List Int) : (strOfNums l).size = l.length := strOfNums_size l
theorem bt_str {l : List Int} (h : Bys l) (i : Int) : bt (strOfNums l) i = l.getD i.toNat 0 := by
  unfold bt
  rw [List.getD_eq_getElem?_getD]
  split
  · rename_i hi
    have hi' : i.toNat < l.length := by rw [← str_size]; exact hi
    rw [List.getElem?_eq_getElem hi']
    have hb := h _ (List.getElem_mem hi')
    have e : (strOfNums l)[i.toNat]'hi = UInt8.ofNat (l[i.toNat]).toNat := by
      simp [strOfNums, ByteArray.getElem_eq_getElem_data]
    rw [e, UInt8.toNat_ofNat']
    simp only [Option.getD_some]
    omega
  · rename_i hi
    rw [List.getElem?_eq_none (by rw [← str_size]; omega)]
    rfl
theorem bt_get {l : List Int} (h : Bys l) {i : Int} {n : Nat} (hi : i = (n : Int)) : bt (strOfNums l) i = l.getD n 0 := by
  rw [bt_str h, hi, Int.toNat_natCast]
theorem str_append (l m : List Int) : strOfNums l ++ strOfNums m = strOfNums (l ++ m) := by
  apply ByteArray.ext
  rw [ByteArray.data_append]
  unfold strOfNums
  simp
theorem str_empty : (⟨#[]⟩ : ByteArray) = strOfNums [] := rfl
theorem str_inj {l m : List Int} (hl : Bys l) (hm : Bys m) (h : strOfNums l = strOfNums m) : l = m := by
  have hs : l.length = m.length := by rw [← str_size l, ← str_size m, h]
  apply List.ext_getElem hs
  intro i h1 h2
  have e1 := bt_get hl (i := (i : Int)) rfl
  have e2 := bt_get hm (i := (i : Int)) rfl
  rw [h, e2] at e1
  simp [List.getD_eq_getElem?_getD, h1, h2] at e1
  exact e1.symm
theorem str_extract (l : List Int) (i j : Nat) : (strOfNums l).extract i j = strOfNums ((l.take j).drop i) := by
  apply ByteArray.ext
  rw [ByteArray.data_extract]
  unfold strOfNums
  apply Array.ext'
  simp [List.extract_eq_take_drop, List.drop_take, List.map_drop, List.map_take]
theorem getD_mid (pre suf : List Int) (x : Int) : (pre ++ x :: suf).getD pre.length 0 = x := by
  rw [List.getD_eq_getElem?_getD, List.getElem?_append_right (Nat.le_refl _)]
  simp
theorem bt_mid {pre suf : List Int} {x : Int} (h : Bys (pre ++ x :: suf)) : bt (strOfNums (pre ++ x :: suf)) (pre.length : Int) = x := by
  rw [bt_get h rfl, getD_mid]
theorem rd_mid (pre suf : List Int) (x : Int) : rd (pre ++ x :: suf) (pre.length : Int) = x := by
  unfold rd
  rw [Int.toNat_natCast, getD_mid]
theorem snoc_cons (pre suf : List Int) (x : Int) : pre ++ x :: suf = (pre ++ [x]) ++ suf := by simp
theorem next_len (pre : List Int) (x : Int) (h : pre.length < 4611686018427387904) : wrap64 ((pre.length : Int) + 1) = ((pre ++ [x]).length : Int) := by
  rw [w64 (by omega) (by omega)]
  simp
theorem lt_mid (pre suf : List Int) (x : Int) : (pre.length : Int) < ((strOfNums (pre ++ x :: suf)).size : Int) := by
  rw [str_size]
  simp
  omega
theorem ge_end (pre : List Int) : ¬ ((pre.length : Int) < ((strOfNums pre).size : Int)) := by
  rw [str_size]
  omega
theorem mid_byte {pre suf : List Int} {x : Int} (h : Bys (pre ++ x :: suf)) : 0 ≤ x ∧ x < 256 := h x (by simp)
/-- The decimal figures of a number above 0. -/
def decd (n : Nat) : List Int := if h : n = 0 then [] else decd (n / 10) ++ [48 + ((n % 10 : Nat) : Int)]
termination_by n
decreasing_by omega
theorem decd_zero : decd 0 = [] := by rw [decd]; simp
theorem decd_pos (n : Nat) (h : n ≠ 0) : decd n = decd (n / 10) ++ [48 + ((n % 10 : Nat) : Int)] := by rw [decd]; simp [h]
/-- Decimal. -/
def deci (n : Int) : List Int := if n = 0 then [48] else (if n < 0 then [45] else []) ++ decd n.natAbs
theorem abs_facts (x : Int) : ((Int.tmod x 10).natAbs = x.natAbs % 10) ∧ ((Int.tdiv x 10).natAbs = x.natAbs / 10) := ⟨Int.natAbs_tmod _ _, Int.natAbs_tdiv _ _⟩
theorem exact_sb {g h : Nat → Option (ByteArray × Bool)} {v : ByteArray × Bool} (hg : Ev g v) (hh : Ev h v) :
    Ev (fun k => (g k).bind fun b1 => (h k).bind fun b2 => if b2.1.toList = b1.1.toList then (if (b2.2 != b1.2) = true then some false else some true) else some false) true := by
  refine Ev.bind hg (Ev.bind hh ?_)
  simp only [if_true, bne_self_eq_false, Bool.false_eq_true, if_false]
  exact Ev.now _
theorem exact_i {g h : Nat → Option Int} {v : Int} (hg : Ev g v) (hh : Ev h v) :
    Ev (fun k => (g k).bind fun b1 => (h k).bind fun b2 => if b2 = b1 then some true else some false) true := by
  refine Ev.bind hg (Ev.bind hh ?_)
  simp only [if_true]
  exact Ev.now _
theorem exact_s {g h : Nat → Option ByteArray} {v : ByteArray} (hg : Ev g v) (hh : Ev h v) :
    Ev (fun k => (g k).bind fun b1 => (h k).bind fun b2 => if b2.toList = b1.toList then some true else some false) true := by
  refine Ev.bind hg (Ev.bind hh ?_)
  simp only [if_true]
  exact Ev.now _
theorem exact_ib {g h : Nat → Option (Int × Bool)} {v : Int × Bool} (hg : Ev g v) (hh : Ev h v) :
    Ev (fun k => (g k).bind fun b1 => (h k).bind fun b2 => if b2.1 = b1.1 then (if (b2.2 != b1.2) = true then some false else some true) else some false) true := by
  refine Ev.bind hg (Ev.bind hh ?_)
  simp only [if_true, bne_self_eq_false, Bool.false_eq_true, if_false]
  exact Ev.now _
theorem exact_iib {g h : Nat → Option (Int × Int × Bool)} {v : Int × Int × Bool} (hg : Ev g v) (hh : Ev h v) :
    Ev (fun k => (g k).bind fun b1 => (h k).bind fun b2 => if b2.1 = b1.1 then (if b2.2.1 = b1.2.1 then (if (b2.2.2 != b1.2.2) = true then some false else some true) else some false) else some false) true := by
  refine Ev.bind hg (Ev.bind hh ?_)
  simp only [if_true, bne_self_eq_false, Bool.false_eq_true, if_false]
  exact Ev.now _
theorem exact_b {g h : Nat → Option Bool} {v : Bool} (hg : Ev g v) (hh : Ev h v) :
    Ev (fun k => (g k).bind fun b1 => (h k).bind fun b2 => if (b2 != b1) = true then some false else some true) true := by
  refine Ev.bind hg (Ev.bind hh ?_)
  simp only [bne_self_eq_false, Bool.false_eq_true, if_false]
  exact Ev.now _
theorem ev_now {α : Type} {g : Nat → Option α} {v : α} (h : ∀ k, g k = some v) : Ev g v := Ev.congr h (Ev.now v)
theorem snext_len (pre : List ByteArray) (x : ByteArray) (h : pre.length < 4611686018427387904) : wrap64 ((pre.length : Int) + 1) = ((pre ++ [x]).length : Int) := by
  rw [w64 (by omega) (by omega)]
  simp
theorem ssnoc (pre suf : List ByteArray) (x : ByteArray) : pre ++ x :: suf = (pre ++ [x]) ++ suf := by simp
theorem srd_mid (pre suf : List ByteArray) (x : ByteArray) : rdOf ByteArray.empty (pre ++ x :: suf) (pre.length : Int) = x := by
  unfold rdOf
  rw [Int.toNat_natCast, List.getD_eq_getElem?_getD, List.getElem?_append_right (Nat.le_refl _), Nat.sub_self]
  rfl
/-- The text of a mark. -/
def mtext (n : Nat) : ByteArray := strOfNums (109 :: (if n = 0 then [48] else decd n))
theorem mark_loop : ∀ (j n : Nat) (acc : List Int), n < 10 ^ j → j ≤ 18 → acc.length + j ≤ 1000 → Ev (fun k => laws_markText.l0 k (n : Int) (strOfNums acc)) (strOfNums (109 :: (decd n ++ acc)))
  | j, n, acc, hj, h18, ha => by
    by_cases h : n = 0
    · subst h
      rw [decd_zero, List.nil_append]
      refine Ev.step (f := fun _ => some (strOfNums (109 :: acc))) (fun k => ?_) (Ev.now _)
      simp only [laws_markText.l0, str_size]
      rw [if_neg (by omega), if_pos (by omega), show (⟨#[109]⟩ : ByteArray) = strOfNums [109] from rfl, str_append]
      rfl
    · obtain ⟨j, rfl⟩ : ∃ i, j = i + 1 := by
        cases j with
        | zero => simp at hj; omega
        | succ i => exact ⟨i, rfl⟩
      have hp : (10 : Nat) ^ (j + 1) ≤ 10 ^ 18 := Nat.pow_le_pow_right (by decide) h18
      have ih := mark_loop j (n / 10) ((48 + ((n % 10 : Nat) : Int)) :: acc) (by rw [Nat.pow_succ] at hj; omega) (by omega) (by simp only [List.length_cons]; omega)
      rw [decd_pos n h, List.append_assoc, List.singleton_append]
      refine Ev.step (fun k => ?_) ih
      simp only [laws_markText.l0, Option.bind_some, str_size]
      rw [if_pos (by omega), Int.tmod_eq_emod_of_nonneg (by omega), Int.tdiv_eq_ediv_of_nonneg (by omega), w64 (x := 48 + (n : Int) % 10) (by omega) (by omega), Int.emod_eq_of_lt (a := 48 + (n : Int) % 10) (by omega) (by omega), w64 (by omega) (by omega), if_pos (by simp only [List.length_singleton]; omega), str_append, show (n : Int) / 10 = ((n / 10 : Nat) : Int) by omega, show (n : Int) % 10 = ((n % 10 : Nat) : Int) by omega]
      rfl
theorem mark_ev {n : Nat} (h : n < 10 ^ 18) : Ev (fun k => laws_markText.f k (n : Int)) (mtext n) := by
  unfold laws_markText.f mtext
  by_cases h0 : n = 0
  · subst h0
    rw [if_pos rfl]
    exact ev_now fun k => by rw [if_pos (by decide)]; rfl
  · have := mark_loop 18 n [] h (Nat.le_refl _) (by decide)
    rw [List.append_nil] at this
    simp only [if_neg (show ¬ ((n : Int) ≤ 0) by omega), if_neg h0]
    exact this
/-- The marks from n on. -/
def smarks : Nat → Nat → List ByteArray
  | _, 0 => []
  | n, d + 1 => mtext n :: smarks (n + 1) d
theorem smarks_len : ∀ (d n : Nat), (smarks n d).length = d
  | 0, _ => rfl
  | d + 1, n => by simp only [smarks, List.length_cons, smarks_len d (n + 1)]
theorem sset_mid (pre zs : List ByteArray) (y x : ByteArray) : (pre ++ y :: zs).set pre.length x = (pre ++ [x]) ++ zs := by
  rw [List.set_append_right _ _ (Nat.le_refl _), Nat.sub_self, List.set_cons_zero, List.append_assoc]
  rfl
theorem markStrings_loop : ∀ (suf pre : List ByteArray) (n : Nat), (pre ++ suf).length ≤ 1048576 → n + suf.length ≤ 4000000 → Ev (fun k => laws_markStringS.l0 k (pre ++ suf) (n : Int) (pre.length : Int)) (((n + suf.length : Nat) : Int), pre ++ smarks n suf.length)
  | [], pre, n, hl, _ => by
    refine Ev.step (f := fun _ => some ((n : Int), pre)) (fun k => ?_) (by simp only [smarks, List.append_nil, List.length_nil, Nat.add_zero]; exact Ev.now _)
    simp only [laws_markStringS.l0, List.append_nil]
    rw [if_neg (by omega)]
  | x :: suf, pre, n, hl, hn => by
    have hll : (pre ++ x :: suf).length = pre.length + (suf.length + 1) := by simp
    have hn' : n + (suf.length + 1) ≤ 4000000 := by simpa using hn
    have ih := markStrings_loop suf (pre ++ [mtext n]) (n + 1) (by simp; omega) (by omega)
    refine Ev.step (f := fun k => (laws_markText.f k (n : Int)).bind fun t => laws_markStringS.l0 k ((pre ++ x :: suf).set pre.length t) ((n + 1 : Nat) : Int) ((pre ++ [mtext n]).length : Int)) (fun k => ?_) (Ev.bind (mark_ev (by omega)) ?_)
    · simp only [laws_markStringS.l0]
      rw [if_pos (by omega), w64 (x := (n : Int) + 1) (by omega) (by omega), snext_len pre (mtext n) (by omega)]
      simp only [if_pos (show (0 : Int) ≤ (pre.length : Int) by omega), Int.toNat_natCast]
      rfl
    · rw [sset_mid, show n + (x :: suf).length = n + 1 + suf.length by simp only [List.length_cons]; omega, show pre ++ smarks n (x :: suf).length = (pre ++ [mtext n]) ++ smarks (n + 1) suf.length by simp [smarks]]
      exact ih
theorem markStrings_ev {l : List ByteArray} {n : Nat} (hl : l.length ≤ 1048576) (hn : n + l.length ≤ 4000000) : Ev (fun k => laws_markStringS.f k l (n : Int)) (((n + l.length : Nat) : Int), smarks n l.length) := by
  unfold laws_markStringS.f
  exact markStrings_loop l [] n hl hn
theorem heldStrings_loop : ∀ (d : Nat) (pre : List ByteArray) (n : Nat), pre.length + d ≤ 1048576 → n + d ≤ 4000000 → Ev (fun k => laws_heldStringS.l0 k (pre ++ smarks n d) (n : Int) (pre.length : Int)) ((n + d : Nat) : Int)
  | 0, pre, n, hl, _ => by
    refine Ev.step (f := fun _ => some (n : Int)) (fun k => ?_) (Ev.now _)
    simp only [laws_heldStringS.l0, smarks, List.append_nil]
    rw [if_neg (by omega)]
  | d + 1, pre, n, hl, hn => by
    have ih := heldStrings_loop d (pre ++ [mtext n]) (n + 1) (by simp; omega) (by omega)
    rw [← ssnoc] at ih
    have hm := smarks_len d (n + 1)
    show Ev (fun k => laws_heldStringS.l0 k (pre ++ mtext n :: smarks (n + 1) d) (n : Int) (pre.length : Int)) ((n + (d + 1) : Nat) : Int)
    refine Ev.step (f := fun k => (laws_markText.f k (n : Int)).bind fun t => (if (mtext n).toList = t.toList then (laws_heldStringS.l0 k (pre ++ mtext n :: smarks (n + 1) d) ((n + 1 : Nat) : Int) ((pre ++ [mtext n]).length : Int)) else (some (-1)))) (fun k => ?_) (Ev.bind (mark_ev (by omega)) ?_)
    · simp only [laws_heldStringS.l0]
      rw [if_pos (by rw [List.length_append, List.length_cons]; omega), if_pos (by omega), srd_mid, w64 (x := (n : Int) + 1) (by omega) (by omega), snext_len pre (mtext n) (by omega)]
      rfl
    · simp only [if_true]
      rw [show n + (d + 1) = n + 1 + d by omega]
      exact ih
theorem heldStrings_ev {d n : Nat} (hl : d ≤ 1048576) (hn : n + d ≤ 4000000) : Ev (fun k => laws_heldStringS.f k (smarks n d) (n : Int)) ((n + d : Nat) : Int) := by
  unfold laws_heldStringS.f
  exact heldStrings_loop d [] n (by simpa using hl) hn
theorem eqStrings_loop : ∀ (suf pre : List ByteArray), (pre ++ suf).length ≤ 1048576 → Ev (fun k => laws_eqStringS.l0 k (pre ++ suf) (pre ++ suf) (pre.length : Int)) true
  | [], pre, hl => by
    refine Ev.step (f := fun _ => some true) (fun k => ?_) (Ev.now _)
    simp only [laws_eqStringS.l0, List.append_nil]
    rw [if_neg (by omega)]
  | x :: suf, pre, hl => by
    have hll : (pre ++ x :: suf).length = pre.length + (suf.length + 1) := by simp
    have ih := eqStrings_loop suf (pre ++ [x]) (by rw [← ssnoc]; exact hl)
    rw [← ssnoc] at ih
    refine Ev.step (fun k => ?_) ih
    simp only [laws_eqStringS.l0, if_true]
    rw [if_pos (by omega), if_pos (by omega), if_pos (by omega), snext_len pre x (by omega)]
theorem eqStrings_ev {l : List ByteArray} (hl : l.length ≤ 1048576) : Ev (fun k => laws_eqStringS.f k l l) true := by
  unfold laws_eqStringS.f
  simp only [if_true]
  exact eqStrings_loop l [] hl
def badB (b : ByteArray) (i : Nat) : Bool := decide (i < b.size) && (decide (bt b i < 32) || decide (bt b i > 126))
def wordB (b : ByteArray) (i : Nat) : Bool := decide (i < b.size) && (bt b i != 32)
/-- PartsOf, told over places: what lies from place i on, the part that is open having begun at p. -/
def partsV (b : ByteArray) : Nat → List ByteArray → Nat → Nat → List ByteArray × Bool
  | 0, out, _, _ => if (out.length : Int) > 12 then ([], false) else (out, true)
  | d + 1, out, p, i => if badB b i = true then ([], false) else if wordB b i = true then partsV b d out p (i + 1) else partsV b d (if p < i then out ++ [b.extract p i] else out) (i + 1) (i + 1)
theorem i64nat {i : Nat} (h : i ≤ 1000) : wrap64 ((i : Int) + 1) = ((i + 1 : Nat) : Int) := by
  rw [w64 (by omega) (by omega)]
  rfl
theorem partsV_len (b : ByteArray) : ∀ (d : Nat) (out : List ByteArray) (p i : Nat), (partsV b d out p i).1.length ≤ 12
  | 0, out, p, i => by
    unfold partsV
    split
    · simp
    · simp only; omega
  | d + 1, out, p, i => by
    unfold partsV
    split
    · simp
    · split
      · exact partsV_len b d _ _ _
      · exact partsV_len b d _ _ _
theorem spec_p0 (b : ByteArray) (out : List ByteArray) (p i : Nat) (hi : i ≤ b.size) (k : Nat) : spec_PartsOf.l0 (k + 1) b out (p : Int) (i : Int) = spec_PartsOf.j1 k b out (p : Int) (i : Int) (badB b i) := by
  rw [spec_PartsOf.l0, if_pos (by omega)]
  unfold badB
  by_cases h : i < b.size
  · rw [if_pos (by omega), if_pos (by omega), decide_eq_true h, Bool.true_and]
    by_cases h1 : bt b i < 32
    · rw [if_pos h1, decide_eq_true h1, Bool.true_or]
    · rw [if_neg h1, decide_eq_false h1, Bool.false_or]
  · rw [if_neg (by omega), decide_eq_false h, Bool.false_and]
theorem spec_p1 (b : ByteArray) (out : List ByteArray) (p i : Nat) (x : Bool) (k : Nat) : spec_PartsOf.j1 (k + 1) b out (p : Int) (i : Int) x = if x = true then some ([], false) else spec_PartsOf.j2 k b out (p : Int) (i : Int) (wordB b i) := by
  rw [spec_PartsOf.j1]
  cases x
  case true => rw [if_pos rfl, if_pos rfl]
  rw [if_neg Bool.false_ne_true, if_neg Bool.false_ne_true]
  unfold wordB
  by_cases h : i < b.size
  · rw [if_pos (by omega), if_pos (by omega), decide_eq_true h, Bool.true_and]
  · rw [if_neg (c := (i : Int) < (b.size : Int)) (by omega), decide_eq_false h, Bool.false_and]
theorem spec_p2 (b : ByteArray) (out : List ByteArray) (p i : Nat) (hi : i ≤ b.size) (hp : p ≤ i) (hb : b.size ≤ 600) (ho : out.length ≤ i) (x : Bool) (k : Nat) : spec_PartsOf.j2 (k + 1) b out (p : Int) (i : Int) x = if x = true then spec_PartsOf.l0 k b out (p : Int) ((i + 1 : Nat) : Int) else spec_PartsOf.l0 k b (if p < i then out ++ [b.extract p i] else out) ((i + 1 : Nat) : Int) ((i + 1 : Nat) : Int) := by
  rw [spec_PartsOf.j2, i64nat (by omega)]
  cases x
  case true => rw [if_pos rfl, if_pos rfl]
  rw [if_neg Bool.false_ne_true, if_neg Bool.false_ne_true]
  by_cases h : p < i
  · rw [if_pos (c := (p : Int) < (i : Int)) (by omega), if_pos (by omega), if_pos (by omega), if_pos (by omega), if_pos (by omega), if_pos h, Int.toNat_natCast, Int.toNat_natCast]
  · rw [if_neg (c := (p : Int) < (i : Int)) (by omega), if_neg h]
theorem out_len {out : List ByteArray} {b : ByteArray} {p i : Nat} (ho : out.length ≤ i) : (if p < i then out ++ [b.extract p i] else out).length ≤ i + 1 := by
  split
  · simp; omega
  · omega
theorem spec_parts_loop (b : ByteArray) (hb : b.size ≤ 600) : ∀ (d : Nat) (out : List ByteArray) (p i : Nat), i + d = b.size + 1 → p ≤ i → out.length ≤ i → Ev (fun k => spec_PartsOf.l0 k b out (p : Int) (i : Int)) (partsV b d out p i)
  | 0, out, p, i, hi, hp, ho => by
    refine Ev.step (f := fun _ => some (partsV b 0 out p i)) (fun k => ?_) (Ev.now _)
    rw [spec_PartsOf.l0, if_neg (by omega)]
    unfold partsV
    split <;> rfl
  | d + 1, out, p, i, hi, hp, ho => by
    refine Ev.step (f := fun k => spec_PartsOf.j1 k b out (p : Int) (i : Int) (badB b i)) (fun k => spec_p0 b out p i (by omega) k) ?_
    refine Ev.step (f := fun k => if badB b i = true then some ([], false) else spec_PartsOf.j2 k b out (p : Int) (i : Int) (wordB b i)) (fun k => spec_p1 b out p i _ k) ?_
    unfold partsV
    by_cases h1 : badB b i = true
    · simp only [if_pos h1]
      exact Ev.now _
    · simp only [if_neg h1]
      refine Ev.step (fun k => spec_p2 b out p i (by omega) hp hb ho _ k) ?_
      by_cases h2 : wordB b i = true
      · simp only [if_pos h2]
        exact spec_parts_loop b hb d out p (i + 1) (by omega) (by omega) (by omega)
      · simp only [if_neg h2]
        exact spec_parts_loop b hb d _ (i + 1) (i + 1) (by omega) (by omega) (out_len ho)
/-- Where the open part began, as the program tells it. -/
def fromI (p i : Nat) : Int := if p < i then (p : Int) else -1
theorem impl_p0 (b : ByteArray) (out : List ByteArray) (f : Int) (i : Nat) (hi : i ≤ b.size) (k : Nat) : impl_PartsOf.l0 (k + 1) b out f (i : Int) = impl_PartsOf.j1 k b out f (i : Int) (badB b i) := by
  rw [impl_PartsOf.l0, if_pos (by omega)]
  unfold badB
  by_cases h : i < b.size
  · have hr := bt_range b i
    rw [if_pos (by omega), if_pos (by omega), decide_eq_true h, Bool.true_and, w64 (by omega) (by omega)]
    unfold impl_within.f
    by_cases h1 : bt b i < 32
    · rw [if_neg (by omega), decide_eq_true h1, Bool.true_or]
      rfl
    · rw [if_pos (by omega), decide_eq_false h1, Bool.false_or, Option.bind_some]
      by_cases h2 : bt b i ≤ 126
      · rw [decide_eq_true h2, decide_eq_false (by omega)]
        rfl
      · rw [decide_eq_false h2, decide_eq_true (by omega)]
        rfl
  · rw [if_neg (by omega), decide_eq_false h, Bool.false_and]
theorem impl_p1 (b : ByteArray) (out : List ByteArray) (f : Int) (i : Nat) (hi : i ≤ b.size) (x : Bool) (k : Nat) : impl_PartsOf.j1 (k + 1) b out f (i : Int) x = if x = true then some ([], false) else impl_PartsOf.j2 k b out f (i : Int) (!(wordB b i)) := by
  rw [impl_PartsOf.j1]
  cases x
  case true => rw [if_pos rfl, if_pos rfl]
  rw [if_neg Bool.false_ne_true, if_neg Bool.false_ne_true]
  unfold wordB
  by_cases h : i < b.size
  · rw [if_neg (c := (i : Int) = (b.size : Int)) (by omega), if_pos (by omega), if_pos (by omega), decide_eq_true h, Bool.true_and]
    simp only [bne, Bool.not_not]
  · rw [if_pos (c := (i : Int) = (b.size : Int)) (by omega), decide_eq_false h, Bool.false_and]
    rfl
theorem impl_word (b : ByteArray) (out : List ByteArray) (p i : Nat) (hp : p ≤ i) (hi : i ≤ 600) (k : Nat) : impl_PartsOf.j2 (k + 1 + 1) b out (fromI p i) (i : Int) false = impl_PartsOf.l0 k b out (fromI p (i + 1)) ((i + 1 : Nat) : Int) := by
  rw [impl_PartsOf.j2, if_neg Bool.false_ne_true, impl_PartsOf.j3, if_neg Bool.false_ne_true, if_neg Bool.false_ne_true, i64nat (by omega)]
  unfold fromI
  by_cases h : p < i
  · rw [if_pos h, if_pos (show p < i + 1 by omega), decide_eq_false (by omega), if_neg Bool.false_ne_true]
  · obtain rfl : p = i := by omega
    rw [if_neg h, if_pos (show p < p + 1 by omega), decide_eq_true (by omega), if_pos rfl]
theorem impl_blank (b : ByteArray) (out : List ByteArray) (p i : Nat) (hi : i ≤ b.size) (hp : p ≤ i) (hb : b.size ≤ 600) (ho : out.length ≤ i) (k : Nat) : impl_PartsOf.j2 (k + 1 + 1) b out (fromI p i) (i : Int) true = impl_PartsOf.l0 k b (if p < i then out ++ [b.extract p i] else out) (fromI (i + 1) (i + 1)) ((i + 1 : Nat) : Int) := by
  rw [impl_PartsOf.j2, if_pos rfl, impl_PartsOf.j3, if_neg Bool.false_ne_true, if_pos rfl, i64nat (by omega)]
  unfold fromI
  rw [if_neg (show ¬ i + 1 < i + 1 by omega)]
  by_cases h : p < i
  · simp only [if_pos h]
    rw [if_pos (by omega), if_pos (by omega), if_pos (by omega), if_pos (by omega), if_pos (by omega), Int.toNat_natCast, Int.toNat_natCast]
  · simp only [if_neg h]
    rw [if_neg (by omega)]
theorem impl_parts_loop (b : ByteArray) (hb : b.size ≤ 600) : ∀ (d : Nat) (out : List ByteArray) (p i : Nat), i + d = b.size + 1 → p ≤ i → out.length ≤ i → Ev (fun k => impl_PartsOf.l0 k b out (fromI p i) (i : Int)) (partsV b d out p i)
  | 0, out, p, i, hi, hp, ho => by
    refine Ev.step (f := fun _ => some (partsV b 0 out p i)) (fun k => ?_) (Ev.now _)
    rw [impl_PartsOf.l0, if_neg (by omega)]
    unfold partsV
    split <;> rfl
  | d + 1, out, p, i, hi, hp, ho => by
    refine Ev.step (f := fun k => impl_PartsOf.j1 k b out (fromI p i) (i : Int) (badB b i)) (fun k => impl_p0 b out _ i (by omega) k) ?_
    refine Ev.step (f := fun k => if badB b i = true then some ([], false) else impl_PartsOf.j2 k b out (fromI p i) (i : Int) (!(wordB b i))) (fun k => impl_p1 b out _ i (by omega) _ k) ?_
    unfold partsV
    by_cases h1 : badB b i = true
    · simp only [if_pos h1]
      exact Ev.now _
    · simp only [if_neg h1]
      by_cases h2 : wordB b i = true
      · simp only [if_pos h2]
        rw [h2]
        refine Ev.step (f := fun k => impl_PartsOf.j3 k b out (fromI p i) (i : Int) false (decide (fromI p i < 0))) (fun k => by rw [Bool.not_true, impl_PartsOf.j2, if_neg Bool.false_ne_true]) ?_
        refine Ev.step (f := fun k => impl_PartsOf.l0 k b out (fromI p (i + 1)) ((i + 1 : Nat) : Int)) (fun k => ?_) (impl_parts_loop b hb d out p (i + 1) (by omega) (by omega) (by omega))
        have := impl_word b out p i hp (by omega) k
        rw [impl_PartsOf.j2, if_neg Bool.false_ne_true] at this
        exact this
      · simp only [if_neg h2]
        rw [Bool.eq_false_iff.2 h2]
        refine Ev.step (f := fun k => impl_PartsOf.j3 k b out (fromI p i) (i : Int) true false) (fun k => by rw [Bool.not_false, impl_PartsOf.j2, if_pos rfl]) ?_
        refine Ev.step (f := fun k => impl_PartsOf.l0 k b (if p < i then out ++ [b.extract p i] else out) (fromI (i + 1) (i + 1)) ((i + 1 : Nat) : Int)) (fun k => ?_) (impl_parts_loop b hb d _ (i + 1) (i + 1) (by omega) (by omega) (out_len ho))
        have := impl_blank b out p i (by omega) hp hb ho k
        rw [impl_PartsOf.j2, if_pos rfl] at this
        exact this
theorem parts_ev (b : ByteArray) : ∃ v : List ByteArray × Bool, v.1.length ≤ 12 ∧ Ev (fun k => spec_PartsOf.f k b) v ∧ Ev (fun k => impl_PartsOf.f k b) v := by
  unfold spec_PartsOf.f impl_PartsOf.f
  simp only [Option.bind_some]
  by_cases h : (b.size : Int) > 600
  · refine ⟨([], false), by simp, ?_, ?_⟩
    · simp only [if_pos h]
      exact Ev.now _
    · simp only [if_pos h]
      exact Ev.now _
  · refine ⟨partsV b (b.size + 1) [] 0 0, partsV_len b _ _ _ _, ?_, ?_⟩
    · simp only [if_neg h]
      exact spec_parts_loop b (by omega) (b.size + 1) [] 0 0 (by omega) (Nat.le_refl _) (Nat.le_refl _)
    · simp only [if_neg h]
      exact impl_parts_loop b (by omega) (b.size + 1) [] 0 0 (by omega) (Nat.le_refl _) (Nat.le_refl _)
theorem FnExactPartsOf : laws_FnExactPartsOf.Pure := by
  intro a _
  by_cases hbig : (a.size : Int) > 1048576
  · exact ⟨0, by unfold laws_FnExactPartsOf.f; rw [if_pos hbig]⟩
  · refine Ev.rounds ?_
    unfold laws_FnExactPartsOf.f
    simp only [if_neg hbig]
    obtain ⟨⟨U, ok⟩, hU, h1, h2⟩ := parts_ev a
    dsimp only at hU
    have he := eqStrings_ev (l := U) (by omega)
    have hm := markStrings_ev (l := U) (n := 1) (by omega) (by omega)
    have hh := heldStrings_ev (d := U.length) (n := 1) (by omega) (by omega)
    refine Ev.bind h1 (Ev.bind h2 (Ev.bind he ?_))
    simp only [if_true, bne_self_eq_false]
    refine Ev.step (f := fun k => (laws_markStringS.f k U 1).bind fun m => ((laws_heldStringS.f k m.2 1).bind fun t => (if t < 0 then (some false) else (if t = m.1 then ((impl_PartsOf.f k a).bind fun g => ((laws_eqStringS.f k g.1 U).bind fun e => (if e = true then (laws_FnExactPartsOf.j1 k m.2 m.1 (g.2 != ok)) else (laws_FnExactPartsOf.j1 k m.2 m.1 true)))) else (some false))))) (fun k => ?_) (Ev.bind hm (Ev.bind hh ?_))
    · simp only [laws_FnExactPartsOf.j0, Bool.false_eq_true, if_false]
    · simp only [if_neg (show ¬ (((1 + U.length : Nat) : Int) < 0) by omega), if_true]
      refine Ev.bind h2 (Ev.bind he ?_)
      simp only [if_true, bne_self_eq_false]
      refine Ev.step (f := fun k => (laws_heldStringS.f k (smarks 1 U.length) 1).bind fun t => (if t < 0 then (some false) else (if t = ((1 + U.length : Nat) : Int) then (some true) else (some false)))) (fun k => ?_) (Ev.bind hh ?_)
      · simp only [laws_FnExactPartsOf.j1, Bool.false_eq_true, if_false]
      · simp only [if_neg (show ¬ (((1 + U.length : Nat) : Int) < 0) by omega), if_true]
        exact Ev.now _

end Go.Proofs.Ytjcpapjochlndaa.Pure
