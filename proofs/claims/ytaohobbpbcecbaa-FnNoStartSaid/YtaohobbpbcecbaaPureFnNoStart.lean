/- What Escaped writes holds no start, and Unescaped takes it back. -/
import Derived.Test.YtaohobbpbcecbaaQFnNoStartx3
set_option linter.unusedVariables false
set_option linter.unusedSimpArgs false
namespace Go.Proofs.Ytaohobbpbcecbaa.Pure
open Go.RowKit Go.Proofs.Ytaohobbpbcecbaa.QFnNoStart Go.Proofs.YtaohobbpbcecbaaW.PrintWords Go.Proofs.YtaohobbpbcecbaaW.PrintLast Go.Proofs.YtaohobbpbcecbaaW.PrintMore

/-! ### Bytes as lists of numbers, and some plain facts -/
theorem w64 {x : Int} (h0 : -9223372036854775808 ≤ x) (h1 : x ≤ 9223372036854775807) : wrap64 x = x := by
  unfold wrap64
  omega
theorem i64_bounds {x : Int} (h : (Lit.int .i64 x).wf = true) : -9223372036854775808 ≤ x ∧ x ≤ 9223372036854775807 := by
  have e := h
  simp [Lit.wf, IntKind.min, IntKind.max, IntKind.signed, IntKind.bits] at e
  omega
/-- All numbers of the list are bytes. -/
def Bys (l : List Int) : Prop := ∀ x, x ∈ l → 0 ≤ x ∧ x < 256
theorem Bys.nil : Bys [] := fun _ h => by cases h
theorem Bys.cons {x : Int} {l : List Int} (h0 : 0 ≤ x) (h1 : x < 256) (h : Bys l) : Bys (x :: l) := fun y hy => by
  rcases List.mem_cons.1 hy with rfl | hy
  · exact ⟨h0, h1⟩
  · exact h y hy
theorem Bys.append {l m : List Int} (h : Bys l) (h' : Bys m) : Bys (l ++ m) := fun y hy => by
  rcases List.mem_append.1 hy with hy | hy
  · exact h y hy
  · exact h' y hy
theorem Bys.left {l m : List Int} (h : Bys (l ++ m)) : Bys l := fun y hy => h y (List.mem_append_left _ hy)
theorem Bys.right {l m : List Int} (h : Bys (l ++ m)) : Bys m := fun y hy => h y (List.mem_append_right _ hy)
theorem Bys.take {l : List Int} (h : Bys l) (n : Nat) : Bys (l.take n) := fun y hy => h y (List.mem_of_mem_take hy)
theorem Bys.drop {l : List Int} (h : Bys l) (n : Nat) : Bys (l.drop n) := fun y hy => h y (List.mem_of_mem_drop hy)
theorem Bys.getD {l : List Int} (h : Bys l) (i : Nat) : 0 ≤ l.getD i 0 ∧ l.getD i 0 < 256 := by
  rw [List.getD_eq_getElem?_getD]
  by_cases hi : i < l.length
  · rw [List.getElem?_eq_getElem hi]
    exact h _ (List.getElem_mem hi)
  · rw [List.getElem?_eq_none (by omega)]
    exact ⟨by decide, by decide⟩
theorem nums_of (a : ByteArray) : ∃ l, Bys l ∧ a = strOfNums l := by
  refine ⟨a.data.toList.map fun u => (u.toNat : Int), ?_, ?_⟩
  · intro x hx
    obtain ⟨u, _, rfl⟩ := List.mem_map.1 hx
    have := u.toNat_lt
    omega
  · unfold strOfNums
    rw [List.map_map]
    have e : ((fun n : Int => UInt8.ofNat n.toNat) ∘ fun u : UInt8 => (u.toNat : Int)) = id := by
      funext u
      simp
    rw [e, List.map_id]
theorem str_size (l : List Int) : (strOfNums l).size = l.length := strOfNums_size l
theorem bt_str {l : List Int} (h : Bys l) (i : Int) : bt (strOfNums l) i = l.getD i.toNat 0 := by
  unfold bt
  rw [List.getD_eq_getElem?_getD]
  split
  · rename_i hi
    have hi' : i.toNat < l.length := by rw [← str_size]; exact hi
    rw [List.getElem?_eq_getElem hi']
    have hb := h _ (List.getElem_mem hi')
    have e : (strOfNums l)[i.toNat]'hi = UInt8.ofNat (l[i.toNat]).toNat := by
      simp [strOfNums, ByteArray.getElem_eq_getElem_data]
    rw [e, UInt8.toNat_ofNat']
    simp only [Option.getD_some]
    omega
  · rename_i hi
    rw [List.getElem?_eq_none (by rw [← str_size]; omega)]
    rfl
theorem bt_get {l : List Int} (h : Bys l) {i : Int} {n : Nat} (hi : i = (n : Int)) : bt (strOfNums l) i = l.getD n 0 := by
  rw [bt_str h, hi, Int.toNat_natCast]
theorem str_append (l m : List Int) : strOfNums l ++ strOfNums m = strOfNums (l ++ m) := by
  apply ByteArray.ext
  rw [ByteArray.data_append]
  unfold strOfNums
  simp
theorem str_empty : (⟨#[]⟩ : ByteArray) = strOfNums [] := rfl
theorem str_inj {l m : List Int} (hl : Bys l) (hm : Bys m) (h : strOfNums l = strOfNums m) : l = m := by
  have hs : l.length = m.length := by rw [← str_size l, ← str_size m, h]
  apply List.ext_getElem hs
  intro i h1 h2
  have e1 := bt_get hl (i := (i : Int)) rfl
  have e2 := bt_get hm (i := (i : Int)) rfl
  rw [h, e2] at e1
  simp [List.getD_eq_getElem?_getD, h1, h2] at e1
  exact e1.symm
theorem str_extract (l : List Int) (i j : Nat) : (strOfNums l).extract i j = strOfNums ((l.take j).drop i) := by
  apply ByteArray.ext
  rw [ByteArray.data_extract]
  unfold strOfNums
  apply Array.ext'
  simp [List.extract_eq_take_drop, List.drop_take, List.map_drop, List.map_take]
theorem getD_mid (pre suf : List Int) (x : Int) : (pre ++ x :: suf).getD pre.length 0 = x := by
  rw [List.getD_eq_getElem?_getD, List.getElem?_append_right (Nat.le_refl _)]
  simp
theorem bt_mid {pre suf : List Int} {x : Int} (h : Bys (pre ++ x :: suf)) : bt (strOfNums (pre ++ x :: suf)) (pre.length : Int) = x := by
  rw [bt_get h rfl, getD_mid]
theorem rd_mid (pre suf : List Int) (x : Int) : rd (pre ++ x :: suf) (pre.length : Int) = x := by
  unfold rd
  rw [Int.toNat_natCast, getD_mid]
theorem snoc_cons (pre suf : List Int) (x : Int) : pre ++ x :: suf = (pre ++ [x]) ++ suf := by simp
theorem next_len (pre : List Int) (x : Int) (h : pre.length < 4611686018427387904) : wrap64 ((pre.length : Int) + 1) = ((pre ++ [x]).length : Int) := by
  rw [w64 (by omega) (by omega)]
  simp
theorem lt_mid (pre suf : List Int) (x : Int) : (pre.length : Int) < ((strOfNums (pre ++ x :: suf)).size : Int) := by
  rw [str_size]
  simp
  omega
theorem ge_end (pre : List Int) : ¬ ((pre.length : Int) < ((strOfNums pre).size : Int)) := by
  rw [str_size]
  omega
theorem mid_byte {pre suf : List Int} {x : Int} (h : Bys (pre ++ x :: suf)) : 0 ≤ x ∧ x < 256 := h x (by simp)
theorem exact_sb {g h : Nat → Option (ByteArray × Bool)} {v : ByteArray × Bool} (hg : Ev g v) (hh : Ev h v) :
    Ev (fun k => (g k).bind fun b1 => (h k).bind fun b2 => if b2.1.toList = b1.1.toList then (if (b2.2 != b1.2) = true then some false else some true) else some false) true := by
  refine Ev.bind hg (Ev.bind hh ?_)
  simp only [if_true, bne_self_eq_false, Bool.false_eq_true, if_false]
  exact Ev.now _
theorem exact_i {g h : Nat → Option Int} {v : Int} (hg : Ev g v) (hh : Ev h v) :
    Ev (fun k => (g k).bind fun b1 => (h k).bind fun b2 => if b2 = b1 then some true else some false) true := by
  refine Ev.bind hg (Ev.bind hh ?_)
  simp only [if_true]
  exact Ev.now _
theorem exact_s {g h : Nat → Option ByteArray} {v : ByteArray} (hg : Ev g v) (hh : Ev h v) :
    Ev (fun k => (g k).bind fun b1 => (h k).bind fun b2 => if b2.toList = b1.toList then some true else some false) true := by
  refine Ev.bind hg (Ev.bind hh ?_)
  simp only [if_true]
  exact Ev.now _
theorem exact_ib {g h : Nat → Option (Int × Bool)} {v : Int × Bool} (hg : Ev g v) (hh : Ev h v) :
    Ev (fun k => (g k).bind fun b1 => (h k).bind fun b2 => if b2.1 = b1.1 then (if (b2.2 != b1.2) = true then some false else some true) else some false) true := by
  refine Ev.bind hg (Ev.bind hh ?_)
  simp only [if_true, bne_self_eq_false, Bool.false_eq_true, if_false]
  exact Ev.now _
theorem exact_iib {g h : Nat → Option (Int × Int × Bool)} {v : Int × Int × Bool} (hg : Ev g v) (hh : Ev h v) :
    Ev (fun k => (g k).bind fun b1 => (h k).bind fun b2 => if b2.1 = b1.1 then (if b2.2.1 = b1.2.1 then (if (b2.2.2 != b1.2.2) = true then some false else some true) else some false) else some false) true := by
  refine Ev.bind hg (Ev.bind hh ?_)
  simp only [if_true, bne_self_eq_false, Bool.false_eq_true, if_false]
  exact Ev.now _
theorem exact_b {g h : Nat → Option Bool} {v : Bool} (hg : Ev g v) (hh : Ev h v) :
    Ev (fun k => (g k).bind fun b1 => (h k).bind fun b2 => if (b2 != b1) = true then some false else some true) true := by
  refine Ev.bind hg (Ev.bind hh ?_)
  simp only [bne_self_eq_false, Bool.false_eq_true, if_false]
  exact Ev.now _
theorem ev_now {α : Type} {g : Nat → Option α} {v : α} (h : ∀ k, g k = some v) : Ev g v := Ev.congr h (Ev.now v)
theorem and255 (x : Int) : 0 ≤ Go.bits .and .i64 x 255 ∧ Go.bits .and .i64 x 255 ≤ 255 := by
  have h : ((BitVec.ofInt 64 x) &&& (BitVec.ofInt 64 255)).toNat ≤ 255 := by
    rw [BitVec.toNat_and]
    exact Nat.le_trans Nat.and_le_right (by decide)
  have e : Go.bits .and .i64 x 255 = ((((BitVec.ofInt 64 x) &&& (BitVec.ofInt 64 255)).toNat : Nat) : Int) := by
    show IntKind.i64.wrap ((((BitVec.ofInt 64 x) &&& (BitVec.ofInt 64 255)).toNat : Nat) : Int) = _
    rw [IntKind.wrap_i64]
    omega
  omega
/-- A byte is drawn. -/
theorem byte_ev {l : List Int} {a : Int} (n : Int) (h0 : 0 ≤ a) (hl : l.length ≤ maxLen) : ∃ v a' n', spec_l01Byte.f l a n = some (v, a', n') ∧ 0 ≤ v ∧ v ≤ 255 ∧ 0 ≤ a' := by
  have hm : maxLen ≤ 9223372036854775807 := by decide
  unfold spec_l01Byte.f
  by_cases h : a < (l.length : Int)
  · rw [if_pos h, if_pos h0]
    exact ⟨_, _, _, rfl, (and255 _).1, (and255 _).2, by rw [w64 (by omega) (by omega)]; omega⟩
  · rw [if_neg h]
    exact ⟨_, _, _, rfl, (and255 _).1, (and255 _).2, h0⟩
/-- A number below another is drawn. -/
theorem below_ev {l : List Int} {a : Int} (n : Int) {m : Int} (h0 : 0 ≤ a) (hl : l.length ≤ maxLen) (hm : 0 < m) : ∃ v a' n', spec_l01Below.f l a n m = some (v, a', n') ∧ 0 ≤ v ∧ v < m ∧ 0 ≤ a' := by
  unfold spec_l01Below.f
  rw [if_neg (by omega)]
  obtain ⟨v1, a1, n1, e1, l1, u1, p1⟩ := byte_ev n h0 hl
  by_cases h : m ≤ 256
  · rw [if_pos h, e1]
    simp only [Option.bind_some, if_neg (show ¬ m = 0 by omega)]
    refine ⟨_, _, _, rfl, ?_, ?_, p1⟩
    · exact Int.tmod_nonneg _ l1
    · exact Int.tmod_lt_of_pos _ hm
  · obtain ⟨v2, a2, n2, e2, l2, u2, p2⟩ := byte_ev n1 p1 hl
    obtain ⟨v3, a3, n3, e3, l3, u3, p3⟩ := byte_ev n2 p2 hl
    obtain ⟨v4, a4, n4, e4, l4, u4, p4⟩ := byte_ev n3 p3 hl
    rw [if_neg h, e1]
    simp only [Option.bind_some, e2, e3, e4, if_neg (show ¬ m = 0 by omega)]
    rw [w64 (x := v1 * 16777216) (by omega) (by omega), w64 (x := v2 * 65536) (by omega) (by omega), w64 (x := v3 * 256) (by omega) (by omega), w64 (x := v1 * 16777216 + v2 * 65536) (by omega) (by omega), w64 (x := v1 * 16777216 + v2 * 65536 + v3 * 256) (by omega) (by omega), w64 (x := v1 * 16777216 + v2 * 65536 + v3 * 256 + v4) (by omega) (by omega)]
    refine ⟨_, _, _, rfl, ?_, ?_, p4⟩
    · exact Int.tmod_nonneg _ (by omega)
    · exact Int.tmod_lt_of_pos _ hm
theorem new_loop {l : List Int} (hl : l.length ≤ maxLen) : ∀ (d i : Nat) (h : Int), i + d = min l.length 4000 → ∃ s, Ev (fun k => spec_l01New.l0 k l h (i : Int)) (l, 0, s)
  | 0, i, h, hi => by
    refine ⟨h, Ev.step (f := fun _ => some (l, 0, h)) (fun k => ?_) (Ev.now _)⟩
    simp only [spec_l01New.l0]
    by_cases h1 : (i : Int) < (l.length : Int)
    · rw [if_pos h1, if_neg (by omega)]
    · rw [if_neg h1]
  | d + 1, i, h, hi => by
    obtain ⟨s, hs⟩ := new_loop hl d (i + 1) (Go.bits .and .i64 (wrap64 ((wrap64 ((wrap64 (h * 131)) + (wrap64 (rd l (i : Int))))) + 7)) 1073741823) (by omega)
    refine ⟨s, Ev.step (fun k => ?_) hs⟩
    simp only [spec_l01New.l0]
    rw [if_pos (by omega), if_pos (by omega), if_pos (by omega), w64 (x := (i : Int) + 1) (by omega) (by omega)]
    rfl
theorem new_ev {l : List Int} (hl : l.length ≤ maxLen) : ∃ s, Ev (fun k => spec_l01New.f k l) (l, 0, s) := by
  unfold spec_l01New.f
  exact new_loop hl (min l.length 4000) 0 _ (by omega)
theorem pick_vals {v : Int} (h0 : 0 ≤ v) (h1 : v < 10) : 0 ≤ rd ([0, 0, 0, 0, 1, 2, 3, 3, 4, 200] : List Int) v ∧ rd ([0, 0, 0, 0, 1, 2, 3, 3, 4, 200] : List Int) v < 256 := by
  have : ∀ j : Fin 10, 0 ≤ rd ([0, 0, 0, 0, 1, 2, 3, 3, 4, 200] : List Int) ((j : Nat) : Int) ∧ rd ([0, 0, 0, 0, 1, 2, 3, 3, 4, 200] : List Int) ((j : Nat) : Int) < 256 := by decide +kernel
  obtain ⟨n, rfl⟩ := Int.eq_ofNat_of_zero_le h0
  exact this ⟨n, by omega⟩
/-- A text is drawn: a few bytes. -/
theorem text_loop {l : List Int} (hl : l.length ≤ maxLen) : ∀ (d i : Nat) (acc : List Int) (a n : Int), i + d = 14 → acc.length = i → 0 ≤ a → Bys acc →
    ∃ t a' n', Ev (fun k => spec_l04Text.l0 k acc (i : Int) l a n) (strOfNums t, a', n') ∧ Bys t ∧ t.length ≤ 20 ∧ 0 ≤ a'
  | d, i, acc, a, n, hi, ha, h0, hb => by
    obtain ⟨v, a1, n1, e1, v0, v1, p1⟩ := below_ev n h0 hl (show (0 : Int) < 14 by decide)
    by_cases hv : (i : Int) < v
    · obtain ⟨d, rfl⟩ : ∃ e, d = e + 1 := ⟨d - 1, by omega⟩
      obtain ⟨w, a2, n2, e2, w0, w1, p2⟩ := below_ev n1 p1 hl (show (0 : Int) < 10 by decide)
      have hw := pick_vals w0 w1
      have ep : spec_l01PickInt.f l a1 n1 ([0, 0, 0, 0, 1, 2, 3, 3, 4, 200] : List Int) = some (rd ([0, 0, 0, 0, 1, 2, 3, 3, 4, 200] : List Int) w, a2, n2) := by
        unfold spec_l01PickInt.f
        rw [show ((([0, 0, 0, 0, 1, 2, 3, 3, 4, 200] : List Int).length : Nat) : Int) = 10 from rfl, e2]
        simp only [Option.bind_some, if_pos w0, if_pos w1]
      obtain ⟨t, a', n', ht, hbt, htl, hp⟩ := text_loop hl d (i + 1) (acc ++ [rd ([0, 0, 0, 0, 1, 2, 3, 3, 4, 200] : List Int) w]) a2 n2 (by omega) (by simp; omega) p2 (Bys.append hb (Bys.cons hw.1 hw.2 Bys.nil))
      refine ⟨t, a', n', Ev.step (fun k => ?_) ht, hbt, htl, hp⟩
      simp only [spec_l04Text.l0]
      rw [e1]
      simp only [Option.bind_some, if_pos hv, ep, if_pos (show acc.length < 140737488355328 by omega)]
      rw [Int.emod_eq_of_lt hw.1 hw.2, w64 (x := (i : Int) + 1) (by omega) (by omega)]
      rfl
    · obtain ⟨w, a2, n2, e2, w0, w1, p2⟩ := below_ev n1 p1 hl (show (0 : Int) < 8 by decide)
      have eo : spec_l01Once.f l a1 n1 8 = some ((w == 0), a2, n2) := by
        unfold spec_l01Once.f
        rw [e2]
        rfl
      cases hw : (w == 0)
      · obtain ⟨u, a3, n3, e3, u0, u1, p3⟩ := below_ev n2 p2 hl (show (0 : Int) < 5 by decide)
        refine ⟨acc ++ [1 + u], a3, n3, Ev.step (f := fun _ => some (strOfNums (acc ++ [1 + u]), a3, n3)) (fun k => ?_) (Ev.now _), Bys.append hb (Bys.cons (by omega) (by omega) Bys.nil), by simp; omega, p3⟩
        simp only [spec_l04Text.l0]
        rw [e1]
        simp only [Option.bind_some, if_neg hv, eo, hw, Bool.false_eq_true, if_false, e3, if_pos (show acc.length < 140737488355328 by omega)]
        rw [w64 (x := 1 + u) (by omega) (by omega), Int.emod_eq_of_lt (by omega) (by omega)]
      · refine ⟨acc, a2, n2, Ev.step (f := fun _ => some (strOfNums acc, a2, n2)) (fun k => ?_) (Ev.now _), hb, by omega, p2⟩
        simp only [spec_l04Text.l0]
        rw [e1]
        simp only [Option.bind_some, if_neg hv, eo, hw, if_true]
  termination_by d => d
theorem text_ev {l : List Int} (hl : l.length ≤ maxLen) {a : Int} (n : Int) (h0 : 0 ≤ a) : ∃ t a' n', Ev (fun k => spec_l04Text.f k l a n) (strOfNums t, a', n') ∧ Bys t ∧ t.length ≤ 20 ∧ 0 ≤ a' := by
  unfold spec_l04Text.f
  exact text_loop hl 14 0 [] a n rfl rfl h0 Bys.nil
/-- A unit, as it is drawn. -/
def IsUnit (u : ByteArray) : Prop := ∃ t : List Int, u = strOfNums (t ++ [97]) ∧ Bys t ∧ t.length ≤ 20
theorem units_loop {l : List Int} (hl : l.length ≤ maxLen) : ∀ (d i : Nat) (acc : List ByteArray) (a n : Int), i + d = 5 → acc.length = i → 0 ≤ a → (∀ u, u ∈ acc → IsUnit u) →
    ∃ us, Ev (fun k => spec_DrawUnits.l0 k acc (i : Int) l a n) us ∧ us.length ≤ 5 ∧ ∀ u, u ∈ us → IsUnit u
  | d, i, acc, a, n, hi, ha, h0, hu => by
    obtain ⟨v, a1, n1, e1, v0, v1, p1⟩ := below_ev n h0 hl (show (0 : Int) < 5 by decide)
    by_cases hv : (i : Int) < v
    · obtain ⟨d, rfl⟩ : ∃ e, d = e + 1 := ⟨d - 1, by omega⟩
      obtain ⟨t, a2, n2, ht, hbt, htl, p2⟩ := text_ev hl n1 p1
      obtain ⟨us, hus, hlen, hgood⟩ := units_loop hl d (i + 1) (acc ++ [strOfNums (t ++ [97])]) a2 n2 (by omega) (by simp; omega) p2 (fun u h => by
        rcases List.mem_append.1 h with h | h
        · exact hu u h
        · exact ⟨t, List.mem_singleton.1 h, hbt, htl⟩)
      refine ⟨us, Ev.step (f := fun k => (spec_l04Text.f k l a1 n1).bind fun b => (if b.1.size + 1 ≤ 9223372036854775807 then (if acc.length < 8796093022208 then (spec_DrawUnits.l0 k (acc ++ [b.1 ++ (⟨#[97]⟩ : ByteArray)]) ((i + 1 : Nat) : Int) l b.2.1 b.2.2) else (none)) else (none))) (fun k => ?_) (Ev.bind ht ?_), hlen, hgood⟩
      · simp only [spec_DrawUnits.l0]
        rw [e1]
        simp only [Option.bind_some, if_pos hv]
        rw [w64 (x := (i : Int) + 1) (by omega) (by omega)]
        rfl
      · simp only [str_size, if_pos (show t.length + 1 ≤ 9223372036854775807 by omega), if_pos (show acc.length < 8796093022208 by omega), show (⟨#[97]⟩ : ByteArray) = strOfNums [97] from rfl, str_append]
        exact hus
    · refine ⟨acc, Ev.step (f := fun _ => some acc) (fun k => ?_) (Ev.now _), by omega, hu⟩
      simp only [spec_DrawUnits.l0]
      rw [e1]
      simp only [Option.bind_some, if_neg hv]
  termination_by d => d
theorem units_ev {l : List Int} (hl : l.length ≤ maxLen) : ∃ us, Ev (fun k => spec_DrawUnits.f k l) us ∧ us.length ≤ 5 ∧ ∀ u, u ∈ us → IsUnit u := by
  obtain ⟨s, hs⟩ := new_ev hl
  obtain ⟨us, h1, h2, h3⟩ := units_loop hl 5 0 [] 0 s rfl rfl (by decide) (fun u h => by cases h)
  refine ⟨us, ?_, h2, h3⟩
  unfold spec_DrawUnits.f
  exact Ev.bind hs h1
/-- A text, escaped, behind z zeros. -/
def esc : Nat → List Int → List Int
  | _, [] => []
  | z, x :: l => if x < 4 ∧ 2 ≤ z then 3 :: x :: esc (if x = 0 then 1 else 0) l else x :: esc (if x = 0 then z + 1 else 0) l
/-- Whether Escaped takes the text. -/
def escOk (l : List Int) : Bool := decide (l ≠ [] ∧ l.length ≤ 60000 ∧ l.getLast? ≠ some 0)
theorem esc_bys : ∀ (l : List Int) (z : Nat), Bys l → Bys (esc z l)
  | [], _, _ => Bys.nil
  | x :: l, z, h => by
    have hx := h x (by simp)
    have hl : Bys l := fun y hy => h y (by simp [hy])
    unfold esc
    split
    · exact Bys.cons (by decide) (by decide) (Bys.cons hx.1 hx.2 (esc_bys l _ hl))
    · exact Bys.cons hx.1 hx.2 (esc_bys l _ hl)
theorem esc_len : ∀ (l : List Int) (z : Nat), l.length ≤ (esc z l).length ∧ (esc z l).length ≤ 2 * l.length
  | [], _ => ⟨Nat.le_refl _, Nat.le_refl _⟩
  | x :: l, z => by
    unfold esc
    split
    · have := esc_len l (if x = 0 then 1 else 0)
      simp only [List.length_cons]
      omega
    · have := esc_len l (if x = 0 then z + 1 else 0)
      simp only [List.length_cons]
      omega
theorem last_get (l : List Int) (h : l ≠ []) : l.getLast? = some (l.getD (l.length - 1) 0) := by
  rw [List.getLast?_eq_getElem?, List.getD_eq_getElem?_getD]
  have : l.length - 1 < l.length := by
    have := List.length_pos_iff.2 h
    omega
  rw [List.getElem?_eq_getElem this]
  rfl
theorem bt_last {l : List Int} (hb : Bys l) (h : l ≠ []) (hl : l.length ≤ 1048576) : bt (strOfNums l) (wrap64 (((strOfNums l).size : Int) - 1)) = l.getD (l.length - 1) 0 := by
  have := List.length_pos_iff.2 h
  rw [str_size, w64 (by omega) (by omega)]
  exact bt_get hb (by omega)
theorem str_toList (l : List Int) : (strOfNums l).toList = l.map fun n => UInt8.ofNat n.toNat := by
  rw [Go.ByteArray.toList_eq, strOfNums_data]
theorem str_toList_nil {l : List Int} : (strOfNums l).toList = ([] : List UInt8) ↔ l = [] := by
  rw [str_toList, List.map_eq_nil_iff]
theorem str_toList_inj {l m : List Int} (hl : Bys l) (hm : Bys m) : (strOfNums l).toList = (strOfNums m).toList ↔ l = m := by
  constructor
  · intro h
    apply str_inj hl hm
    apply ByteArray.ext
    apply Array.ext'
    rw [← Go.ByteArray.toList_eq, ← Go.ByteArray.toList_eq, h]
  · intro h
    rw [h]
/-- What the escaping put in is left out again, behind z zeros. -/
def une : Nat → List Int → List Int
  | _, [] => []
  | z, x :: l => if x = 3 ∧ 2 ≤ z then une 0 l else x :: une (if x = 0 then z + 1 else 0) l
def uneRes (t out : List Int) : ByteArray × Bool := if escOk out = true ∧ esc 0 out = t then (strOfNums out, true) else (strOfNums [], false)
theorem une_bys : ∀ (l : List Int) (z : Nat), Bys l → Bys (une z l)
  | [], _, _ => Bys.nil
  | x :: l, z, h => by
    have hx := h x (by simp)
    have hl : Bys l := fun y hy => h y (by simp [hy])
    unfold une
    split
    · exact une_bys l _ hl
    · exact Bys.cons hx.1 hx.2 (une_bys l _ hl)
theorem une_len : ∀ (l : List Int) (z : Nat), (une z l).length ≤ l.length
  | [], _ => Nat.le_refl _
  | x :: l, z => by
    unfold une
    split
    · have := une_len l 0
      simp only [List.length_cons]
      omega
    · have := une_len l (if x = 0 then z + 1 else 0)
      simp only [List.length_cons]
      omega
theorem impl_esc_loop : ∀ (suf pre acc : List Int) (z : Nat), Bys (pre ++ suf) → (pre ++ suf).length ≤ 60000 → acc.length ≤ 2 * pre.length → z ≤ pre.length →
    Ev (fun k => impl_Escaped.l0 k (strOfNums (pre ++ suf)) acc (z : Int) (pre.length : Int)) (strOfNums (acc ++ esc z suf), true)
  | [], pre, acc, z, hb, hl, ha, hz => by
    refine Ev.step (f := fun _ => some (strOfNums acc, true)) (fun k => ?_) (by simp only [esc, List.append_nil]; exact Ev.now _)
    simp only [impl_Escaped.l0, List.append_nil]
    rw [if_neg (ge_end pre)]
  | x :: suf, pre, acc, z, hb, hl, ha, hz => by
    have hx1 := mid_byte hb
    have hl' : pre.length + (suf.length + 1) ≤ 60000 := by simpa using hl
    have hp : (pre ++ [x]).length = pre.length + 1 := by simp
    have ih := fun (acc' : List Int) (z' : Nat) (h1 : acc'.length ≤ 2 * (pre ++ [x]).length) (h2 : z' ≤ (pre ++ [x]).length) => impl_esc_loop suf (pre ++ [x]) acc' z' (by rw [← snoc_cons]; exact hb) (by rw [← snoc_cons]; exact hl) h1 h2
    simp only [← snoc_cons] at ih
    have hlt := lt_mid pre suf x
    have hnext := next_len pre x (by omega)
    by_cases hc : x < 4 ∧ 2 ≤ z
    · have e : acc ++ esc z (x :: suf) = (acc ++ [3] ++ [x]) ++ esc (if x = 0 then 1 else 0) suf := by
        rw [esc, if_pos hc]
        simp
      rw [e]
      refine Ev.step (f := fun k => impl_Escaped.j2 k (strOfNums (pre ++ x :: suf)) acc (z : Int) (pre.length : Int) true) (fun k => ?_) ?_
      · simp only [impl_Escaped.l0]
        rw [if_pos hlt, if_pos (by omega), bt_mid hb, if_pos hc.1, decide_eq_true (by omega)]
      · by_cases h0 : x = 0
        · have := ih (acc ++ [3] ++ [x]) 1 (by simp; omega) (by omega)
          rw [if_pos h0]
          refine Ev.step (fun k => ?_) this
          simp only [impl_Escaped.j2, if_true]
          rw [if_pos (by omega)]
          try simp only [Option.bind_some]
          rw [if_pos (by omega), if_pos hlt, if_pos (by simp; omega)]
          try simp only [Option.bind_some]
          rw [bt_mid hb, if_pos h0, hnext]
          rfl
        · have := ih (acc ++ [3] ++ [x]) 0 (by simp; omega) (by omega)
          rw [if_neg h0]
          refine Ev.step (fun k => ?_) this
          simp only [impl_Escaped.j2, if_true]
          rw [if_pos (by omega)]
          try simp only [Option.bind_some]
          rw [if_pos (by omega), if_pos hlt, if_pos (by simp; omega)]
          try simp only [Option.bind_some]
          rw [bt_mid hb, if_neg h0, hnext]
          rfl
    · have e : acc ++ esc z (x :: suf) = (acc ++ [x]) ++ esc (if x = 0 then z + 1 else 0) suf := by
        rw [esc, if_neg hc]
        simp
      rw [e]
      refine Ev.step (f := fun k => impl_Escaped.j2 k (strOfNums (pre ++ x :: suf)) acc (z : Int) (pre.length : Int) false) (fun k => ?_) ?_
      · simp only [impl_Escaped.l0]
        rw [if_pos hlt, if_pos (by omega), bt_mid hb]
        by_cases h4 : x < 4
        · rw [if_pos h4, decide_eq_false (by omega)]
        · rw [if_neg h4]
      · by_cases h0 : x = 0
        · have := ih (acc ++ [x]) (z + 1) (by simp; omega) (by omega)
          rw [if_pos h0]
          refine Ev.step (fun k => ?_) this
          simp only [impl_Escaped.j2, Bool.false_eq_true, if_false]
          rw [if_pos (by omega), if_pos hlt, if_pos (by omega)]
          try simp only [Option.bind_some]
          rw [bt_mid hb, if_pos h0, hnext, w64 (x := (z : Int) + 1) (by omega) (by omega)]
          rfl
        · have := ih (acc ++ [x]) 0 (by simp; omega) (by omega)
          rw [if_neg h0]
          refine Ev.step (fun k => ?_) this
          simp only [impl_Escaped.j2, Bool.false_eq_true, if_false]
          rw [if_pos (by omega), if_pos hlt, if_pos (by omega)]
          try simp only [Option.bind_some]
          rw [bt_mid hb, if_neg h0, hnext]
          rfl
theorem impl_esc_yes {l : List Int} (hb : Bys l) (h : escOk l = true) : Ev (fun k => impl_Escaped.f k (strOfNums l)) (strOfNums (esc 0 l), true) := by
  have h' : l ≠ [] ∧ l.length ≤ 60000 ∧ l.getLast? ≠ some 0 := of_decide_eq_true h
  obtain ⟨h1, h2, h3⟩ := h'
  have hpos := List.length_pos_iff.2 h1
  have hlast := bt_last hb h1 (by omega)
  have hne : l.getD (l.length - 1) 0 ≠ 0 := by
    intro e
    rw [last_get l h1, e] at h3
    exact h3 rfl
  have hl := impl_esc_loop l [] [] 0 hb h2 (Nat.zero_le _) (Nat.zero_le _)
  simp only [List.nil_append] at hl
  have hj : Ev (fun k => impl_Escaped.j0 k (strOfNums l) false) (strOfNums (esc 0 l), true) := by
    refine Ev.step (fun k => ?_) hl
    simp only [impl_Escaped.j0, Bool.false_eq_true, if_false]
    rw [str_size, w64 (x := (l.length : Int) / 2) (by omega) (by omega), w64 (by omega) (by omega), if_pos (by omega), if_pos (by omega)]
    rfl
  refine Ev.congr (fun k => ?_) hj
  unfold impl_Escaped.f
  rw [if_neg (fun e => h1 (str_toList_nil.1 e)), if_neg (by rw [str_size]; omega), hlast]
  have hw : wrap64 (((strOfNums l).size : Int) - 1) = (l.length : Int) - 1 := by rw [str_size, w64 (by omega) (by omega)]
  rw [hw, if_pos (by omega), if_pos (by rw [str_size]; omega), beq_eq_false_iff_ne.2 hne]
theorem impl_esc_no {l : List Int} (hb : Bys l) (hl : l.length ≤ 1048576) (h : escOk l = false) : Ev (fun k => impl_Escaped.f k (strOfNums l)) (strOfNums [], false) := by
  have h' : ¬ (l ≠ [] ∧ l.length ≤ 60000 ∧ l.getLast? ≠ some 0) := of_decide_eq_false h
  have hj : Ev (fun k => impl_Escaped.j0 k (strOfNums l) true) (strOfNums [], false) := by
    refine Ev.step (f := fun _ => some (strOfNums [], false)) (fun k => ?_) (Ev.now _)
    simp only [impl_Escaped.j0, if_true]
    rfl
  refine Ev.congr (fun k => ?_) hj
  unfold impl_Escaped.f
  by_cases h1 : l = []
  · rw [if_pos (str_toList_nil.2 h1)]
  · rw [if_neg (fun e => h1 (str_toList_nil.1 e))]
    have hpos := List.length_pos_iff.2 h1
    by_cases h2 : ((strOfNums l).size : Int) > 60000
    · rw [if_pos h2]
    · rw [if_neg h2]
      rw [str_size] at h2
      have hlast := bt_last hb h1 (by omega)
      have he : l.getD (l.length - 1) 0 = 0 := by
        have := last_get l h1
        by_cases e : l.getD (l.length - 1) 0 = 0
        · exact e
        · exact absurd ⟨h1, by omega, by rw [this]; intro e2; exact e (Option.some.inj e2)⟩ h'
      rw [hlast, he]
      have hw : wrap64 (((strOfNums l).size : Int) - 1) = (l.length : Int) - 1 := by rw [str_size, w64 (by omega) (by omega)]
      rw [hw, if_pos (by omega), if_pos (by rw [str_size]; omega)]
      rfl
theorem impl_une_loop : ∀ (suf pre acc : List Int) (z : Nat), Bys (pre ++ suf) → (pre ++ suf).length ≤ 1048576 → Bys acc → acc.length ≤ pre.length → z ≤ pre.length →
    Ev (fun k => impl_Unescaped.l0 k (strOfNums (pre ++ suf)) acc (z : Int) (pre.length : Int)) (uneRes (pre ++ suf) (acc ++ une z suf))
  | [], pre, acc, z, hb, hl, hba, ha, hz => by
    rw [List.append_nil] at hb hl ⊢
    simp only [une, List.append_nil]
    unfold uneRes
    have hstep : ∀ k, impl_Unescaped.l0 (k + 1) (strOfNums pre) acc (z : Int) (pre.length : Int) = ((impl_Escaped.f k (strOfNums acc)).bind fun b => (if b.2 = true then (if b.1.toList = (strOfNums pre).toList then (some (strOfNums acc, true)) else (some ((⟨#[]⟩ : ByteArray), false))) else (some ((⟨#[]⟩ : ByteArray), false)))) := fun k => by
      simp only [impl_Unescaped.l0]
      rw [if_neg (ge_end pre)]
    refine Ev.step hstep ?_
    cases h : escOk acc
    · refine Ev.bind (impl_esc_no hba (by omega) h) ?_
      simp only [Bool.false_eq_true, if_false, false_and]
      exact Ev.now _
    · refine Ev.bind (impl_esc_yes hba h) ?_
      simp only [if_true, true_and, str_toList_inj (esc_bys acc 0 hba) hb]
      by_cases he : esc 0 acc = pre
      · simp only [if_pos he]
        exact Ev.now _
      · simp only [if_neg he]
        exact Ev.now _
  | x :: suf, pre, acc, z, hb, hl, hba, ha, hz => by
    have hx1 := mid_byte hb
    have hl' : pre.length + (suf.length + 1) ≤ 1048576 := by simpa using hl
    have hp : (pre ++ [x]).length = pre.length + 1 := by simp
    have ih := fun (acc' : List Int) (z' : Nat) (h0 : Bys acc') (h1 : acc'.length ≤ (pre ++ [x]).length) (h2 : z' ≤ (pre ++ [x]).length) => impl_une_loop suf (pre ++ [x]) acc' z' (by rw [← snoc_cons]; exact hb) (by rw [← snoc_cons]; exact hl) h0 h1 h2
    simp only [← snoc_cons] at ih
    have hlt := lt_mid pre suf x
    have hnext := next_len pre x (by omega)
    by_cases hc : x = 3 ∧ 2 ≤ z
    · have e : acc ++ une z (x :: suf) = acc ++ une 0 suf := by rw [une, if_pos hc]
      rw [e]
      refine Ev.step (f := fun k => impl_Unescaped.j1 k (strOfNums (pre ++ x :: suf)) acc (z : Int) (pre.length : Int) true) (fun k => ?_) ?_
      · simp only [impl_Unescaped.l0]
        rw [if_pos hlt, if_pos (by omega), if_pos (by omega), bt_mid hb, hc.1]
        rfl
      · refine Ev.step (fun k => ?_) (ih acc 0 hba (by omega) (by omega))
        simp only [impl_Unescaped.j1, if_true]
        rw [hnext]
        rfl
    · have e : acc ++ une z (x :: suf) = (acc ++ [x]) ++ une (if x = 0 then z + 1 else 0) suf := by
        rw [une, if_neg hc]
        simp
      rw [e]
      refine Ev.step (f := fun k => impl_Unescaped.j1 k (strOfNums (pre ++ x :: suf)) acc (z : Int) (pre.length : Int) false) (fun k => ?_) ?_
      · simp only [impl_Unescaped.l0]
        rw [if_pos hlt]
        by_cases h2 : 2 ≤ z
        · rw [if_pos (by omega), if_pos (by omega), bt_mid hb, beq_eq_false_iff_ne.2 (fun h3 => hc ⟨h3, h2⟩)]
        · rw [if_neg (by omega)]
      · have hba' : Bys (acc ++ [x]) := Bys.append hba (Bys.cons hx1.1 hx1.2 Bys.nil)
        by_cases h0 : x = 0
        · have := ih (acc ++ [x]) (z + 1) hba' (by simp; omega) (by omega)
          rw [if_pos h0]
          refine Ev.step (fun k => ?_) this
          simp only [impl_Unescaped.j1, Bool.false_eq_true, if_false]
          rw [if_pos (by omega), if_pos hlt, bt_mid hb, if_pos h0, if_pos (by omega), hnext, w64 (x := (z : Int) + 1) (by omega) (by omega)]
          rfl
        · have := ih (acc ++ [x]) 0 hba' (by simp; omega) (by omega)
          rw [if_neg h0]
          refine Ev.step (fun k => ?_) this
          simp only [impl_Unescaped.j1, Bool.false_eq_true, if_false]
          rw [if_pos (by omega), if_pos hlt, bt_mid hb, if_neg h0, if_pos (by omega), hnext]
          rfl
theorem impl_une_ev {l : List Int} (hb : Bys l) (hl : l.length ≤ 1048576) : Ev (fun k => impl_Unescaped.f k (strOfNums l)) (uneRes l (une 0 l)) := by
  have h := impl_une_loop l [] [] 0 hb hl Bys.nil (Nat.zero_le _) (Nat.zero_le _)
  simp only [List.nil_append] at h
  refine Ev.congr (fun k => ?_) h
  unfold impl_Unescaped.f
  rw [if_pos (by omega), if_pos (by rw [str_size]; omega)]
  rfl
theorem une_esc : ∀ (l : List Int) (z : Nat), une z (esc z l) = l
  | [], _ => rfl
  | x :: l, z => by
    unfold esc
    by_cases h : x < 4 ∧ 2 ≤ z
    · rw [if_pos h, une, if_pos ⟨rfl, h.2⟩, une, if_neg (by omega), une_esc l]
    · rw [if_neg h, une, if_neg (by omega), une_esc l]
/-- No start in a text, behind z zeros. -/
def chk : Nat → List Int → Bool
  | _, [] => true
  | z, x :: l => !(decide (x < 3) && decide (2 ≤ z)) && chk (if x = 0 then z + 1 else 0) l
theorem chk_esc : ∀ (l : List Int) (z : Nat), chk z (esc z l) = true
  | [], _ => rfl
  | x :: l, z => by
    unfold esc
    by_cases h : x < 4 ∧ 2 ≤ z
    · rw [if_pos h, chk, chk]
      simp only [if_neg (show ¬ (3 : Int) = 0 by decide), Nat.zero_add]
      rw [chk_esc l]
      simp
    · rw [if_neg h, chk, chk_esc l]
      by_cases h3 : x < 3
      · rw [decide_eq_false (show ¬ 2 ≤ z by omega)]
        simp
      · rw [decide_eq_false h3]
        simp
/-- How many zeros a text ends with. -/
def zr : Nat → List Int → Nat
  | z, [] => z
  | z, x :: l => zr (if x = 0 then z + 1 else 0) l
theorem zr_snoc : ∀ (l : List Int) (z : Nat) (x : Int), zr z (l ++ [x]) = if x = 0 then zr z l + 1 else 0
  | [], _, _ => rfl
  | y :: l, z, x => by rw [List.cons_append, zr, zr_snoc l, zr]
theorem zr_two (p : List Int) (a b : Int) : 2 ≤ zr 0 (p ++ [a] ++ [b]) ↔ (b = 0 ∧ a = 0) := by
  rw [zr_snoc, zr_snoc]
  by_cases hb : b = 0
  · rw [if_pos hb]
    by_cases ha : a = 0
    · rw [if_pos ha]
      exact ⟨fun _ => ⟨hb, ha⟩, fun _ => by omega⟩
    · rw [if_neg ha]
      exact ⟨fun h => by omega, fun h => absurd h.2 ha⟩
  · rw [if_neg hb]
    exact ⟨fun h => by omega, fun h => absurd h.1 hb⟩
theorem scan_starts {U : List ByteArray} {i : Int} {R : Bool} : ∀ (suf p : List Int) (a b : Int), Bys (p ++ [a] ++ [b] ++ suf) → (p ++ [a] ++ [b] ++ suf).length ≤ 100000 → chk (zr 0 (p ++ [a] ++ [b])) suf = true → Ev (fun k => laws_FnNoStart.l0 k U (wrap64 (i + 1))) R → Ev (fun k => laws_FnNoStart.l1 k U i (strOfNums (p ++ [a] ++ [b] ++ suf)) ((p ++ [a] ++ [b]).length : Int)) R
  | [], p, a, b, hb, hl, hc, h => by
    rw [List.append_nil] at hb hl ⊢
    refine Ev.step (fun k => ?_) h
    simp only [laws_FnNoStart.l1]
    rw [if_neg (ge_end _)]
  | x :: suf, p, a, b, hb, hl, hc, h => by
    have e : p ++ [a] ++ [b] ++ x :: suf = (p ++ [a]) ++ [b] ++ [x] ++ suf := by simp
    have ih := scan_starts suf (p ++ [a]) b x (by rw [← e]; exact hb) (by rw [← e]; exact hl) (by
      rw [chk, Bool.and_eq_true] at hc
      rw [zr_snoc (p ++ [a] ++ [b])]
      exact hc.2) h
    rw [← e] at ih
    have hlp : (p ++ [a] ++ [b]).length = p.length + 2 := by simp
    have hll : (p ++ [a] ++ [b] ++ x :: suf).length = p.length + 2 + (suf.length + 1) := by simp; omega
    have g0 : bt (strOfNums (p ++ [a] ++ [b] ++ x :: suf)) ((p ++ [a] ++ [b]).length : Int) = x := bt_mid hb
    have g1 : bt (strOfNums (p ++ [a] ++ [b] ++ x :: suf)) (((p ++ [a] ++ [b]).length : Int) - 1) = b := by
      have e1 : p ++ [a] ++ [b] ++ x :: suf = (p ++ [a]) ++ b :: (x :: suf) := by simp
      rw [e1] at hb ⊢
      rw [show ((p ++ [a] ++ [b]).length : Int) - 1 = ((p ++ [a]).length : Int) by simp; omega]
      exact bt_mid hb
    have g2 : bt (strOfNums (p ++ [a] ++ [b] ++ x :: suf)) (((p ++ [a] ++ [b]).length : Int) - 2) = a := by
      have e1 : p ++ [a] ++ [b] ++ x :: suf = p ++ a :: (b :: x :: suf) := by simp
      rw [e1] at hb ⊢
      rw [show ((p ++ [a] ++ [b]).length : Int) - 2 = (p.length : Int) by simp]
      exact bt_mid hb
    rw [chk, Bool.and_eq_true] at hc
    have hno : x < 3 → b = 0 → a = 0 → False := by
      intro h1 h2 h3
      have h4 := (zr_two p a b).2 ⟨h2, h3⟩
      have h5 := hc.1
      rw [decide_eq_true h1, decide_eq_true h4] at h5
      exact absurd h5 (by decide)
    refine Ev.step (fun k => ?_) ih
    simp only [laws_FnNoStart.l1, str_size, g0, w64 (x := ((p ++ [a] ++ [b]).length : Int) - 1) (by omega) (by omega), w64 (x := ((p ++ [a] ++ [b]).length : Int) - 2) (by omega) (by omega), w64 (x := ((p ++ [a] ++ [b]).length : Int) + 1) (by omega) (by omega), g1, g2]
    rw [show (((p ++ [a] ++ [b] ++ [x]).length : Nat) : Int) = ((p ++ [a] ++ [b]).length : Int) + 1 by simp; omega]
    rw [if_pos (by omega), if_pos (by omega)]
    by_cases h3 : x < 3
    · rw [if_pos h3, if_pos (by omega), if_pos (by omega)]
      by_cases h0 : b = 0
      · rw [if_pos h0, if_pos (by omega), if_pos (by omega), if_neg (fun h4 => hno h3 h0 h4)]
      · rw [if_neg h0]
    · rw [if_neg h3]
theorem esc_last (t : List Int) : ∀ (z : Nat), ∃ m, esc z (t ++ [97]) = m ++ [97] := by
  induction t with
  | nil => intro z; exact ⟨[], by rw [List.nil_append, esc, if_neg (by omega)]; rfl⟩
  | cons x t ih =>
    intro z
    rw [List.cons_append, esc]
    split
    · obtain ⟨m, hm⟩ := ih (if x = 0 then 1 else 0)
      exact ⟨3 :: x :: m, by rw [hm]; rfl⟩
    · obtain ⟨m, hm⟩ := ih (if x = 0 then z + 1 else 0)
      exact ⟨x :: m, by rw [hm]; rfl⟩
theorem unit_ok {t : List Int} (h : t.length ≤ 20) : escOk (t ++ [97]) = true := by
  unfold escOk
  refine decide_eq_true ⟨by simp, by simp; omega, by simp⟩
theorem unit_step {U : List ByteArray} {i : Nat} {R : Bool} (hi : i < U.length) (hU : U.length ≤ 5) (hu : IsUnit (rdOf ByteArray.empty U (i : Int))) (h : Ev (fun k => laws_FnNoStart.l0 k U ((i + 1 : Nat) : Int)) R) : Ev (fun k => laws_FnNoStart.l0 k U (i : Int)) R := by
  obtain ⟨t, e, hb, hl⟩ := hu
  have hbt : Bys (t ++ [97]) := Bys.append hb (Bys.cons (by decide) (by decide) Bys.nil)
  have hlen := esc_len (t ++ [97]) 0
  have hl2 : (t ++ [97]).length = t.length + 1 := by simp
  have heb := esc_bys (t ++ [97]) 0 hbt
  obtain ⟨m, hm⟩ := esc_last t 0
  have hne : esc 0 (t ++ [97]) ≠ [] := by rw [hm]; simp
  have s1 := impl_esc_yes hbt (unit_ok hl)
  have s2 := impl_une_ev heb (by omega)
  unfold uneRes at s2
  rw [une_esc, if_pos ⟨unit_ok hl, rfl⟩] at s2
  have hw : wrap64 ((i : Int) + 1) = ((i + 1 : Nat) : Int) := by rw [w64 (by omega) (by omega)]; rfl
  refine Ev.step (f := fun k => (impl_Escaped.f k (strOfNums (t ++ [97]))).bind fun b1 => ((impl_Unescaped.f k b1.1).bind fun b2 => (if b1.2 = true then (if b2.2 = true then (if b2.1.toList = (strOfNums (t ++ [97])).toList then (if (b1.1.size : Int) < (b2.1.size : Int) then (laws_FnNoStart.j1 k U (i : Int) b1.1 true) else (if 0 ≤ (wrap64 ((b1.1.size : Int) - 1)) then (if (wrap64 ((b1.1.size : Int) - 1)) < (b1.1.size : Int) then (laws_FnNoStart.j1 k U (i : Int) b1.1 ((bt b1.1 (wrap64 ((b1.1.size : Int) - 1))) == 0)) else (none)) else (none))) else (laws_FnNoStart.j1 k U (i : Int) b1.1 true)) else (laws_FnNoStart.j1 k U (i : Int) b1.1 true)) else (laws_FnNoStart.j1 k U (i : Int) b1.1 true)))) (fun k => ?_) ?_
  · simp only [laws_FnNoStart.l0]
    rw [if_pos (by omega), if_pos (by omega), e]
  · refine Ev.bind s1 (Ev.bind s2 ?_)
    simp only [if_true]
    have hbl := bt_last heb hne (by omega)
    have hlast : (esc 0 (t ++ [97])).getD ((esc 0 (t ++ [97])).length - 1) 0 = 97 := by
      rw [hm]
      simp
    rw [hbl, hlast]
    simp only [str_size, if_neg (show ¬ ((esc 0 (t ++ [97])).length : Int) < ((t ++ [97]).length : Int) by omega), w64 (x := ((esc 0 (t ++ [97])).length : Int) - 1) (by omega) (by omega), if_pos (show (0 : Int) ≤ ((esc 0 (t ++ [97])).length : Int) - 1 by omega), if_pos (show ((esc 0 (t ++ [97])).length : Int) - 1 < ((esc 0 (t ++ [97])).length : Int) by omega)]
    have hgo : Ev (fun k => laws_FnNoStart.l1 k U (i : Int) (strOfNums (esc 0 (t ++ [97]))) 2) R := by
      have hc := chk_esc (t ++ [97]) 0
      generalize esc 0 (t ++ [97]) = E at hc heb hlen
      match E, hc, heb, hlen with
      | [], _, _, hlen => simp at hlen
      | [a], _, _, _ =>
        refine Ev.step (fun k => ?_) h
        simp only [laws_FnNoStart.l1, str_size, List.length_singleton]
        rw [if_neg (by decide), hw]
      | a :: b :: suf, hc, heb, hlen =>
        rw [← hw] at h
        rw [chk, chk, Bool.and_eq_true, Bool.and_eq_true] at hc
        refine scan_starts (U := U) (i := (i : Int)) suf [] a b heb (by rw [hl2] at hlen; exact Nat.le_trans hlen.2 (by omega)) ?_ h
        rw [zr_snoc, zr_snoc]
        exact hc.2.2
    refine Ev.step (fun k => ?_) hgo
    simp only [laws_FnNoStart.j1, show ((97 : Int) == 0) = false from rfl, Bool.false_eq_true, if_false]
theorem units_all {U : List ByteArray} (hU : U.length ≤ 5) (hu : ∀ u, u ∈ U → IsUnit u) : ∀ (d i : Nat), i + d = U.length → Ev (fun k => laws_FnNoStart.l0 k U (i : Int)) true
  | 0, i, hi => by
    have h3 : escOk [0, 0, 1] = true := by decide
    have hb : Bys [0, 0, 1] := Bys.cons (by decide) (by decide) (Bys.cons (by decide) (by decide) (Bys.cons (by decide) (by decide) Bys.nil))
    refine Ev.step (f := fun k => (impl_Escaped.f k (strOfNums [0, 0, 1])).bind fun b => (if b.2 = true then (some (b.1.toList == ([0, 0, 3, 1] : List UInt8))) else (some false))) (fun k => ?_) (Ev.bind (impl_esc_yes hb h3) ?_)
    · simp only [laws_FnNoStart.l0]
      rw [if_neg (by omega)]
      rfl
    · simp only [if_true, str_toList]
      exact Ev.now _
  | d + 1, i, hi => by
    refine unit_step (by omega) hU (hu _ ?_) (units_all hU hu d (i + 1) (by omega))
    unfold rdOf
    rw [Int.toNat_natCast, List.getD_eq_getElem?_getD, List.getElem?_eq_getElem (show i < U.length by omega)]
    exact List.getElem_mem _
theorem FnNoStart : laws_FnNoStart.Pure := by
  intro l hl _ _
  refine Ev.rounds ?_
  unfold laws_FnNoStart.f laws_big.f
  simp only [Option.bind_some]
  by_cases hbig : (l.length : Int) > 1048576
  · rw [decide_eq_true hbig]
    exact Ev.now _
  · rw [decide_eq_false hbig]
    simp only [Bool.false_eq_true, if_false]
    obtain ⟨us, h1, h2, h3⟩ := units_ev hl
    exact Ev.bind h1 (units_all h2 h3 us.length 0 (by omega))

end Go.Proofs.Ytaohobbpbcecbaa.Pure
