/- Drawn units come back from their frame, also behind two bytes; without one of them the frame is shorter and the others come back. -/
import Derived.Test.YtjcpapjochlndaaQFnUnitsx6
set_option linter.unusedVariables false
set_option linter.unusedSimpArgs false
namespace Go.Proofs.Ytjcpapjochlndaa.Pure
open Go.RowKit Go.Proofs.Ytjcpapjochlndaa.QFnUnits Go.Proofs.YtjcpapjochlndaaW.PrintWords Go.Proofs.YtjcpapjochlndaaW.PrintLast Go.Proofs.YtjcpapjochlndaaW.PrintMore

/-! ### Bytes as lists of numbers, and some plain facts -/
theorem w64 {x : Int} (h0 : -9223372036854775808 ≤ x) (h1 : x ≤ 9223372036854775807) : wrap64 x = x := by
  unfold wrap64
  omega
theorem i64_bounds {x : Int} (h : (Lit.int .i64 x).wf = true) : -9223372036854775808 ≤ x ∧ x ≤ 9223372036854775807 := by
  have e := h
  simp [Lit.wf, IntKind.min, IntKind.max, IntKind.signed, IntKind.bits] at e
  omega
/-- All numbers of the list are bytes. -/
def Bys (l : List Int) : Prop := ∀ x, x ∈ l → 0 ≤ x ∧ x < 256
theorem Bys.nil : Bys [] := fun _ h => by cases h
theorem Bys.cons {x : Int} {l : List Int} (h0 : 0 ≤ x) (h1 : x < 256) (h : Bys l) : Bys (x :: l) := fun y hy => by
  rcases List.mem_cons.1 hy with rfl | hy
  · exact ⟨h0, h1⟩
  · exact h y hy
theorem Bys.append {l m : List Int} (h : Bys l) (h' : Bys m) : Bys (l ++ m) := fun y hy => by
  rcases List.mem_append.1 hy with hy | hy
  · exact h y hy
  · exact h' y hy
theorem Bys.left {l m : List Int} (h : Bys (l ++ m)) : Bys l := fun y hy => h y (List.mem_append_left _ hy)
theorem Bys.right {l m : List Int} (h : Bys (l ++ m)) : Bys m := fun y hy => h y (List.mem_append_right _ hy)
theorem Bys.take {l : List Int} (h : Bys l) (n : Nat) : Bys (l.take n) := fun y hy => h y (List.mem_of_mem_take hy)
theorem Bys.drop {l : List Int} (h : Bys l) (n : Nat) : Bys (l.drop n) := fun y hy => h y (List.mem_of_mem_drop hy)
theorem Bys.getD {l : List Int} (h : Bys l) (i : Nat) : 0 ≤ l.getD i 0 ∧ l.getD i 0 < 256 := by
  rw [List.getD_eq_getElem?_getD]
  by_cases hi : i < l.length
  · rw [List.getElem?_eq_getElem hi]
    exact h _ (List.getElem_mem hi)
  · rw [List.getElem?_eq_none (by omega)]
    exact ⟨by decide, by decide⟩
theorem nums_of (a : ByteArray) : ∃ l, Bys l ∧ a = strOfNums l := by
  refine ⟨a.data.toList.map fun u => (u.toNat : Int), ?_, ?_⟩
  · intro x hx
    obtain ⟨u, _, rfl⟩ := List.mem_map.1 hx
    have := u.toNat_lt
    omega
  · unfold strOfNums
    rw [List.map_map]
    have e : ((fun n : Int => UInt8.ofNat n.toNat) ∘ fun u : UInt8 => (u.toNat : Int)) = id := by
      funext u
      simp
    rw [e, List.map_id]
theorem str_size (l : List Int) : (strOfNums l).size = l.length := strOfNums_size l
theorem bt_str {l : List Int} (h : Bys l) (i : Int) : bt (strOfNums l) i = l.getD i.toNat 0 := by
  unfold bt
  rw [List.getD_eq_getElem?_getD]
  split
  · rename_i hi
    have hi' : i.toNat < l.length := by rw [← str_size]; exact hi
    rw [List.getElem?_eq_getElem hi']
    have hb := h _ (List.getElem_mem hi')
    have e : (strOfNums l)[i.toNat]'hi = UInt8.ofNat (l[i.toNat]).toNat := by
      simp [strOfNums, ByteArray.getElem_eq_getElem_data]
    rw [e, UInt8.toNat_ofNat']
    simp only [Option.getD_some]
    omega
  · rename_i hi
    rw [List.getElem?_eq_none (by rw [← str_size]; omega)]
    rfl
theorem bt_get {l : List Int} (h : Bys l) {i : Int} {n : Nat} (hi : i = (n : Int)) : bt (strOfNums l) i = l.getD n 0 := by
  rw [bt_str h, hi, Int.toNat_natCast]
theorem str_append (l m : List Int) : strOfNums l ++ strOfNums m = strOfNums (l ++ m) := by
  apply ByteArray.ext
  rw [ByteArray.data_append]
  unfold strOfNums
  simp
theorem str_empty : (⟨#[]⟩ : ByteArray) = strOfNums [] := rfl
theorem str_inj {l m : List Int} (hl : Bys l) (hm : Bys m) (h : strOfNums l = strOfNums m) : l = m := by
  have hs : l.length = m.length := by rw [← str_size l, ← str_size m, h]
  apply List.ext_getElem hs
  intro i h1 h2
  have e1 := bt_get hl (i := (i : Int)) rfl
  have e2 := bt_get hm (i := (i : Int)) rfl
  rw [h, e2] at e1
  simp [List.getD_eq_getElem?_getD, h1, h2] at e1
  exact e1.symm
theorem str_extract (l : List Int) (i j : Nat) : (strOfNums l).extract i j = strOfNums ((l.take j).drop i) := by
  apply ByteArray.ext
  rw [ByteArray.data_extract]
  unfold strOfNums
  apply Array.ext'
  simp [List.extract_eq_take_drop, List.drop_take, List.map_drop, List.map_take]
theorem getD_mid (pre suf : List Int) (x : Int) : (pre ++ x :: suf).getD pre.length 0 = x := by
  rw [List.getD_eq_getElem?_getD, List.getElem?_append_right (Nat.le_refl _)]
  simp
theorem bt_mid {pre suf : List Int} {x : Int} (h : Bys (pre ++ x :: suf)) : bt (strOfNums (pre ++ x :: suf)) (pre.length : Int) = x := by
  rw [bt_get h rfl, getD_mid]
theorem rd_mid (pre suf : List Int) (x : Int) : rd (pre ++ x :: suf) (pre.length : Int) = x := by
  unfold rd
  rw [Int.toNat_natCast, getD_mid]
theorem snoc_cons (pre suf : List Int) (x : Int) : pre ++ x :: suf = (pre ++ [x]) ++ suf := by simp
theorem next_len (pre : List Int) (x : Int) (h : pre.length < 4611686018427387904) : wrap64 ((pre.length : Int) + 1) = ((pre ++ [x]).length : Int) := by
  rw [w64 (by omega) (by omega)]
  simp
theorem lt_mid (pre suf : List Int) (x : Int) : (pre.length : Int) < ((strOfNums (pre ++ x :: suf)).size : Int) := by
  rw [str_size]
  simp
  omega
theorem ge_end (pre : List Int) : ¬ ((pre.length : Int) < ((strOfNums pre).size : Int)) := by
  rw [str_size]
  omega
theorem mid_byte {pre suf : List Int} {x : Int} (h : Bys (pre ++ x :: suf)) : 0 ≤ x ∧ x < 256 := h x (by simp)
theorem exact_sb {g h : Nat → Option (ByteArray × Bool)} {v : ByteArray × Bool} (hg : Ev g v) (hh : Ev h v) :
    Ev (fun k => (g k).bind fun b1 => (h k).bind fun b2 => if b2.1.toList = b1.1.toList then (if (b2.2 != b1.2) = true then some false else some true) else some false) true := by
  refine Ev.bind hg (Ev.bind hh ?_)
  simp only [if_true, bne_self_eq_false, Bool.false_eq_true, if_false]
  exact Ev.now _
theorem exact_i {g h : Nat → Option Int} {v : Int} (hg : Ev g v) (hh : Ev h v) :
    Ev (fun k => (g k).bind fun b1 => (h k).bind fun b2 => if b2 = b1 then some true else some false) true := by
  refine Ev.bind hg (Ev.bind hh ?_)
  simp only [if_true]
  exact Ev.now _
theorem exact_s {g h : Nat → Option ByteArray} {v : ByteArray} (hg : Ev g v) (hh : Ev h v) :
    Ev (fun k => (g k).bind fun b1 => (h k).bind fun b2 => if b2.toList = b1.toList then some true else some false) true := by
  refine Ev.bind hg (Ev.bind hh ?_)
  simp only [if_true]
  exact Ev.now _
theorem exact_ib {g h : Nat → Option (Int × Bool)} {v : Int × Bool} (hg : Ev g v) (hh : Ev h v) :
    Ev (fun k => (g k).bind fun b1 => (h k).bind fun b2 => if b2.1 = b1.1 then (if (b2.2 != b1.2) = true then some false else some true) else some false) true := by
  refine Ev.bind hg (Ev.bind hh ?_)
  simp only [if_true, bne_self_eq_false, Bool.false_eq_true, if_false]
  exact Ev.now _
theorem exact_iib {g h : Nat → Option (Int × Int × Bool)} {v : Int × Int × Bool} (hg : Ev g v) (hh : Ev h v) :
    Ev (fun k => (g k).bind fun b1 => (h k).bind fun b2 => if b2.1 = b1.1 then (if b2.2.1 = b1.2.1 then (if (b2.2.2 != b1.2.2) = true then some false else some true) else some false) else some false) true := by
  refine Ev.bind hg (Ev.bind hh ?_)
  simp only [if_true, bne_self_eq_false, Bool.false_eq_true, if_false]
  exact Ev.now _
theorem exact_b {g h : Nat → Option Bool} {v : Bool} (hg : Ev g v) (hh : Ev h v) :
    Ev (fun k => (g k).bind fun b1 => (h k).bind fun b2 => if (b2 != b1) = true then some false else some true) true := by
  refine Ev.bind hg (Ev.bind hh ?_)
  simp only [bne_self_eq_false, Bool.false_eq_true, if_false]
  exact Ev.now _
theorem ev_now {α : Type} {g : Nat → Option α} {v : α} (h : ∀ k, g k = some v) : Ev g v := Ev.congr h (Ev.now v)
theorem and255 (x : Int) : 0 ≤ Go.bits .and .i64 x 255 ∧ Go.bits .and .i64 x 255 ≤ 255 := by
  have h : ((BitVec.ofInt 64 x) &&& (BitVec.ofInt 64 255)).toNat ≤ 255 := by
    rw [BitVec.toNat_and]
    exact Nat.le_trans Nat.and_le_right (by decide)
  have e : Go.bits .and .i64 x 255 = ((((BitVec.ofInt 64 x) &&& (BitVec.ofInt 64 255)).toNat : Nat) : Int) := by
    show IntKind.i64.wrap ((((BitVec.ofInt 64 x) &&& (BitVec.ofInt 64 255)).toNat : Nat) : Int) = _
    rw [IntKind.wrap_i64]
    omega
  omega
/-- A byte is drawn. -/
theorem byte_ev {l : List Int} {a : Int} (n : Int) (h0 : 0 ≤ a) (hl : l.length ≤ maxLen) : ∃ v a' n', spec_l01Byte.f l a n = some (v, a', n') ∧ 0 ≤ v ∧ v ≤ 255 ∧ 0 ≤ a' := by
  have hm : maxLen ≤ 9223372036854775807 := by decide
  unfold spec_l01Byte.f
  by_cases h : a < (l.length : Int)
  · rw [if_pos h, if_pos h0]
    exact ⟨_, _, _, rfl, (and255 _).1, (and255 _).2, by rw [w64 (by omega) (by omega)]; omega⟩
  · rw [if_neg h]
    exact ⟨_, _, _, rfl, (and255 _).1, (and255 _).2, h0⟩
/-- A number below another is drawn. -/
theorem below_ev {l : List Int} {a : Int} (n : Int) {m : Int} (h0 : 0 ≤ a) (hl : l.length ≤ maxLen) (hm : 0 < m) : ∃ v a' n', spec_l01Below.f l a n m = some (v, a', n') ∧ 0 ≤ v ∧ v < m ∧ 0 ≤ a' := by
  unfold spec_l01Below.f
  rw [if_neg (by omega)]
  obtain ⟨v1, a1, n1, e1, l1, u1, p1⟩ := byte_ev n h0 hl
  by_cases h : m ≤ 256
  · rw [if_pos h, e1]
    simp only [Option.bind_some, if_neg (show ¬ m = 0 by omega)]
    refine ⟨_, _, _, rfl, ?_, ?_, p1⟩
    · exact Int.tmod_nonneg _ l1
    · exact Int.tmod_lt_of_pos _ hm
  · obtain ⟨v2, a2, n2, e2, l2, u2, p2⟩ := byte_ev n1 p1 hl
    obtain ⟨v3, a3, n3, e3, l3, u3, p3⟩ := byte_ev n2 p2 hl
    obtain ⟨v4, a4, n4, e4, l4, u4, p4⟩ := byte_ev n3 p3 hl
    rw [if_neg h, e1]
    simp only [Option.bind_some, e2, e3, e4, if_neg (show ¬ m = 0 by omega)]
    rw [w64 (x := v1 * 16777216) (by omega) (by omega), w64 (x := v2 * 65536) (by omega) (by omega), w64 (x := v3 * 256) (by omega) (by omega), w64 (x := v1 * 16777216 + v2 * 65536) (by omega) (by omega), w64 (x := v1 * 16777216 + v2 * 65536 + v3 * 256) (by omega) (by omega), w64 (x := v1 * 16777216 + v2 * 65536 + v3 * 256 + v4) (by omega) (by omega)]
    refine ⟨_, _, _, rfl, ?_, ?_, p4⟩
    · exact Int.tmod_nonneg _ (by omega)
    · exact Int.tmod_lt_of_pos _ hm
theorem new_loop {l : List Int} (hl : l.length ≤ maxLen) : ∀ (d i : Nat) (h : Int), i + d = min l.length 4000 → ∃ s, Ev (fun k => spec_l01New.l0 k l h (i : Int)) (l, 0, s)
  | 0, i, h, hi => by
    refine ⟨h, Ev.step (f := fun _ => some (l, 0, h)) (fun k => ?_) (Ev.now _)⟩
    simp only [spec_l01New.l0]
    by_cases h1 : (i : Int) < (l.length : Int)
    · rw [if_pos h1, if_neg (by omega)]
    · rw [if_neg h1]
  | d + 1, i, h, hi => by
    obtain ⟨s, hs⟩ := new_loop hl d (i + 1) (Go.bits .and .i64 (wrap64 ((wrap64 ((wrap64 (h * 131)) + (wrap64 (rd l (i : Int))))) + 7)) 1073741823) (by omega)
    refine ⟨s, Ev.step (fun k => ?_) hs⟩
    simp only [spec_l01New.l0]
    rw [if_pos (by omega), if_pos (by omega), if_pos (by omega), w64 (x := (i : Int) + 1) (by omega) (by omega)]
    rfl
theorem new_ev {l : List Int} (hl : l.length ≤ maxLen) : ∃ s, Ev (fun k => spec_l01New.f k l) (l, 0, s) := by
  unfold spec_l01New.f
  exact new_loop hl (min l.length 4000) 0 _ (by omega)
theorem pick_vals {v : Int} (h0 : 0 ≤ v) (h1 : v < 10) : 0 ≤ rd ([0, 0, 0, 0, 1, 2, 3, 3, 4, 200] : List Int) v ∧ rd ([0, 0, 0, 0, 1, 2, 3, 3, 4, 200] : List Int) v < 256 := by
  have : ∀ j : Fin 10, 0 ≤ rd ([0, 0, 0, 0, 1, 2, 3, 3, 4, 200] : List Int) ((j : Nat) : Int) ∧ rd ([0, 0, 0, 0, 1, 2, 3, 3, 4, 200] : List Int) ((j : Nat) : Int) < 256 := by decide +kernel
  obtain ⟨n, rfl⟩ := Int.eq_ofNat_of_zero_le h0
  exact this ⟨n, by omega⟩
/-- A text is drawn: a few bytes. -/
theorem text_loop {l : List Int} (hl : l.length ≤ maxLen) : ∀ (d i : Nat) (acc : List Int) (a n : Int), i + d = 14 → acc.length = i → 0 ≤ a → Bys acc →
    ∃ t a' n', Ev (fun k => spec_l04Text.l0 k acc (i : Int) l a n) (strOfNums t, a', n') ∧ Bys t ∧ t.length ≤ 20 ∧ 0 ≤ a'
  | d, i, acc, a, n, hi, ha, h0, hb => by
    obtain ⟨v, a1, n1, e1, v0, v1, p1⟩ := below_ev n h0 hl (show (0 : Int) < 14 by decide)
    by_cases hv : (i : Int) < v
    · obtain ⟨d, rfl⟩ : ∃ e, d = e + 1 := ⟨d - 1, by omega⟩
      obtain ⟨w, a2, n2, e2, w0, w1, p2⟩ := below_ev n1 p1 hl (show (0 : Int) < 10 by decide)
      have hw := pick_vals w0 w1
      have ep : spec_l01PickInt.f l a1 n1 ([0, 0, 0, 0, 1, 2, 3, 3, 4, 200] : List Int) = some (rd ([0, 0, 0, 0, 1, 2, 3, 3, 4, 200] : List Int) w, a2, n2) := by
        unfold spec_l01PickInt.f
        rw [show ((([0, 0, 0, 0, 1, 2, 3, 3, 4, 200] : List Int).length : Nat) : Int) = 10 from rfl, e2]
        simp only [Option.bind_some, if_pos w0, if_pos w1]
      obtain ⟨t, a', n', ht, hbt, htl, hp⟩ := text_loop hl d (i + 1) (acc ++ [rd ([0, 0, 0, 0, 1, 2, 3, 3, 4, 200] : List Int) w]) a2 n2 (by omega) (by simp; omega) p2 (Bys.append hb (Bys.cons hw.1 hw.2 Bys.nil))
      refine ⟨t, a', n', Ev.step (fun k => ?_) ht, hbt, htl, hp⟩
      simp only [spec_l04Text.l0]
      rw [e1]
      simp only [Option.bind_some, if_pos hv, ep, if_pos (show acc.length < 140737488355328 by omega)]
      rw [Int.emod_eq_of_lt hw.1 hw.2, w64 (x := (i : Int) + 1) (by omega) (by omega)]
      rfl
    · obtain ⟨w, a2, n2, e2, w0, w1, p2⟩ := below_ev n1 p1 hl (show (0 : Int) < 8 by decide)
      have eo : spec_l01Once.f l a1 n1 8 = some ((w == 0), a2, n2) := by
        unfold spec_l01Once.f
        rw [e2]
        rfl
      cases hw : (w == 0)
      · obtain ⟨u, a3, n3, e3, u0, u1, p3⟩ := below_ev n2 p2 hl (show (0 : Int) < 5 by decide)
        refine ⟨acc ++ [1 + u], a3, n3, Ev.step (f := fun _ => some (strOfNums (acc ++ [1 + u]), a3, n3)) (fun k => ?_) (Ev.now _), Bys.append hb (Bys.cons (by omega) (by omega) Bys.nil), by simp; omega, p3⟩
        simp only [spec_l04Text.l0]
        rw [e1]
        simp only [Option.bind_some, if_neg hv, eo, hw, Bool.false_eq_true, if_false, e3, if_pos (show acc.length < 140737488355328 by omega)]
        rw [w64 (x := 1 + u) (by omega) (by omega), Int.emod_eq_of_lt (by omega) (by omega)]
      · refine ⟨acc, a2, n2, Ev.step (f := fun _ => some (strOfNums acc, a2, n2)) (fun k => ?_) (Ev.now _), hb, by omega, p2⟩
        simp only [spec_l04Text.l0]
        rw [e1]
        simp only [Option.bind_some, if_neg hv, eo, hw, if_true]
  termination_by d => d
theorem text_ev {l : List Int} (hl : l.length ≤ maxLen) {a : Int} (n : Int) (h0 : 0 ≤ a) : ∃ t a' n', Ev (fun k => spec_l04Text.f k l a n) (strOfNums t, a', n') ∧ Bys t ∧ t.length ≤ 20 ∧ 0 ≤ a' := by
  unfold spec_l04Text.f
  exact text_loop hl 14 0 [] a n rfl rfl h0 Bys.nil
/-- A unit, as it is drawn. -/
def IsUnit (u : ByteArray) : Prop := ∃ t : List Int, u = strOfNums (t ++ [97]) ∧ Bys t ∧ t.length ≤ 20
theorem units_loop {l : List Int} (hl : l.length ≤ maxLen) : ∀ (d i : Nat) (acc : List ByteArray) (a n : Int), i + d = 5 → acc.length = i → 0 ≤ a → (∀ u, u ∈ acc → IsUnit u) →
    ∃ us, Ev (fun k => spec_DrawUnits.l0 k acc (i : Int) l a n) us ∧ us.length ≤ 5 ∧ ∀ u, u ∈ us → IsUnit u
  | d, i, acc, a, n, hi, ha, h0, hu => by
    obtain ⟨v, a1, n1, e1, v0, v1, p1⟩ := below_ev n h0 hl (show (0 : Int) < 5 by decide)
    by_cases hv : (i : Int) < v
    · obtain ⟨d, rfl⟩ : ∃ e, d = e + 1 := ⟨d - 1, by omega⟩
      obtain ⟨t, a2, n2, ht, hbt, htl, p2⟩ := text_ev hl n1 p1
      obtain ⟨us, hus, hlen, hgood⟩ := units_loop hl d (i + 1) (acc ++ [strOfNums (t ++ [97])]) a2 n2 (by omega) (by simp; omega) p2 (fun u h => by
        rcases List.mem_append.1 h with h | h
        · exact hu u h
        · exact ⟨t, List.mem_singleton.1 h, hbt, htl⟩)
      refine ⟨us, Ev.step (f := fun k => (spec_l04Text.f k l a1 n1).bind fun b => (if b.1.size + 1 ≤ 9223372036854775807 then (if acc.length < 8796093022208 then (spec_DrawUnits.l0 k (acc ++ [b.1 ++ (⟨#[97]⟩ : ByteArray)]) ((i + 1 : Nat) : Int) l b.2.1 b.2.2) else (none)) else (none))) (fun k => ?_) (Ev.bind ht ?_), hlen, hgood⟩
      · simp only [spec_DrawUnits.l0]
        rw [e1]
        simp only [Option.bind_some, if_pos hv]
        rw [w64 (x := (i : Int) + 1) (by omega) (by omega)]
        rfl
      · simp only [str_size, if_pos (show t.length + 1 ≤ 9223372036854775807 by omega), if_pos (show acc.length < 8796093022208 by omega), show (⟨#[97]⟩ : ByteArray) = strOfNums [97] from rfl, str_append]
        exact hus
    · refine ⟨acc, Ev.step (f := fun _ => some acc) (fun k => ?_) (Ev.now _), by omega, hu⟩
      simp only [spec_DrawUnits.l0]
      rw [e1]
      simp only [Option.bind_some, if_neg hv]
  termination_by d => d
theorem units_ev {l : List Int} (hl : l.length ≤ maxLen) : ∃ us, Ev (fun k => spec_DrawUnits.f k l) us ∧ us.length ≤ 5 ∧ ∀ u, u ∈ us → IsUnit u := by
  obtain ⟨s, hs⟩ := new_ev hl
  obtain ⟨us, h1, h2, h3⟩ := units_loop hl 5 0 [] 0 s rfl rfl (by decide) (fun u h => by cases h)
  refine ⟨us, ?_, h2, h3⟩
  unfold spec_DrawUnits.f
  exact Ev.bind hs h1
theorem places_loop {l : List Int} (hl : l.length ≤ maxLen) : ∀ (d i : Nat) (acc : List Int) (a n : Int), i + d = 12 → acc.length = i → 0 ≤ a → (∀ x, x ∈ acc → 0 ≤ x ∧ x < 10000) → ∃ p, Ev (fun k => spec_DrawPlaces.l0 k acc (i : Int) l a n) p ∧ p.length = 12 ∧ ∀ x, x ∈ p → 0 ≤ x ∧ x < 10000
  | 0, i, acc, a, n, hi, ha, h0, hx => by
    refine ⟨acc, Ev.step (f := fun _ => some acc) (fun k => ?_) (Ev.now _), by omega, hx⟩
    simp only [spec_DrawPlaces.l0]
    rw [if_neg (by omega)]
  | d + 1, i, acc, a, n, hi, ha, h0, hx => by
    obtain ⟨v, a', n', e, v0, v1, p1⟩ := below_ev n h0 hl (show (0 : Int) < 10000 by decide)
    obtain ⟨p, hp, hlen, hq⟩ := places_loop hl d (i + 1) (acc ++ [v]) a' n' (by omega) (by simp; omega) p1 (fun x h => by
      rcases List.mem_append.1 h with h | h
      · exact hx x h
      · rw [List.mem_singleton.1 h]
        exact ⟨v0, v1⟩)
    refine ⟨p, Ev.step (fun k => ?_) hp, hlen, hq⟩
    simp only [spec_DrawPlaces.l0]
    rw [if_pos (by omega), e]
    simp only [Option.bind_some, if_pos (show acc.length < 17592186044416 by omega)]
    rw [w64 (x := (i : Int) + 1) (by omega) (by omega)]
    rfl
theorem places_ev {l : List Int} (hl : l.length ≤ maxLen) : ∃ p, Ev (fun k => spec_DrawPlaces.f k l) p ∧ p.length = 12 ∧ ∀ x, x ∈ p → 0 ≤ x ∧ x < 10000 := by
  obtain ⟨s, hs⟩ := new_ev hl
  obtain ⟨v, a', n', e, _, _, p1⟩ := byte_ev (a := 0) s (by decide) hl
  obtain ⟨p, hp, h1, h2⟩ := places_loop hl 12 0 [] a' n' rfl rfl p1 (fun x h => by cases h)
  refine ⟨p, ?_, h1, h2⟩
  unfold spec_DrawPlaces.f
  refine Ev.bind hs ?_
  simp only [e, Option.bind_some]
  exact hp
theorem place_at {p : List Int} (h1 : p.length = 12) (h2 : ∀ x, x ∈ p → 0 ≤ x ∧ x < 10000) {i : Nat} (hi : i < 12) : 0 ≤ rd p (i : Int) ∧ rd p (i : Int) < 10000 := by
  unfold rd
  rw [Int.toNat_natCast, List.getD_eq_getElem?_getD, List.getElem?_eq_getElem (by omega)]
  exact h2 _ (List.getElem_mem _)
theorem snext_len (pre : List ByteArray) (x : ByteArray) (h : pre.length < 4611686018427387904) : wrap64 ((pre.length : Int) + 1) = ((pre ++ [x]).length : Int) := by
  rw [w64 (by omega) (by omega)]
  simp
theorem ssnoc (pre suf : List ByteArray) (x : ByteArray) : pre ++ x :: suf = (pre ++ [x]) ++ suf := by simp
theorem srd_mid (pre suf : List ByteArray) (x : ByteArray) : rdOf ByteArray.empty (pre ++ x :: suf) (pre.length : Int) = x := by
  unfold rdOf
  rw [Int.toNat_natCast, List.getD_eq_getElem?_getD, List.getElem?_append_right (Nat.le_refl _), Nat.sub_self]
  rfl
/-- A text, escaped, behind z zeros. -/
def esc : Nat → List Int → List Int
  | _, [] => []
  | z, x :: l => if x < 4 ∧ 2 ≤ z then 3 :: x :: esc (if x = 0 then 1 else 0) l else x :: esc (if x = 0 then z + 1 else 0) l
/-- Whether Escaped takes the text. -/
def escOk (l : List Int) : Bool := decide (l ≠ [] ∧ l.length ≤ 60000 ∧ l.getLast? ≠ some 0)
theorem esc_bys : ∀ (l : List Int) (z : Nat), Bys l → Bys (esc z l)
  | [], _, _ => Bys.nil
  | x :: l, z, h => by
    have hx := h x (by simp)
    have hl : Bys l := fun y hy => h y (by simp [hy])
    unfold esc
    split
    · exact Bys.cons (by decide) (by decide) (Bys.cons hx.1 hx.2 (esc_bys l _ hl))
    · exact Bys.cons hx.1 hx.2 (esc_bys l _ hl)
theorem esc_len : ∀ (l : List Int) (z : Nat), l.length ≤ (esc z l).length ∧ (esc z l).length ≤ 2 * l.length
  | [], _ => ⟨Nat.le_refl _, Nat.le_refl _⟩
  | x :: l, z => by
    unfold esc
    split
    · have := esc_len l (if x = 0 then 1 else 0)
      simp only [List.length_cons]
      omega
    · have := esc_len l (if x = 0 then z + 1 else 0)
      simp only [List.length_cons]
      omega
theorem last_get (l : List Int) (h : l ≠ []) : l.getLast? = some (l.getD (l.length - 1) 0) := by
  rw [List.getLast?_eq_getElem?, List.getD_eq_getElem?_getD]
  have : l.length - 1 < l.length := by
    have := List.length_pos_iff.2 h
    omega
  rw [List.getElem?_eq_getElem this]
  rfl
theorem bt_last {l : List Int} (hb : Bys l) (h : l ≠ []) (hl : l.length ≤ 1048576) : bt (strOfNums l) (wrap64 (((strOfNums l).size : Int) - 1)) = l.getD (l.length - 1) 0 := by
  have := List.length_pos_iff.2 h
  rw [str_size, w64 (by omega) (by omega)]
  exact bt_get hb (by omega)
theorem str_toList (l : List Int) : (strOfNums l).toList = l.map fun n => UInt8.ofNat n.toNat := by
  rw [Go.ByteArray.toList_eq, strOfNums_data]
theorem str_toList_nil {l : List Int} : (strOfNums l).toList = ([] : List UInt8) ↔ l = [] := by
  rw [str_toList, List.map_eq_nil_iff]
theorem str_toList_inj {l m : List Int} (hl : Bys l) (hm : Bys m) : (strOfNums l).toList = (strOfNums m).toList ↔ l = m := by
  constructor
  · intro h
    apply str_inj hl hm
    apply ByteArray.ext
    apply Array.ext'
    rw [← Go.ByteArray.toList_eq, ← Go.ByteArray.toList_eq, h]
  · intro h
    rw [h]
/-- What the escaping put in is left out again, behind z zeros. -/
def une : Nat → List Int → List Int
  | _, [] => []
  | z, x :: l => if x = 3 ∧ 2 ≤ z then une 0 l else x :: une (if x = 0 then z + 1 else 0) l
def uneRes (t out : List Int) : ByteArray × Bool := if escOk out = true ∧ esc 0 out = t then (strOfNums out, true) else (strOfNums [], false)
theorem une_bys : ∀ (l : List Int) (z : Nat), Bys l → Bys (une z l)
  | [], _, _ => Bys.nil
  | x :: l, z, h => by
    have hx := h x (by simp)
    have hl : Bys l := fun y hy => h y (by simp [hy])
    unfold une
    split
    · exact une_bys l _ hl
    · exact Bys.cons hx.1 hx.2 (une_bys l _ hl)
theorem une_len : ∀ (l : List Int) (z : Nat), (une z l).length ≤ l.length
  | [], _ => Nat.le_refl _
  | x :: l, z => by
    unfold une
    split
    · have := une_len l 0
      simp only [List.length_cons]
      omega
    · have := une_len l (if x = 0 then z + 1 else 0)
      simp only [List.length_cons]
      omega
/-- A start at a place. -/
def isStart (l : List Int) (i : Nat) : Bool := decide (i + 2 < l.length) && (l.getD i 0 == 0 && (l.getD (i + 1) 0 == 0 && l.getD (i + 2) 0 == 1))
/-- The starts from a place on, so many places. -/
def starts (l : List Int) : Nat → Nat → List Nat
  | 0, _ => []
  | d + 1, i => if isStart l i = true then i :: starts l d (i + 1) else starts l d (i + 1)
/-- The zeros at a text's end left out. -/
def strip (l : List Int) (f : Nat) : Nat → Nat
  | 0 => 0
  | q + 1 => if f < q + 1 ∧ l.getD q 0 = 0 then strip l f q else q + 1
theorem strip_bounds (l : List Int) (f : Nat) : ∀ q : Nat, f ≤ q → f ≤ strip l f q ∧ strip l f q ≤ q
  | 0, h => ⟨by simpa [strip] using h, Nat.le_refl _⟩
  | q + 1, h => by
    unfold strip
    split
    · rename_i hc
      have := strip_bounds l f q (by omega)
      omega
    · omega
def seg (l : List Int) (f q : Nat) : List Int := (l.take (strip l f q)).drop f
/-- One unit more. -/
def addU (l : List Int) (out : List ByteArray) (f q : Nat) : List ByteArray := if (uneRes (seg l f q) (une 0 (seg l f q))).2 = true then (if out.length < 400 then out ++ [(uneRes (seg l f q) (une 0 (seg l f q))).1] else out) else out
/-- The units behind the starts. -/
def runU (l : List Int) : List ByteArray → Nat → List Nat → List ByteArray
  | out, f, [] => addU l out f l.length
  | out, f, p :: P => runU l (addU l out f p) (p + 3) P
def allU (l : List Int) : List Nat → List ByteArray
  | [] => []
  | p :: P => runU l [] (p + 3) P
theorem addU_len (l : List Int) (out : List ByteArray) (f q : Nat) (h : out.length ≤ 400) : (addU l out f q).length ≤ 400 := by
  unfold addU
  split
  · split
    · rw [List.length_append, List.length_singleton]; omega
    · exact h
  · exact h
theorem addU_full (l : List Int) (out : List ByteArray) (f q : Nat) (h : ¬ out.length < 400) : addU l out f q = out := by
  unfold addU
  rw [if_neg h, ite_self]
theorem runU_full (l : List Int) (out : List ByteArray) (h : ¬ out.length < 400) : ∀ (P : List Nat) (f : Nat), runU l out f P = out
  | [], f => addU_full l out f _ h
  | p :: P, f => by rw [runU, addU_full l out f p h, runU_full l out h P]
theorem runU_len (l : List Int) : ∀ (P : List Nat) (out : List ByteArray) (f : Nat), out.length ≤ 400 → (runU l out f P).length ≤ 400
  | [], out, f, h => addU_len l out f _ h
  | p :: P, out, f, h => runU_len l P _ _ (addU_len l out f p h)
theorem allU_len (l : List Int) (P : List Nat) : (allU l P).length ≤ 400 := by
  cases P with
  | nil => exact Nat.zero_le _
  | cons p P => exact runU_len l P [] _ (Nat.zero_le _)
theorem seg_bys {l : List Int} (hb : Bys l) (f q : Nat) : Bys (seg l f q) := (hb.take _).drop _
theorem seg_len {l : List Int} (f q : Nat) : (seg l f q).length ≤ l.length := by
  unfold seg
  rw [List.length_drop, List.length_take]
  omega
theorem starts_apart {l : List Int} {i j : Nat} (h : isStart l i = true) (hj : isStart l j = true) (hij : i < j) : i + 3 ≤ j := by
  unfold isStart at h hj
  simp only [Bool.and_eq_true, decide_eq_true_eq, beq_iff_eq] at h hj
  obtain ⟨_, _, _, h3⟩ := h
  obtain ⟨_, g1, g2, _⟩ := hj
  by_cases e1 : j = i + 1
  · subst e1
    rw [show i + 1 + 1 = i + 2 by omega, h3] at g2
    exact absurd g2 (by decide)
  · by_cases e2 : j = i + 2
    · subst e2
      rw [h3] at g1
      exact absurd g1 (by decide)
    · omega
theorem start_last {l : List Int} {i : Nat} (h : ¬ i + 2 < l.length) : isStart l i = false := by
  unfold isStart
  rw [decide_eq_false h]
  rfl
theorem starts_nil {l : List Int} : ∀ (d i : Nat), ¬ i + 2 < l.length → starts l d i = []
  | 0, _, _ => rfl
  | d + 1, i, h => by
    rw [starts, start_last h, if_neg (by decide), starts_nil d (i + 1) (by omega)]
theorem three {l : List Int} {i : Nat} (h : i + 2 < l.length) : (l.take (i + 3)).drop i = [l.getD i 0, l.getD (i + 1) 0, l.getD (i + 2) 0] := by
  rw [List.drop_take, show i + 3 - i = 3 by omega, List.drop_eq_getElem_cons (by omega), List.drop_eq_getElem_cons (by omega), List.drop_eq_getElem_cons (by omega), List.getD_eq_getElem?_getD, List.getD_eq_getElem?_getD, List.getD_eq_getElem?_getD, List.getElem?_eq_getElem (by omega), List.getElem?_eq_getElem (by omega), List.getElem?_eq_getElem (by omega)]
  rfl
theorem start_text {l : List Int} (hb : Bys l) {i : Nat} (h : i + 2 < l.length) : ((strOfNums l).extract i (i + 3)).toList = ([0, 0, 1] : List UInt8) ↔ isStart l i = true := by
  have e : ([0, 0, 1] : List UInt8) = (strOfNums [0, 0, 1]).toList := by
    rw [str_toList]
    rfl
  rw [e, str_extract, str_toList_inj ((hb.take _).drop _) (Bys.cons (by decide) (by decide) (Bys.cons (by decide) (by decide) (Bys.cons (by decide) (by decide) Bys.nil))), three h]
  unfold isStart
  rw [decide_eq_true h]
  simp
theorem starts_len (l : List Int) : ∀ (d i : Nat), (starts l d i).length ≤ d
  | 0, _ => Nat.le_refl _
  | d + 1, i => by
    have := starts_len l d (i + 1)
    rw [starts]
    split
    · rw [List.length_cons]; omega
    · omega
theorem starts_in (l : List Int) : ∀ (d i : Nat), ∀ p, p ∈ starts l d i → i ≤ p ∧ isStart l p = true
  | 0, _, p, h => by cases h
  | d + 1, i, p, h => by
    rw [starts] at h
    split at h
    · rename_i hs
      rcases List.mem_cons.1 h with rfl | h
      · exact ⟨Nat.le_refl _, hs⟩
      · have := starts_in l d (i + 1) p h
        exact ⟨by omega, this.2⟩
    · have := starts_in l d (i + 1) p h
      exact ⟨by omega, this.2⟩
/-- The places a unit ends at. -/
def Run (l : List Int) : Nat → List Nat → Prop
  | f, [] => f + 3 ≤ l.length
  | f, p :: P => f + 3 ≤ p ∧ Run l p P
theorem starts_run {l : List Int} : ∀ (d i s : Nat), isStart l s = true → s < i → Run l s (starts l d i)
  | 0, i, s, hs, hi => by
    unfold isStart at hs
    rw [Bool.and_eq_true] at hs
    have := of_decide_eq_true hs.1
    simp only [starts, Run]
    omega
  | d + 1, i, s, hs, hi => by
    rw [starts]
    cases h : isStart l i
    · rw [if_neg (by decide)]
      exact starts_run d (i + 1) s hs (by omega)
    · rw [if_pos rfl]
      exact ⟨starts_apart hs h hi, starts_run d (i + 1) i h (by omega)⟩
theorem Run.le {l : List Int} : ∀ (P : List Nat) (f : Nat), Run l f P → f + 3 ≤ l.length
  | [], _, h => h
  | p :: P, f, h => by
    have := Run.le P p h.2
    have := h.1
    omega
theorem starts_loop {l : List Int} (hb : Bys l) (hl : l.length ≤ 60000) : ∀ (d i : Nat) (acc : List Int), i + d = l.length + 1 → acc.length ≤ i → Ev (fun k => impl_places.l0 k (strOfNums l) acc (i : Int)) (acc ++ (starts l d i).map fun n : Nat => (n : Int))
  | d, i, acc, hi, ha => by
    by_cases h : i + 2 < l.length
    · obtain ⟨d, rfl⟩ : ∃ e, d = e + 1 := ⟨d - 1, by omega⟩
      have w3 : wrap64 ((i : Int) + 3) = ((i + 3 : Nat) : Int) := by rw [w64 (by omega) (by omega)]; rfl
      have w1 : wrap64 ((i : Int) + 1) = ((i + 1 : Nat) : Int) := by rw [w64 (by omega) (by omega)]; rfl
      have hst := start_text hb h
      rw [starts]
      cases hs : isStart l i
      · rw [hs] at hst
        have ih := starts_loop hb hl d (i + 1) acc (by omega) (by omega)
        rw [if_neg (by decide)]
        refine Ev.step (fun k => ?_) ih
        simp only [impl_places.l0, str_size, w3, w1, Int.toNat_natCast]
        rw [if_pos (by omega), if_pos (by omega), if_pos (by omega), if_neg (fun hc => absurd (hst.1 hc) (by decide))]
      · have ih := starts_loop hb hl d (i + 1) (acc ++ [(i : Int)]) (by omega) (by simp; omega)
        rw [if_pos rfl, List.map_cons]
        rw [List.append_assoc, List.singleton_append] at ih
        refine Ev.step (fun k => ?_) ih
        simp only [impl_places.l0, str_size, w3, w1, Int.toNat_natCast]
        rw [if_pos (by omega), if_pos (by omega), if_pos (by omega), if_pos (hst.2 hs), if_pos (by omega)]
    · rw [starts_nil d i h, List.map_nil, List.append_nil]
      refine Ev.step (f := fun _ => some acc) (fun k => ?_) (Ev.now _)
      simp only [impl_places.l0, str_size]
      rw [w64 (by omega) (by omega), if_neg (by omega)]
  termination_by d => d
theorem impl_esc_loop : ∀ (suf pre acc : List Int) (z : Nat), Bys (pre ++ suf) → (pre ++ suf).length ≤ 60000 → acc.length ≤ 2 * pre.length → z ≤ pre.length →
    Ev (fun k => impl_Escaped.l0 k (strOfNums (pre ++ suf)) acc (z : Int) (pre.length : Int)) (strOfNums (acc ++ esc z suf), true)
  | [], pre, acc, z, hb, hl, ha, hz => by
    refine Ev.step (f := fun _ => some (strOfNums acc, true)) (fun k => ?_) (by simp only [esc, List.append_nil]; exact Ev.now _)
    simp only [impl_Escaped.l0, List.append_nil]
    rw [if_neg (ge_end pre)]
  | x :: suf, pre, acc, z, hb, hl, ha, hz => by
    have hx1 := mid_byte hb
    have hl' : pre.length + (suf.length + 1) ≤ 60000 := by simpa using hl
    have hp : (pre ++ [x]).length = pre.length + 1 := by simp
    have ih := fun (acc' : List Int) (z' : Nat) (h1 : acc'.length ≤ 2 * (pre ++ [x]).length) (h2 : z' ≤ (pre ++ [x]).length) => impl_esc_loop suf (pre ++ [x]) acc' z' (by rw [← snoc_cons]; exact hb) (by rw [← snoc_cons]; exact hl) h1 h2
    simp only [← snoc_cons] at ih
    have hlt := lt_mid pre suf x
    have hnext := next_len pre x (by omega)
    by_cases hc : x < 4 ∧ 2 ≤ z
    · have e : acc ++ esc z (x :: suf) = (acc ++ [3] ++ [x]) ++ esc (if x = 0 then 1 else 0) suf := by
        rw [esc, if_pos hc]
        simp
      rw [e]
      refine Ev.step (f := fun k => impl_Escaped.j2 k (strOfNums (pre ++ x :: suf)) acc (z : Int) (pre.length : Int) true) (fun k => ?_) ?_
      · simp only [impl_Escaped.l0]
        rw [if_pos hlt, if_pos (by omega), bt_mid hb, if_pos hc.1, decide_eq_true (by omega)]
      · by_cases h0 : x = 0
        · have := ih (acc ++ [3] ++ [x]) 1 (by simp; omega) (by omega)
          rw [if_pos h0]
          refine Ev.step (fun k => ?_) this
          simp only [impl_Escaped.j2, if_true]
          rw [if_pos (by omega)]
          try simp only [Option.bind_some]
          rw [if_pos (by omega), if_pos hlt, if_pos (by simp; omega)]
          try simp only [Option.bind_some]
          rw [bt_mid hb, if_pos h0, hnext]
          rfl
        · have := ih (acc ++ [3] ++ [x]) 0 (by simp; omega) (by omega)
          rw [if_neg h0]
          refine Ev.step (fun k => ?_) this
          simp only [impl_Escaped.j2, if_true]
          rw [if_pos (by omega)]
          try simp only [Option.bind_some]
          rw [if_pos (by omega), if_pos hlt, if_pos (by simp; omega)]
          try simp only [Option.bind_some]
          rw [bt_mid hb, if_neg h0, hnext]
          rfl
    · have e : acc ++ esc z (x :: suf) = (acc ++ [x]) ++ esc (if x = 0 then z + 1 else 0) suf := by
        rw [esc, if_neg hc]
        simp
      rw [e]
      refine Ev.step (f := fun k => impl_Escaped.j2 k (strOfNums (pre ++ x :: suf)) acc (z : Int) (pre.length : Int) false) (fun k => ?_) ?_
      · simp only [impl_Escaped.l0]
        rw [if_pos hlt, if_pos (by omega), bt_mid hb]
        by_cases h4 : x < 4
        · rw [if_pos h4, decide_eq_false (by omega)]
        · rw [if_neg h4]
      · by_cases h0 : x = 0
        · have := ih (acc ++ [x]) (z + 1) (by simp; omega) (by omega)
          rw [if_pos h0]
          refine Ev.step (fun k => ?_) this
          simp only [impl_Escaped.j2, Bool.false_eq_true, if_false]
          rw [if_pos (by omega), if_pos hlt, if_pos (by omega)]
          try simp only [Option.bind_some]
          rw [bt_mid hb, if_pos h0, hnext, w64 (x := (z : Int) + 1) (by omega) (by omega)]
          rfl
        · have := ih (acc ++ [x]) 0 (by simp; omega) (by omega)
          rw [if_neg h0]
          refine Ev.step (fun k => ?_) this
          simp only [impl_Escaped.j2, Bool.false_eq_true, if_false]
          rw [if_pos (by omega), if_pos hlt, if_pos (by omega)]
          try simp only [Option.bind_some]
          rw [bt_mid hb, if_neg h0, hnext]
          rfl
theorem impl_esc_yes {l : List Int} (hb : Bys l) (h : escOk l = true) : Ev (fun k => impl_Escaped.f k (strOfNums l)) (strOfNums (esc 0 l), true) := by
  have h' : l ≠ [] ∧ l.length ≤ 60000 ∧ l.getLast? ≠ some 0 := of_decide_eq_true h
  obtain ⟨h1, h2, h3⟩ := h'
  have hpos := List.length_pos_iff.2 h1
  have hlast := bt_last hb h1 (by omega)
  have hne : l.getD (l.length - 1) 0 ≠ 0 := by
    intro e
    rw [last_get l h1, e] at h3
    exact h3 rfl
  have hl := impl_esc_loop l [] [] 0 hb h2 (Nat.zero_le _) (Nat.zero_le _)
  simp only [List.nil_append] at hl
  have hj : Ev (fun k => impl_Escaped.j0 k (strOfNums l) false) (strOfNums (esc 0 l), true) := by
    refine Ev.step (fun k => ?_) hl
    simp only [impl_Escaped.j0, Bool.false_eq_true, if_false]
    rw [str_size, w64 (x := (l.length : Int) / 2) (by omega) (by omega), w64 (by omega) (by omega), if_pos (by omega), if_pos (by omega)]
    rfl
  refine Ev.congr (fun k => ?_) hj
  unfold impl_Escaped.f
  rw [if_neg (fun e => h1 (str_toList_nil.1 e)), if_neg (by rw [str_size]; omega), hlast]
  have hw : wrap64 (((strOfNums l).size : Int) - 1) = (l.length : Int) - 1 := by rw [str_size, w64 (by omega) (by omega)]
  rw [hw, if_pos (by omega), if_pos (by rw [str_size]; omega), beq_eq_false_iff_ne.2 hne]
theorem impl_esc_no {l : List Int} (hb : Bys l) (hl : l.length ≤ 1048576) (h : escOk l = false) : Ev (fun k => impl_Escaped.f k (strOfNums l)) (strOfNums [], false) := by
  have h' : ¬ (l ≠ [] ∧ l.length ≤ 60000 ∧ l.getLast? ≠ some 0) := of_decide_eq_false h
  have hj : Ev (fun k => impl_Escaped.j0 k (strOfNums l) true) (strOfNums [], false) := by
    refine Ev.step (f := fun _ => some (strOfNums [], false)) (fun k => ?_) (Ev.now _)
    simp only [impl_Escaped.j0, if_true]
    rfl
  refine Ev.congr (fun k => ?_) hj
  unfold impl_Escaped.f
  by_cases h1 : l = []
  · rw [if_pos (str_toList_nil.2 h1)]
  · rw [if_neg (fun e => h1 (str_toList_nil.1 e))]
    have hpos := List.length_pos_iff.2 h1
    by_cases h2 : ((strOfNums l).size : Int) > 60000
    · rw [if_pos h2]
    · rw [if_neg h2]
      rw [str_size] at h2
      have hlast := bt_last hb h1 (by omega)
      have he : l.getD (l.length - 1) 0 = 0 := by
        have := last_get l h1
        by_cases e : l.getD (l.length - 1) 0 = 0
        · exact e
        · exact absurd ⟨h1, by omega, by rw [this]; intro e2; exact e (Option.some.inj e2)⟩ h'
      rw [hlast, he]
      have hw : wrap64 (((strOfNums l).size : Int) - 1) = (l.length : Int) - 1 := by rw [str_size, w64 (by omega) (by omega)]
      rw [hw, if_pos (by omega), if_pos (by rw [str_size]; omega)]
      rfl
theorem impl_une_loop : ∀ (suf pre acc : List Int) (z : Nat), Bys (pre ++ suf) → (pre ++ suf).length ≤ 1048576 → Bys acc → acc.length ≤ pre.length → z ≤ pre.length →
    Ev (fun k => impl_Unescaped.l0 k (strOfNums (pre ++ suf)) acc (z : Int) (pre.length : Int)) (uneRes (pre ++ suf) (acc ++ une z suf))
  | [], pre, acc, z, hb, hl, hba, ha, hz => by
    rw [List.append_nil] at hb hl ⊢
    simp only [une, List.append_nil]
    unfold uneRes
    have hstep : ∀ k, impl_Unescaped.l0 (k + 1) (strOfNums pre) acc (z : Int) (pre.length : Int) = ((impl_Escaped.f k (strOfNums acc)).bind fun b => (if b.2 = true then (if b.1.toList = (strOfNums pre).toList then (some (strOfNums acc, true)) else (some ((⟨#[]⟩ : ByteArray), false))) else (some ((⟨#[]⟩ : ByteArray), false)))) := fun k => by
      simp only [impl_Unescaped.l0]
      rw [if_neg (ge_end pre)]
    refine Ev.step hstep ?_
    cases h : escOk acc
    · refine Ev.bind (impl_esc_no hba (by omega) h) ?_
      simp only [Bool.false_eq_true, if_false, false_and]
      exact Ev.now _
    · refine Ev.bind (impl_esc_yes hba h) ?_
      simp only [if_true, true_and, str_toList_inj (esc_bys acc 0 hba) hb]
      by_cases he : esc 0 acc = pre
      · simp only [if_pos he]
        exact Ev.now _
      · simp only [if_neg he]
        exact Ev.now _
  | x :: suf, pre, acc, z, hb, hl, hba, ha, hz => by
    have hx1 := mid_byte hb
    have hl' : pre.length + (suf.length + 1) ≤ 1048576 := by simpa using hl
    have hp : (pre ++ [x]).length = pre.length + 1 := by simp
    have ih := fun (acc' : List Int) (z' : Nat) (h0 : Bys acc') (h1 : acc'.length ≤ (pre ++ [x]).length) (h2 : z' ≤ (pre ++ [x]).length) => impl_une_loop suf (pre ++ [x]) acc' z' (by rw [← snoc_cons]; exact hb) (by rw [← snoc_cons]; exact hl) h0 h1 h2
    simp only [← snoc_cons] at ih
    have hlt := lt_mid pre suf x
    have hnext := next_len pre x (by omega)
    by_cases hc : x = 3 ∧ 2 ≤ z
    · have e : acc ++ une z (x :: suf) = acc ++ une 0 suf := by rw [une, if_pos hc]
      rw [e]
      refine Ev.step (f := fun k => impl_Unescaped.j1 k (strOfNums (pre ++ x :: suf)) acc (z : Int) (pre.length : Int) true) (fun k => ?_) ?_
      · simp only [impl_Unescaped.l0]
        rw [if_pos hlt, if_pos (by omega), if_pos (by omega), bt_mid hb, hc.1]
        rfl
      · refine Ev.step (fun k => ?_) (ih acc 0 hba (by omega) (by omega))
        simp only [impl_Unescaped.j1, if_true]
        rw [hnext]
        rfl
    · have e : acc ++ une z (x :: suf) = (acc ++ [x]) ++ une (if x = 0 then z + 1 else 0) suf := by
        rw [une, if_neg hc]
        simp
      rw [e]
      refine Ev.step (f := fun k => impl_Unescaped.j1 k (strOfNums (pre ++ x :: suf)) acc (z : Int) (pre.length : Int) false) (fun k => ?_) ?_
      · simp only [impl_Unescaped.l0]
        rw [if_pos hlt]
        by_cases h2 : 2 ≤ z
        · rw [if_pos (by omega), if_pos (by omega), bt_mid hb, beq_eq_false_iff_ne.2 (fun h3 => hc ⟨h3, h2⟩)]
        · rw [if_neg (by omega)]
      · have hba' : Bys (acc ++ [x]) := Bys.append hba (Bys.cons hx1.1 hx1.2 Bys.nil)
        by_cases h0 : x = 0
        · have := ih (acc ++ [x]) (z + 1) hba' (by simp; omega) (by omega)
          rw [if_pos h0]
          refine Ev.step (fun k => ?_) this
          simp only [impl_Unescaped.j1, Bool.false_eq_true, if_false]
          rw [if_pos (by omega), if_pos hlt, bt_mid hb, if_pos h0, if_pos (by omega), hnext, w64 (x := (z : Int) + 1) (by omega) (by omega)]
          rfl
        · have := ih (acc ++ [x]) 0 hba' (by simp; omega) (by omega)
          rw [if_neg h0]
          refine Ev.step (fun k => ?_) this
          simp only [impl_Unescaped.j1, Bool.false_eq_true, if_false]
          rw [if_pos (by omega), if_pos hlt, bt_mid hb, if_neg h0, if_pos (by omega), hnext]
          rfl
theorem impl_une_ev {l : List Int} (hb : Bys l) (hl : l.length ≤ 1048576) : Ev (fun k => impl_Unescaped.f k (strOfNums l)) (uneRes l (une 0 l)) := by
  have h := impl_une_loop l [] [] 0 hb hl Bys.nil (Nat.zero_le _) (Nat.zero_le _)
  simp only [List.nil_append] at h
  refine Ev.congr (fun k => ?_) h
  unfold impl_Unescaped.f
  rw [if_pos (by omega), if_pos (by rw [str_size]; omega)]
  rfl
/-- The program's strip and what follows. -/
theorem impl_strip_ev {l : List Int} (hb : Bys l) (hl : l.length ≤ 60000) {out : List ByteArray} (ho : out.length < 400) {ps : List Int} {x : Int} {f : Nat} (hx0 : 0 ≤ x) (hx : x < (ps.length : Int)) (hps : ps.length ≤ 70000) (hrd : rd ps x = (f : Int)) {R : List ByteArray} : ∀ q : Nat, f + 3 ≤ q → q ≤ l.length →
    Ev (fun k => impl_UnitsIn.l0 k (strOfNums l) (addU l out (f + 3) q) ps (wrap64 (x + 1))) R → Ev (fun k => impl_UnitsIn.l1 k (strOfNums l) out ps x (q : Int)) R
  | q, hf, hq, h => by
    have w3 : wrap64 ((f : Int) + 3) = ((f + 3 : Nat) : Int) := by rw [w64 (by omega) (by omega)]; rfl
    by_cases hc : f + 3 < q ∧ l.getD (q - 1) 0 = 0
    · obtain ⟨q, rfl⟩ : ∃ e, q = e + 1 := ⟨q - 1, by omega⟩
      rw [Nat.add_sub_cancel] at hc
      have hst : strip l (f + 3) (q + 1) = strip l (f + 3) q := by rw [strip, if_pos hc]
      have hs : addU l out (f + 3) (q + 1) = addU l out (f + 3) q := by
        unfold addU seg
        rw [hst]
      rw [hs] at h
      have ih := impl_strip_ev hb hl ho hx0 hx hps hrd q (by omega) (by omega) h
      refine Ev.step (fun k => ?_) ih
      simp only [impl_UnitsIn.l1, str_size, hrd, w3]
      rw [if_pos hx0, if_pos hx, if_pos (by omega), w64 (x := ((q + 1 : Nat) : Int) - 1) (by omega) (by omega), show ((q + 1 : Nat) : Int) - 1 = (q : Int) by omega, if_pos (by omega), if_pos (by omega), bt_get hb rfl, if_pos hc.2]
    · have hs : strip l (f + 3) q = q := by
        cases q with
        | zero => rfl
        | succ q =>
          rw [Nat.add_sub_cancel] at hc
          rw [strip, if_neg hc]
      have he : (strOfNums l).extract (f + 3) q = strOfNums (seg l (f + 3) q) := by
        rw [str_extract]
        unfold seg
        rw [hs]
      have hu := impl_une_ev (seg_bys hb (f + 3) q) (by have := seg_len (l := l) (f + 3) q; omega)
      have tail : ∀ k, impl_UnitsIn.l1 (k + 1) (strOfNums l) out ps x (q : Int) = (impl_Unescaped.f k (strOfNums (seg l (f + 3) q))).bind fun b => (if b.2 = true then (if out.length < 8796093022208 then (impl_UnitsIn.l0 k (strOfNums l) (out ++ [b.1]) ps (wrap64 (x + 1))) else (none)) else (impl_UnitsIn.l0 k (strOfNums l) out ps (wrap64 (x + 1)))) := by
        intro k
        simp only [impl_UnitsIn.l1, str_size, hrd, w3]
        rw [if_pos hx0, if_pos hx]
        by_cases hgt : f + 3 < q
        · rw [if_pos (show (q : Int) > ((f + 3 : Nat) : Int) by omega), w64 (x := (q : Int) - 1) (by omega) (by omega), if_pos (by omega), if_pos (by omega), bt_get hb (n := q - 1) (by omega), if_neg (fun h0 => hc ⟨hgt, h0⟩), if_pos (by omega), if_pos (by omega), if_pos (by omega), Int.toNat_natCast, Int.toNat_natCast, he]
        · rw [if_neg (show ¬ (q : Int) > ((f + 3 : Nat) : Int) by omega), if_pos (by omega), if_pos (by omega), if_pos (by omega), Int.toNat_natCast, Int.toNat_natCast, he]
      refine Ev.step tail (Ev.bind hu ?_)
      unfold addU at h
      by_cases hok : (uneRes (seg l (f + 3) q) (une 0 (seg l (f + 3) q))).2 = true
      · rw [if_pos hok, if_pos ho] at h
        simp only [if_pos hok, if_pos (show out.length < 8796093022208 by omega)]
        exact h
      · rw [if_neg hok] at h
        simp only [if_neg hok]
        exact h
theorem impl_end (s : ByteArray) (out : List ByteArray) (ps : List Int) (x : Int) : Ev (fun k => impl_UnitsIn.j1 k s out ps x false) out := by
  refine Ev.step (f := fun _ => some out) (fun k => ?_) (Ev.now _)
  simp only [impl_UnitsIn.j1, Bool.false_eq_true, if_false]
theorem impl_units_loop {l : List Int} (hb : Bys l) (hl : l.length ≤ 60000) : ∀ (P : List Nat) (pre : List Int) (p : Nat) (out : List ByteArray), (pre ++ (p : Int) :: ((P.map fun n : Nat => (n : Int)) ++ [(l.length : Int)])).length ≤ 70000 → Run l p P → out.length ≤ 400 →
    Ev (fun k => impl_UnitsIn.l0 k (strOfNums l) out (pre ++ (p : Int) :: ((P.map fun n : Nat => (n : Int)) ++ [(l.length : Int)])) (pre.length : Int)) (runU l out (p + 3) P)
  | P, pre, p, out, hn, hr, ho => by
    have hlen : (pre ++ (p : Int) :: ((P.map fun n : Nat => (n : Int)) ++ [(l.length : Int)])).length = pre.length + (P.length + 1 + 1) := by simp
    have hw : wrap64 ((pre.length : Int) + 1) = ((pre.length + 1 : Nat) : Int) := by rw [w64 (by omega) (by omega)]; rfl
    by_cases h4 : out.length < 400
    · have go : ∀ (q : Nat) {R : List ByteArray}, rd (pre ++ (p : Int) :: ((P.map fun n : Nat => (n : Int)) ++ [(l.length : Int)])) ((pre.length + 1 : Nat) : Int) = (q : Int) → p + 3 ≤ q → q ≤ l.length → Ev (fun k => impl_UnitsIn.l0 k (strOfNums l) (addU l out (p + 3) q) (pre ++ (p : Int) :: ((P.map fun n : Nat => (n : Int)) ++ [(l.length : Int)])) ((pre.length + 1 : Nat) : Int)) R → Ev (fun k => impl_UnitsIn.l0 k (strOfNums l) out (pre ++ (p : Int) :: ((P.map fun n : Nat => (n : Int)) ++ [(l.length : Int)])) (pre.length : Int)) R := by
        intro q R hq h1 h2 h
        rw [← hw] at h
        have h3 := impl_strip_ev hb hl h4 (x := (pre.length : Int)) (f := p) (by omega) (by omega) hn (rd_mid pre _ (p : Int)) q h1 h2 h
        refine Ev.step (f := fun k => impl_UnitsIn.j1 k (strOfNums l) out (pre ++ (p : Int) :: ((P.map fun n : Nat => (n : Int)) ++ [(l.length : Int)])) (pre.length : Int) true) (fun k => ?_) (Ev.step (fun k => ?_) h3)
        · simp only [impl_UnitsIn.l0, hw]
          rw [if_pos (by omega), decide_eq_true (show (out.length : Int) < 400 by omega)]
        · simp only [impl_UnitsIn.j1, hw, if_true]
          rw [if_pos (by omega), if_pos (by omega), hq]
      cases P with
      | nil =>
        have hq : rd (pre ++ (p : Int) :: ((([] : List Nat).map fun n : Nat => (n : Int)) ++ [(l.length : Int)])) ((pre.length + 1 : Nat) : Int) = (l.length : Int) := by
          have := rd_mid (pre ++ [(p : Int)]) [] (l.length : Int)
          rw [← snoc_cons, List.length_append, List.length_singleton] at this
          exact this
        refine go l.length hq hr (Nat.le_refl _) ?_
        rw [runU]
        refine Ev.step (f := fun k => impl_UnitsIn.j1 k (strOfNums l) (addU l out (p + 3) l.length) (pre ++ (p : Int) :: ((([] : List Nat).map fun n : Nat => (n : Int)) ++ [(l.length : Int)])) ((pre.length + 1 : Nat) : Int) false) (fun k => ?_) (impl_end _ _ _ _)
        simp only [impl_UnitsIn.l0]
        rw [w64 (by omega) (by omega), if_neg (by rw [hlen]; simp only [List.length_nil]; omega)]
      | cons q P =>
        have hq : rd (pre ++ (p : Int) :: (((q :: P).map fun n : Nat => (n : Int)) ++ [(l.length : Int)])) ((pre.length + 1 : Nat) : Int) = (q : Int) := by
          have := rd_mid (pre ++ [(p : Int)]) ((P.map fun n : Nat => (n : Int)) ++ [(l.length : Int)]) (q : Int)
          rw [← snoc_cons, List.length_append, List.length_singleton] at this
          exact this
        have hle := Run.le P q hr.2
        refine go q hq hr.1 (by omega) ?_
        have ih := impl_units_loop hb hl P (pre ++ [(p : Int)]) q (addU l out (p + 3) q) (by rw [← snoc_cons]; exact hn) hr.2 (addU_len l out _ _ ho)
        rw [← snoc_cons, List.length_append, List.length_singleton] at ih
        exact ih
    · rw [runU_full l out h4]
      refine Ev.step (f := fun k => impl_UnitsIn.j1 k (strOfNums l) out (pre ++ (p : Int) :: ((P.map fun n : Nat => (n : Int)) ++ [(l.length : Int)])) (pre.length : Int) false) (fun k => ?_) (impl_end _ _ _ _)
      simp only [impl_UnitsIn.l0, hw]
      rw [if_pos (by omega), decide_eq_false (by omega)]
theorem impl_units_ev {l : List Int} (hb : Bys l) (hl : l.length ≤ 60000) : Ev (fun k => impl_UnitsIn.f k (strOfNums l)) (allU l (starts l (l.length + 1) 0)) := by
  have hp := starts_loop hb hl (l.length + 1) 0 [] (by omega) (Nat.le_refl _)
  have hsl := starts_len l (l.length + 1) 0
  unfold impl_UnitsIn.f impl_places.f
  simp only [Option.bind_some, str_size, if_neg (show ¬ (l.length : Int) > 60000 by omega)]
  refine Ev.bind hp ?_
  rw [List.nil_append]
  have hm : ((starts l (l.length + 1) 0).map fun n : Nat => (n : Int)).length = (starts l (l.length + 1) 0).length := List.length_map _
  simp only [hm, if_pos (show (starts l (l.length + 1) 0).length < 17592186044416 by omega)]
  have hin := starts_in l (l.length + 1) 0
  have hrun : ∀ p P, starts l (l.length + 1) 0 = p :: P → Run l p P := by
    have gen : ∀ d i p P, starts l d i = p :: P → Run l p P := by
      intro d
      induction d with
      | zero => intro i p P h; cases h
      | succ d ih =>
        intro i p P h
        rw [starts] at h
        split at h
        · rename_i hs
          injection h with h1 h2
          subst h1 h2
          exact starts_run d (i + 1) i hs (by omega)
        · exact ih (i + 1) p P h
    exact gen (l.length + 1) 0
  generalize starts l (l.length + 1) 0 = S at hsl hrun hm
  cases S with
  | nil =>
    refine Ev.step (f := fun k => impl_UnitsIn.j1 k (strOfNums l) [] [(l.length : Int)] 0 false) (fun k => ?_) (impl_end _ _ _ _)
    simp only [impl_UnitsIn.l0, List.map_nil, List.nil_append, List.length_singleton]
    rw [w64 (by decide) (by decide), if_neg (by decide)]
  | cons p P =>
    have := impl_units_loop hb hl P [] p [] (by simp at hsl ⊢; omega) (hrun p P rfl) (Nat.zero_le _)
    exact this
theorem une_esc : ∀ (l : List Int) (z : Nat), une z (esc z l) = l
  | [], _ => rfl
  | x :: l, z => by
    unfold esc
    by_cases h : x < 4 ∧ 2 ≤ z
    · rw [if_pos h, une, if_pos ⟨rfl, h.2⟩, une, if_neg (by omega), une_esc l]
    · rw [if_neg h, une, if_neg (by omega), une_esc l]
/-- No start in a text, behind z zeros. -/
def chk : Nat → List Int → Bool
  | _, [] => true
  | z, x :: l => !(decide (x < 3) && decide (2 ≤ z)) && chk (if x = 0 then z + 1 else 0) l
theorem chk_esc : ∀ (l : List Int) (z : Nat), chk z (esc z l) = true
  | [], _ => rfl
  | x :: l, z => by
    unfold esc
    by_cases h : x < 4 ∧ 2 ≤ z
    · rw [if_pos h, chk, chk]
      simp only [if_neg (show ¬ (3 : Int) = 0 by decide), Nat.zero_add]
      rw [chk_esc l]
      simp
    · rw [if_neg h, chk, chk_esc l]
      by_cases h3 : x < 3
      · rw [decide_eq_false (show ¬ 2 ≤ z by omega)]
        simp
      · rw [decide_eq_false h3]
        simp
theorem chk_get : ∀ (E : List Int) (z j : Nat), chk z E = true → j + 2 < E.length → ¬ (E.getD j 0 = 0 ∧ E.getD (j + 1) 0 = 0 ∧ E.getD (j + 2) 0 = 1)
  | [], _, _, _, h => by simp at h
  | x :: E, z, j + 1, hc, h => by
    rw [chk, Bool.and_eq_true] at hc
    have := chk_get E _ j hc.2 (by simp only [List.length_cons] at h; omega)
    simpa using this
  | [x], z, 0, _, h => by simp at h
  | [x, y], z, 0, _, h => by simp at h
  | x :: y :: w :: E, z, 0, hc, h => by
    rintro ⟨h1, h2, h3⟩
    simp only [List.getD_cons_zero, List.getD_cons_succ, Nat.zero_add] at h1 h2 h3
    subst h1 h2 h3
    rw [chk, chk, chk] at hc
    simp at hc
/-- The frame of units. -/
def frameL : List (List Int) → List Int
  | [] => []
  | u :: us => 0 :: 0 :: 1 :: (esc 0 u ++ frameL us)
/-- Where the units of a frame begin. -/
def posL : List (List Int) → Nat → List Nat
  | [], _ => []
  | u :: us, a => a :: posL us (a + 3 + (esc 0 u).length)
theorem esc_last_ne {u : List Int} (h : escOk u = true) : esc 0 u ≠ [] ∧ (esc 0 u).getD ((esc 0 u).length - 1) 0 ≠ 0 := by
  have h' : u ≠ [] ∧ u.length ≤ 60000 ∧ u.getLast? ≠ some 0 := of_decide_eq_true h
  obtain ⟨h1, _, h3⟩ := h'
  obtain ⟨t, x, rfl⟩ : ∃ t x, u = t ++ [x] := ⟨u.dropLast, u.getLast h1, (List.dropLast_concat_getLast h1).symm⟩
  have hx : x ≠ 0 := by
    rintro rfl
    exact h3 (by simp)
  have key : ∀ (t : List Int) (z : Nat), ∃ m, esc z (t ++ [x]) = m ++ [x] := by
    intro t
    induction t with
    | nil =>
      intro z
      rw [List.nil_append, esc]
      split
      · exact ⟨[3], by rw [esc]; rfl⟩
      · exact ⟨[], by rw [esc]; rfl⟩
    | cons y t ih =>
      intro z
      rw [List.cons_append, esc]
      split
      · obtain ⟨m, hm⟩ := ih (if y = 0 then 1 else 0)
        exact ⟨3 :: y :: m, by rw [hm]; rfl⟩
      · obtain ⟨m, hm⟩ := ih (if y = 0 then z + 1 else 0)
        exact ⟨y :: m, by rw [hm]; rfl⟩
  obtain ⟨m, hm⟩ := key t 0
  rw [hm]
  simp [hx]
theorem starts_skip {l : List Int} : ∀ (n d a : Nat), (∀ i, a ≤ i → i < a + n → isStart l i = false) → starts l (n + d) a = starts l d (a + n)
  | 0, d, a, _ => by rw [Nat.zero_add, Nat.add_zero]
  | n + 1, d, a, h => by
    rw [show n + 1 + d = (n + d) + 1 by omega, starts, h a (Nat.le_refl _) (by omega), if_neg (by decide), starts_skip n d (a + 1) (fun i h1 h2 => h i (by omega) (by omega)), show a + 1 + n = a + (n + 1) by omega]
theorem getD_at (pre m : List Int) (j : Nat) : (pre ++ m).getD (pre.length + j) 0 = m.getD j 0 := by
  rw [List.getD_eq_getElem?_getD, List.getD_eq_getElem?_getD, List.getElem?_append_right (by omega), Nat.add_sub_cancel_left]
theorem getD_in (m suf : List Int) {j : Nat} (h : j < m.length) : (m ++ suf).getD j 0 = m.getD j 0 := by
  rw [List.getD_eq_getElem?_getD, List.getD_eq_getElem?_getD, List.getElem?_append_left h]
theorem not_start {l : List Int} {i : Nat} (h : ¬ (l.getD i 0 = 0 ∧ l.getD (i + 1) 0 = 0 ∧ l.getD (i + 2) 0 = 1)) : isStart l i = false := by
  cases hs : isStart l i
  · rfl
  · exfalso
    unfold isStart at hs
    simp only [Bool.and_eq_true, beq_iff_eq] at hs
    exact h ⟨hs.2.1, hs.2.2.1, hs.2.2.2⟩
theorem no_start_in {pre suf u : List Int} (h : escOk u = true) : ∀ i, pre.length ≤ i → i < pre.length + (esc 0 u).length → isStart (pre ++ (esc 0 u ++ suf)) i = false := by
  intro i h1 h2
  obtain ⟨hne, hlast⟩ := esc_last_ne h
  have hp := List.length_pos_iff.2 hne
  have hc := chk_esc u 0
  obtain ⟨j, rfl⟩ : ∃ j, i = pre.length + j := ⟨i - pre.length, by omega⟩
  refine not_start ?_
  rw [Nat.add_assoc, Nat.add_assoc, getD_at, getD_at, getD_at, getD_in _ _ (by omega)]
  by_cases e1 : j + 2 < (esc 0 u).length
  · rw [getD_in _ _ (by omega), getD_in _ _ e1]
    exact chk_get _ 0 j hc e1
  · by_cases e2 : j + 1 < (esc 0 u).length
    · rw [getD_in _ _ e2]
      rintro ⟨_, g, _⟩
      rw [show j + 1 = (esc 0 u).length - 1 by omega] at g
      exact hlast g
    · rintro ⟨g, _, _⟩
      rw [show j = (esc 0 u).length - 1 by omega] at g
      exact hlast g
theorem starts_frame : ∀ (us : List (List Int)) (pre : List Int), (∀ u, u ∈ us → escOk u = true) → starts (pre ++ frameL us) ((frameL us).length + 1) pre.length = posL us pre.length
  | [], pre, _ => by
    rw [starts_nil _ _ (by simp [frameL])]
    rfl
  | u :: us, pre, h => by
    have hu := h u (List.mem_cons_self ..)
    have ih := starts_frame us (pre ++ (0 :: 0 :: 1 :: esc 0 u)) (fun v hv => h v (List.mem_cons_of_mem _ hv))
    have a1 : pre ++ (0 :: 0 :: 1 :: esc 0 u) ++ frameL us = pre ++ frameL (u :: us) := by simp [frameL]
    have a2 : (pre ++ [0, 0, 1]) ++ (esc 0 u ++ frameL us) = pre ++ frameL (u :: us) := by simp [frameL]
    have hl : (pre ++ (0 :: 0 :: 1 :: esc 0 u)).length = pre.length + 3 + (esc 0 u).length := by simp; omega
    rw [a1, hl] at ih
    have hfl : (frameL (u :: us)).length = 3 + (esc 0 u).length + (frameL us).length := by simp [frameL]; omega
    have g : ∀ j, (pre ++ frameL (u :: us)).getD (pre.length + j) 0 = (frameL (u :: us)).getD j 0 := getD_at pre _
    have s0 : isStart (pre ++ frameL (u :: us)) pre.length = true := by
      unfold isStart
      have g0 := g 0
      rw [Nat.add_zero] at g0
      rw [decide_eq_true (by rw [List.length_append, hfl]; omega), g0, g 1, g 2]
      rfl
    have s1 : isStart (pre ++ frameL (u :: us)) (pre.length + 1) = false := by
      refine not_start ?_
      rw [g 1, show pre.length + 1 + 1 = pre.length + 2 from rfl, g 2, show pre.length + 1 + 2 = pre.length + 3 from rfl, g 3]
      simp [frameL]
    have s2 : isStart (pre ++ frameL (u :: us)) (pre.length + 1 + 1) = false := by
      refine not_start ?_
      rw [show pre.length + 1 + 1 = pre.length + 2 from rfl, g 2, show pre.length + 2 + 1 = pre.length + 3 from rfl, g 3, show pre.length + 2 + 2 = pre.length + 4 from rfl, g 4]
      simp [frameL]
    have hin := no_start_in (pre := pre ++ [0, 0, 1]) (suf := frameL us) hu
    rw [a2, show (pre ++ [(0 : Int), 0, 1]).length = pre.length + 3 by simp] at hin
    rw [hfl, show 3 + (esc 0 u).length + (frameL us).length + 1 = ((((esc 0 u).length + ((frameL us).length + 1)) + 1) + 1) + 1 by omega, starts, s0, if_pos rfl, starts, s1, if_neg (by decide), starts, s2, if_neg (by decide), show pre.length + 1 + 1 + 1 = pre.length + 3 by omega, starts_skip _ _ _ hin, ih]
    rfl
theorem add_unit {l u : List Int} {out : List ByteArray} {f q : Nat} (h : escOk u = true) (hq : q = f + (esc 0 u).length) (hs : (l.take q).drop f = esc 0 u) (hl : q ≤ l.length) (ho : out.length < 400) : addU l out f q = out ++ [strOfNums u] := by
  obtain ⟨hne, hlast⟩ := esc_last_ne h
  have hp := List.length_pos_iff.2 hne
  have hg : l.getD (q - 1) 0 ≠ 0 := by
    have e : (esc 0 u).getD ((esc 0 u).length - 1) 0 = l.getD (q - 1) 0 := by
      rw [← hs, List.getD_eq_getElem?_getD, List.getD_eq_getElem?_getD, List.getElem?_drop, List.getElem?_take_of_lt (by rw [hs]; omega), hs]
      congr 2
      omega
    rw [← e]
    exact hlast
  have hst : strip l f q = q := by
    cases q with
    | zero => rfl
    | succ q =>
      rw [Nat.add_sub_cancel] at hg
      rw [strip, if_neg (fun hc => hg hc.2)]
  have hseg : seg l f q = esc 0 u := by
    unfold seg
    rw [hst, hs]
  have hr : uneRes (esc 0 u) u = (strOfNums u, true) := by
    unfold uneRes
    rw [if_pos ⟨h, rfl⟩]
  unfold addU
  rw [hseg, une_esc, hr, if_pos rfl, if_pos ho]
theorem run_frame : ∀ (us : List (List Int)) (u pre : List Int) (out : List ByteArray), (∀ v, v ∈ u :: us → escOk v = true) → out.length + us.length < 400 → runU (pre ++ frameL (u :: us)) out (pre.length + 3) (posL us (pre.length + 3 + (esc 0 u).length)) = out ++ (u :: us).map strOfNums
  | us, u, pre, out, h, ho => by
    have hu := h u (List.mem_cons_self ..)
    have a1 : pre ++ (0 :: 0 :: 1 :: esc 0 u) ++ frameL us = pre ++ frameL (u :: us) := by simp [frameL]
    have hl : (pre ++ (0 :: 0 :: 1 :: esc 0 u)).length = pre.length + 3 + (esc 0 u).length := by simp; omega
    have hs : ((pre ++ frameL (u :: us)).take (pre.length + 3 + (esc 0 u).length)).drop (pre.length + 3) = esc 0 u := by
      rw [← a1, List.take_left' hl, show pre ++ (0 :: 0 :: 1 :: esc 0 u) = (pre ++ [0, 0, 1]) ++ esc 0 u by simp, List.drop_left' (by simp)]
    have hle : pre.length + 3 + (esc 0 u).length ≤ (pre ++ frameL (u :: us)).length := by rw [← a1, List.length_append, hl]; omega
    have hadd := add_unit (out := out) hu rfl hs hle (by omega)
    cases us with
    | nil =>
      have e : (pre ++ frameL [u]).length = pre.length + 3 + (esc 0 u).length := by simp [frameL]; omega
      rw [posL, runU, e, hadd]
      rfl
    | cons v us =>
      have ih := run_frame us v (pre ++ (0 :: 0 :: 1 :: esc 0 u)) (out ++ [strOfNums u]) (fun w hw => h w (List.mem_cons_of_mem _ hw)) (by simp only [List.length_append, List.length_cons, List.length_nil] at ho ⊢; omega)
      rw [a1, hl] at ih
      rw [posL, runU, hadd, ih]
      simp
/-- A frame behind bytes that are not 0: its units come back. -/
theorem units_frame {us : List (List Int)} {pre : List Int} (h : ∀ u, u ∈ us → escOk u = true) (hn : us.length ≤ 400) (hp : ∀ x, x ∈ pre → x ≠ 0) : allU (pre ++ frameL us) (starts (pre ++ frameL us) ((pre ++ frameL us).length + 1) 0) = us.map strOfNums := by
  have hskip := starts_skip (l := pre ++ frameL us) pre.length ((frameL us).length + 1) 0 (fun i _ hi => by
    refine not_start ?_
    rintro ⟨g, _, _⟩
    rw [getD_in _ _ (by omega), List.getD_eq_getElem?_getD, List.getElem?_eq_getElem (by omega)] at g
    exact hp _ (List.getElem_mem _) g)
  rw [List.length_append, Nat.add_assoc, hskip, Nat.zero_add, starts_frame us pre h]
  cases us with
  | nil => rfl
  | cons u us =>
    have := run_frame us u pre [] h (by simp only [List.length_cons, List.length_nil] at hn ⊢; omega)
    rw [posL, allU, this]
    rfl
/-- The signs of a number, so many. -/
def sg : Nat → Int → List Int
  | 0, _ => []
  | w + 1, n => sg w (n / 2) ++ [48 + n % 2]
theorem sg_len : ∀ (w : Nat) (n : Int), (sg w n).length = w
  | 0, _ => rfl
  | w + 1, n => by simp [sg, sg_len w]
theorem sg_row : ∀ (w : Nat) (n : Int), ∀ x, x ∈ sg w n → x = 48 ∨ x = 49
  | 0, _ => fun _ h => by cases h
  | w + 1, n => fun x hx => by
    rcases List.mem_append.1 hx with h | h
    · exact sg_row w _ x h
    · have : x = 48 + n % 2 := by simpa using h
      omega
theorem sg_bys (w : Nat) (n : Int) : Bys (sg w n) := fun x hx => by
  rcases sg_row w n x hx with h | h <;> omega
theorem set_rep (j : Nat) (v : Int) (tl : List Int) : (List.replicate (j + 1) (0 : Int) ++ tl).set j v = List.replicate j 0 ++ v :: tl := by
  rw [List.replicate_succ', List.append_assoc, List.set_append_right _ _ (by simp)]
  simp
theorem bytesOf_str {l : List Int} (h : Bys l) : bytesOf (strOfNums l) = l := by
  unfold bytesOf
  rw [strOfNums_data, List.map_map]
  have : ∀ m : List Int, Bys m → m.map ((fun b : UInt8 => (b.toNat : Int)) ∘ fun n : Int => UInt8.ofNat n.toNat) = m := by
    intro m
    induction m with
    | nil => intro _; rfl
    | cons x m ih =>
      intro hm
      have hx := hm x (List.mem_cons_self ..)
      rw [List.map_cons, ih (fun y hy => hm y (List.mem_cons_of_mem _ hy))]
      congr 1
      simp only [Function.comp, UInt8.toNat_ofNat']
      omega
  exact this l h
/-- The bits of bytes, the highest first. -/
def bitsL : List Int → List Int
  | [] => []
  | x :: l => sg 8 x ++ bitsL l
theorem bitsL_len : ∀ l : List Int, (bitsL l).length = 8 * l.length
  | [] => rfl
  | x :: l => by rw [bitsL, List.length_append, sg_len, bitsL_len l, List.length_cons]; omega
theorem bitsL_row : ∀ (l : List Int), ∀ x, x ∈ bitsL l → x = 48 ∨ x = 49
  | [] => fun _ h => by cases h
  | y :: l => fun x hx => by
    rcases List.mem_append.1 hx with h | h
    · exact sg_row 8 y x h
    · exact bitsL_row l x h
theorem bitsL_append : ∀ (l m : List Int), bitsL (l ++ m) = bitsL l ++ bitsL m
  | [], m => rfl
  | x :: l, m => by rw [List.cons_append, bitsL, bitsL, bitsL_append l m, List.append_assoc]
theorem has_one : ∀ m : Fin 256, (m : Nat) ≠ 0 → (49 : Int) ∈ sg 8 ((m : Nat) : Int) := by decide +kernel
/-- A row with a one in it: what stands ahead of its last one, and the noughts behind it. -/
theorem last_one : ∀ M : List Int, (∀ x, x ∈ M → x = 48 ∨ x = 49) → (49 : Int) ∈ M → ∃ A z, M = A ++ 49 :: List.replicate z 48
  | [], _, h => by cases h
  | x :: M, hm, h => by
    by_cases h1 : (49 : Int) ∈ M
    · obtain ⟨A, z, e⟩ := last_one M (fun y hy => hm y (List.mem_cons_of_mem _ hy)) h1
      exact ⟨x :: A, z, by rw [e]; rfl⟩
    · have hx : x = 49 := by
        rcases List.mem_cons.1 h with h2 | h2
        · exact h2.symm
        · exact absurd h2 h1
      refine ⟨[], M.length, ?_⟩
      rw [List.nil_append, hx]
      congr 1
      refine List.eq_replicate_iff.2 ⟨rfl, fun y hy => ?_⟩
      rcases hm y (List.mem_cons_of_mem _ hy) with h2 | h2
      · exact h2
      · exact absurd (h2 ▸ hy) h1
theorem bits_last {l : List Int} (hb : Bys l) (h0 : l ≠ []) (h1 : l.getD (l.length - 1) 0 ≠ 0) : ∃ A z, bitsL l = A ++ 49 :: List.replicate z 48 := by
  refine last_one _ (bitsL_row l) ?_
  obtain ⟨m, x, rfl⟩ : ∃ m x, l = m ++ [x] := ⟨l.dropLast, l.getLast h0, (List.dropLast_concat_getLast h0).symm⟩
  have hx := hb x (List.mem_append_right _ (List.mem_singleton.2 rfl))
  rw [bitsL_append, bitsL, bitsL, List.append_nil]
  refine List.mem_append_right _ ?_
  obtain ⟨n, rfl⟩ := Int.eq_ofNat_of_zero_le hx.1
  have hn : n ≠ 0 := by
    intro h
    apply h1
    subst h
    simp
  exact has_one ⟨n, by omega⟩ hn
/-- BytesRow, told over numbers. -/
def rowOfBytes (A : List Int) : ByteArray × Bool := if 400000 < A.length then (⟨#[]⟩, false) else (strOfNums A, true)
theorem rd_pad {A : List Int} {z j : Nat} (hj : j ≤ z) : rd (A ++ 49 :: List.replicate z 48) ((A.length + j : Nat) : Int) = if j = 0 then 49 else 48 := by
  unfold rd
  rw [Int.toNat_natCast, List.getD_eq_getElem?_getD, List.getElem?_append_right (by omega), show A.length + j - A.length = j by omega]
  cases j with
  | zero => rfl
  | succ j => rw [List.getElem?_cons_succ, List.getElem?_replicate_of_lt (by omega)]; rfl
theorem take_pad (A : List Int) (z : Nat) : (A ++ 49 :: List.replicate z 48).take A.length = A := by
  rw [List.take_append_of_le_length (Nat.le_refl _), List.take_length]
theorem str_bytesOf (b : ByteArray) : strOfNums (bytesOf b) = b ∧ Bys (bytesOf b) := by
  obtain ⟨l, hb, rfl⟩ := nums_of b
  rw [bytesOf_str hb]
  exact ⟨rfl, hb⟩
/-- Framed, told over numbers. -/
def fr : List Int → List ByteArray → ByteArray × Bool
  | acc, [] => (strOfNums acc, true)
  | acc, u :: us => if escOk (bytesOf u) = true ∧ acc.length + 3 + (esc 0 (bytesOf u)).length ≤ 60000 then fr (acc ++ (0 :: 0 :: 1 :: esc 0 (bytesOf u))) us else (strOfNums [], false)
def frV (U : List ByteArray) : ByteArray × Bool := if 400 < U.length then (strOfNums [], false) else fr [] U
def finU (l : List Int) (U : List ByteArray) : List ByteArray × Bool := if (frV U).2 = true ∧ (frV U).1.toList = (strOfNums l).toList then (U, true) else ([], false)
theorem frame_bys : ∀ us : List (List Int), (∀ u, u ∈ us → Bys u) → Bys (frameL us)
  | [], _ => Bys.nil
  | u :: us, h => Bys.cons (by decide) (by decide) (Bys.cons (by decide) (by decide) (Bys.cons (by decide) (by decide) (Bys.append (esc_bys u 0 (h u (List.mem_cons_self ..))) (frame_bys us (fun v hv => h v (List.mem_cons_of_mem _ hv))))))
theorem fr_true : ∀ (U : List ByteArray) (acc : List Int), (fr acc U).2 = true → (∀ u, u ∈ U → escOk (bytesOf u) = true) ∧ (fr acc U).1 = strOfNums (acc ++ frameL (U.map bytesOf)) ∧ (acc.length ≤ 60000 → (acc ++ frameL (U.map bytesOf)).length ≤ 60000)
  | [], acc, _ => ⟨(fun u hu => by cases hu), by simp [fr, frameL], (fun h => by simpa [frameL] using h)⟩
  | u :: U, acc, h => by
    unfold fr at h ⊢
    by_cases hc : escOk (bytesOf u) = true ∧ acc.length + 3 + (esc 0 (bytesOf u)).length ≤ 60000
    · rw [if_pos hc] at h ⊢
      obtain ⟨i1, i2, i3⟩ := fr_true U _ h
      have e : acc ++ (0 :: 0 :: 1 :: esc 0 (bytesOf u)) ++ frameL (U.map bytesOf) = acc ++ frameL ((u :: U).map bytesOf) := by simp [frameL]
      rw [e] at i2 i3
      refine ⟨fun v hv => ?_, i2, fun _ => i3 (by simp only [List.length_append, List.length_cons]; omega)⟩
      rcases List.mem_cons.1 hv with rfl | hv
      · exact hc.1
      · exact i1 v hv
    · rw [if_neg hc] at h
      cases h
theorem fr_frame : ∀ (U : List ByteArray) (acc : List Int), (∀ u, u ∈ U → escOk (bytesOf u) = true) → (acc ++ frameL (U.map bytesOf)).length ≤ 60000 → fr acc U = (strOfNums (acc ++ frameL (U.map bytesOf)), true)
  | [], acc, _, _ => by simp [fr, frameL]
  | u :: U, acc, h, hl => by
    have e : acc ++ (0 :: 0 :: 1 :: esc 0 (bytesOf u)) ++ frameL (U.map bytesOf) = acc ++ frameL ((u :: U).map bytesOf) := by simp [frameL]
    have hl' := hl
    rw [← e, List.length_append, List.length_append] at hl'
    simp only [List.length_cons] at hl'
    rw [fr, if_pos ⟨h u (List.mem_cons_self ..), by omega⟩, fr_frame U _ (fun v hv => h v (List.mem_cons_of_mem _ hv)) (by rw [e]; exact hl), e]
/-- A text that is a frame. -/
def IsFrame (l : List Int) (U : List ByteArray) : Prop := U.length ≤ 400 ∧ (∀ u, u ∈ U → escOk (bytesOf u) = true) ∧ l = frameL (U.map bytesOf) ∧ l.length ≤ 60000
theorem fin_yes {l : List Int} {U : List ByteArray} (h : IsFrame l U) : finU l U = (U, true) := by
  obtain ⟨h1, h2, h3, h4⟩ := h
  have e := fr_frame U [] h2 (by rw [List.nil_append, ← h3]; exact h4)
  rw [List.nil_append, ← h3] at e
  have e2 : frV U = (strOfNums l, true) := by
    unfold frV
    rw [if_neg (by omega), e]
  unfold finU
  rw [e2, if_pos ⟨rfl, rfl⟩]
theorem fin_no {l : List Int} (hb : Bys l) {U : List ByteArray} (h : ¬ IsFrame l U) : finU l U = ([], false) := by
  unfold finU
  refine if_neg ?_
  rintro ⟨h1, h2⟩
  unfold frV at h1 h2
  by_cases h4 : 400 < U.length
  · rw [if_pos h4] at h1
    cases h1
  · rw [if_neg h4] at h1 h2
    obtain ⟨i1, i2, i3⟩ := fr_true U [] h1
    rw [List.nil_append] at i2 i3
    have hf : Bys (frameL (U.map bytesOf)) := frame_bys _ (fun u hu => by
      obtain ⟨b, _, rfl⟩ := List.mem_map.1 hu
      exact (str_bytesOf b).2)
    rw [i2, str_toList_inj hf hb] at h2
    exact h ⟨by omega, i1, h2.symm, by rw [← h2]; exact i3 (by simp)⟩
theorem frame_units {l : List Int} {U : List ByteArray} (h : IsFrame l U) : allU l (starts l (l.length + 1) 0) = U := by
  obtain ⟨h1, h2, h3, h4⟩ := h
  have := units_frame (us := U.map bytesOf) (pre := []) (fun u hu => by
    obtain ⟨b, hb, rfl⟩ := List.mem_map.1 hu
    exact h2 b hb) (by rw [List.length_map]; exact h1) (fun x hx => by cases hx)
  rw [List.nil_append, ← h3, List.map_map] at this
  rw [this]
  have e : (strOfNums ∘ bytesOf) = id := by
    funext b
    exact (str_bytesOf b).1
  rw [e, List.map_id]
theorem nat3 {n : Nat} (h : n ≤ 1000000) : wrap64 (((n : Int)) + 3) = ((n + 3 : Nat) : Int) := by rw [w64 (by omega) (by omega)]; rfl
theorem impl_framed_loop : ∀ (suf pre : List ByteArray) (acc : List Int), Bys acc → (pre ++ suf).length ≤ 400 → acc.length ≤ 60000 → (∀ u, u ∈ suf → u.size ≤ 60000) → Ev (fun k => impl_Framed.l0 k acc (pre ++ suf) ((pre ++ suf).length : Int) (pre.length : Int)) (fr acc suf)
  | [], pre, acc, hb, hl, ha, _ => by
    refine Ev.step (f := fun _ => some (strOfNums acc, true)) (fun k => ?_) (Ev.now _)
    simp only [impl_Framed.l0, List.append_nil]
    rw [if_neg (by omega)]
  | u :: suf, pre, acc, hb, hl, ha, hs => by
    have hll : (pre ++ u :: suf).length = pre.length + (suf.length + 1) := by simp
    obtain ⟨e, hub⟩ := str_bytesOf u
    have hsz := hs u (List.mem_cons_self ..)
    have hbl : (bytesOf u).length = u.size := bytesOf_length u
    have hel := esc_len (bytesOf u) 0
    have hbe := esc_bys (bytesOf u) 0 hub
    have hE : ∀ R, Ev (fun k => (impl_Escaped.f k (strOfNums (bytesOf u))).bind fun bt126 => (if bt126.2 = true then (if (wrap64 ((wrap64 ((acc.length : Int) + 3)) + (bt126.1.size : Int))) > 60000 then (some ((⟨#[]⟩ : ByteArray), false)) else ((some (([0, 0, 1] : List Int) : List Int)).bind fun y128 => (if acc.length + y128.length < 140737488355328 then ((some (acc ++ y128 : List Int)).bind fun y131 => (if y131.length + bt126.1.size < 140737488355328 then (impl_Framed.l0 k (y131 ++ bytesOf bt126.1) (pre ++ u :: suf) ((pre ++ u :: suf).length : Int) ((pre ++ [u]).length : Int)) else (none))) else (none)))) else (some ((⟨#[]⟩ : ByteArray), false)))) R → Ev (fun k => impl_Framed.l0 k acc (pre ++ u :: suf) ((pre ++ u :: suf).length : Int) (pre.length : Int)) R := by
      intro R hR
      refine Ev.step (fun k => ?_) hR
      simp only [impl_Framed.l0]
      rw [if_pos (by omega), if_pos (by omega), if_pos (by omega), srd_mid, e, snext_len pre u (by omega)]
    refine hE _ ?_
    rw [fr]
    by_cases hok : escOk (bytesOf u) = true
    · refine Ev.bind (impl_esc_yes hub hok) ?_
      simp only [if_true, str_size, nat3 (n := acc.length) (by omega), w64 (x := ((acc.length + 3 : Nat) : Int) + ((esc 0 (bytesOf u)).length : Int)) (by omega) (by omega), Option.bind_some]
      by_cases hc : acc.length + 3 + (esc 0 (bytesOf u)).length ≤ 60000
      · rw [if_pos ⟨hok, hc⟩]
        have a1 : acc ++ [0, 0, 1] ++ esc 0 (bytesOf u) = acc ++ (0 :: 0 :: 1 :: esc 0 (bytesOf u)) := by simp
        have ih := impl_framed_loop suf (pre ++ [u]) (acc ++ (0 :: 0 :: 1 :: esc 0 (bytesOf u))) (Bys.append hb (Bys.cons (by decide) (by decide) (Bys.cons (by decide) (by decide) (Bys.cons (by decide) (by decide) hbe)))) (by rw [← ssnoc]; exact hl) (by simp only [List.length_append, List.length_cons]; omega) (fun v hv => hs v (List.mem_cons_of_mem _ hv))
        rw [← ssnoc] at ih
        simp only [if_neg (show ¬ ((acc.length + 3 : Nat) : Int) + ((esc 0 (bytesOf u)).length : Int) > 60000 by omega), if_pos (show acc.length + ([0, 0, 1] : List Int).length < 140737488355328 by simp only [List.length_cons, List.length_nil]; omega), if_pos (show (acc ++ ([0, 0, 1] : List Int)).length + (esc 0 (bytesOf u)).length < 140737488355328 by simp only [List.length_append, List.length_cons, List.length_nil]; omega), bytesOf_str hbe, a1]
        exact ih
      · rw [if_neg (fun h => hc h.2)]
        simp only [if_pos (show ((acc.length + 3 : Nat) : Int) + ((esc 0 (bytesOf u)).length : Int) > 60000 by omega)]
        exact Ev.now _
    · rw [if_neg (fun h => hok h.1)]
      refine Ev.bind (impl_esc_no hub (by omega) (by simpa using hok)) ?_
      simp only [Bool.false_eq_true, if_false]
      exact Ev.now _
theorem impl_framed_ev {U : List ByteArray} (hU : U.length ≤ 100000) (hs : ∀ u, u ∈ U → u.size ≤ 60000) : Ev (fun k => impl_Framed.f k U) (frV U) := by
  unfold impl_Framed.f frV
  by_cases h : 400 < U.length
  · rw [if_pos h]
    simp only [if_pos (show (U.length : Int) > 400 by omega)]
    exact Ev.now _
  · rw [if_neg h]
    simp only [if_neg (show ¬ (U.length : Int) > 400 by omega)]
    exact impl_framed_loop U [] [] Bys.nil (by rw [List.nil_append]; omega) (by decide) hs
def pieceU (l : List Int) (f q : Nat) : List Int := (l.take q).drop f
def addF (l : List Int) (out : List ByteArray) (f q : Nat) : Option (List ByteArray) := if (uneRes (pieceU l f q) (une 0 (pieceU l f q))).2 = true then some (out ++ [(uneRes (pieceU l f q) (une 0 (pieceU l f q))).1]) else none
def runF (l : List Int) : List ByteArray → Nat → List Nat → Option (List ByteArray)
  | out, f, [] => addF l out f l.length
  | out, f, p :: P => match addF l out f p with | some o => runF l o (p + 3) P | none => none
def allF (l : List Int) : List Nat → Option (List ByteArray)
  | [] => some []
  | p :: P => runF l [] (p + 3) P
def resU (l : List Int) : Option (List ByteArray) → List ByteArray × Bool
  | some U => finU l U
  | none => ([], false)
theorem uneRes_size {t : List Int} (h : t.length ≤ 60000) : (uneRes t (une 0 t)).1.size ≤ 60000 := by
  unfold uneRes
  split
  · rw [str_size]
    have := une_len t 0
    omega
  · rw [str_size]; decide
theorem piece_len (l : List Int) (f q : Nat) : (pieceU l f q).length ≤ l.length := by
  unfold pieceU
  rw [List.length_drop, List.length_take]
  omega
theorem fin_ev {l : List Int} {U : List ByteArray} (hU : U.length ≤ 100000) (hs : ∀ u, u ∈ U → u.size ≤ 60000) : Ev (fun k => (impl_Framed.f k U).bind fun b => (if b.2 = true then (if b.1.toList = (strOfNums l).toList then (some (U, true)) else (some ((([] : List ByteArray)), false))) else (some ((([] : List ByteArray)), false)))) (finU l U) := by
  refine Ev.bind (impl_framed_ev hU hs) ?_
  unfold finU
  by_cases h1 : (frV U).2 = true
  · simp only [if_pos h1]
    by_cases h2 : (frV U).1.toList = (strOfNums l).toList
    · simp only [if_pos h2]
      rw [if_pos ⟨h1, h2⟩]
      exact Ev.now _
    · simp only [if_neg h2]
      rw [if_neg (fun h => h2 h.2)]
      exact Ev.now _
  · simp only [if_neg h1]
    rw [if_neg (fun h => h1 h.1)]
    exact Ev.now _
theorem unfr_loop {l : List Int} (hb : Bys l) (hl : l.length ≤ 60000) : ∀ (P : List Nat) (pre : List Int) (p : Nat) (out : List ByteArray), (pre ++ (p : Int) :: ((P.map fun n : Nat => (n : Int)) ++ [(l.length : Int)])).length ≤ 70000 → Run l p P → out.length = pre.length → (∀ u, u ∈ out → u.size ≤ 60000) →
    Ev (fun k => impl_Unframed.l0 k (strOfNums l) out (pre ++ (p : Int) :: ((P.map fun n : Nat => (n : Int)) ++ [(l.length : Int)])) (pre.length : Int)) (resU l (runF l out (p + 3) P))
  | P, pre, p, out, hn, hr, ho, hs => by
    have hlen : (pre ++ (p : Int) :: ((P.map fun n : Nat => (n : Int)) ++ [(l.length : Int)])).length = pre.length + (P.length + 1 + 1) := by simp
    have hw : wrap64 ((pre.length : Int) + 1) = ((pre.length + 1 : Nat) : Int) := by rw [w64 (by omega) (by omega)]; rfl
    have hrd := rd_mid pre ((P.map fun n : Nat => (n : Int)) ++ [(l.length : Int)]) (p : Int)
    have hle := Run.le P p hr
    have w3 : wrap64 ((p : Int) + 3) = ((p + 3 : Nat) : Int) := by rw [w64 (by omega) (by omega)]; rfl
    have go : ∀ (q : Nat) {R : List ByteArray × Bool}, rd (pre ++ (p : Int) :: ((P.map fun n : Nat => (n : Int)) ++ [(l.length : Int)])) ((pre.length + 1 : Nat) : Int) = (q : Int) → p + 3 ≤ q → q ≤ l.length →
        (match addF l out (p + 3) q with | some o => Ev (fun k => impl_Unframed.l0 k (strOfNums l) o (pre ++ (p : Int) :: ((P.map fun n : Nat => (n : Int)) ++ [(l.length : Int)])) ((pre.length + 1 : Nat) : Int)) R | none => R = ([], false)) →
        Ev (fun k => impl_Unframed.l0 k (strOfNums l) out (pre ++ (p : Int) :: ((P.map fun n : Nat => (n : Int)) ++ [(l.length : Int)])) (pre.length : Int)) R := by
      intro q R hq h1 h2 h
      have he : (strOfNums l).extract (p + 3) q = strOfNums (pieceU l (p + 3) q) := str_extract l _ _
      have hu := impl_une_ev (l := pieceU l (p + 3) q) ((hb.take _).drop _) (by have := piece_len l (p + 3) q; omega)
      refine Ev.step (f := fun k => (impl_Unescaped.f k (strOfNums (pieceU l (p + 3) q))).bind fun b => (if b.2 = true then (impl_Unframed.l0 k (strOfNums l) (out ++ [b.1]) (pre ++ (p : Int) :: ((P.map fun n : Nat => (n : Int)) ++ [(l.length : Int)])) ((pre.length + 1 : Nat) : Int)) else (some ((([] : List ByteArray)), false)))) (fun k => ?_) (Ev.bind hu ?_)
      · simp only [impl_Unframed.l0, hw, hq, hrd, w3, str_size]
        rw [if_pos (by omega), if_pos (by omega), if_pos (by omega), if_pos (by omega), if_pos (by omega), if_pos (by omega), if_pos (by omega), Int.toNat_natCast, Int.toNat_natCast, he]
        simp only [if_pos (show out.length < 8796093022208 by omega)]
      · unfold addF at h
        by_cases hok : (uneRes (pieceU l (p + 3) q) (une 0 (pieceU l (p + 3) q))).2 = true
        · rw [if_pos hok] at h
          simp only [if_pos hok]
          exact h
        · rw [if_neg hok] at h
          simp only [if_neg hok]
          rw [h]
          exact Ev.now _
    have hsz : ∀ q o, addF l out (p + 3) q = some o → o.length = pre.length + 1 ∧ ∀ u, u ∈ o → u.size ≤ 60000 := by
      intro q o h
      unfold addF at h
      split at h
      · injection h with h
        subst h
        refine ⟨by simp; omega, fun u hu => ?_⟩
        rcases List.mem_append.1 hu with hu | hu
        · exact hs u hu
        · rw [List.mem_singleton.1 hu]
          exact uneRes_size (by have := piece_len l (p + 3) q; omega)
      · cases h
    cases P with
    | nil =>
      have hq : rd (pre ++ (p : Int) :: ((([] : List Nat).map fun n : Nat => (n : Int)) ++ [(l.length : Int)])) ((pre.length + 1 : Nat) : Int) = (l.length : Int) := by
        have := rd_mid (pre ++ [(p : Int)]) [] (l.length : Int)
        rw [← snoc_cons, List.length_append, List.length_singleton] at this
        exact this
      refine go l.length hq hr (Nat.le_refl _) ?_
      rw [runF]
      cases h : addF l out (p + 3) l.length with
      | none => rfl
      | some o =>
        obtain ⟨g1, g2⟩ := hsz _ _ h
        refine Ev.step (fun k => ?_) (fin_ev (l := l) (U := o) (by rw [hlen] at hn; omega) g2)
        simp only [impl_Unframed.l0]
        rw [w64 (by omega) (by omega), if_neg (by rw [hlen]; simp only [List.length_nil]; omega)]
    | cons q P =>
      have hq : rd (pre ++ (p : Int) :: (((q :: P).map fun n : Nat => (n : Int)) ++ [(l.length : Int)])) ((pre.length + 1 : Nat) : Int) = (q : Int) := by
        have := rd_mid (pre ++ [(p : Int)]) ((P.map fun n : Nat => (n : Int)) ++ [(l.length : Int)]) (q : Int)
        rw [← snoc_cons, List.length_append, List.length_singleton] at this
        exact this
      have hle2 := Run.le P q hr.2
      refine go q hq hr.1 (by omega) ?_
      rw [runF]
      cases h : addF l out (p + 3) q with
      | none => rfl
      | some o =>
        obtain ⟨g1, g2⟩ := hsz _ _ h
        have ih := unfr_loop hb hl P (pre ++ [(p : Int)]) q o (by rw [← snoc_cons]; exact hn) hr.2 (by simp; omega) g2
        rw [← snoc_cons, List.length_append, List.length_singleton] at ih
        exact ih
  termination_by P => P.length
theorem addF_unit {l u : List Int} {out : List ByteArray} {f q : Nat} (h : escOk u = true) (hs : (l.take q).drop f = esc 0 u) : addF l out f q = some (out ++ [strOfNums u]) := by
  have hseg : pieceU l f q = esc 0 u := hs
  have hr : uneRes (esc 0 u) u = (strOfNums u, true) := by
    unfold uneRes
    rw [if_pos ⟨h, rfl⟩]
  unfold addF
  rw [hseg, une_esc, hr, if_pos rfl]
theorem runF_frame : ∀ (us : List (List Int)) (u pre : List Int) (out : List ByteArray), (∀ v, v ∈ u :: us → escOk v = true) → runF (pre ++ frameL (u :: us)) out (pre.length + 3) (posL us (pre.length + 3 + (esc 0 u).length)) = some (out ++ (u :: us).map strOfNums)
  | us, u, pre, out, h => by
    have hu := h u (List.mem_cons_self ..)
    have a1 : pre ++ (0 :: 0 :: 1 :: esc 0 u) ++ frameL us = pre ++ frameL (u :: us) := by simp [frameL]
    have hl : (pre ++ (0 :: 0 :: 1 :: esc 0 u)).length = pre.length + 3 + (esc 0 u).length := by simp; omega
    have hs : ((pre ++ frameL (u :: us)).take (pre.length + 3 + (esc 0 u).length)).drop (pre.length + 3) = esc 0 u := by
      rw [← a1, List.take_left' hl, show pre ++ (0 :: 0 :: 1 :: esc 0 u) = (pre ++ [0, 0, 1]) ++ esc 0 u by simp, List.drop_left' (by simp)]
    have hadd := addF_unit (out := out) hu hs
    cases us with
    | nil =>
      have e : (pre ++ frameL [u]).length = pre.length + 3 + (esc 0 u).length := by simp [frameL]; omega
      rw [posL, runF, e, hadd]
      rfl
    | cons v us =>
      have ih := runF_frame us v (pre ++ (0 :: 0 :: 1 :: esc 0 u)) (out ++ [strOfNums u]) (fun w hw => h w (List.mem_cons_of_mem _ hw))
      rw [a1, hl] at ih
      rw [posL, runF, hadd]
      dsimp only
      rw [ih]
      simp
theorem frame_all {l : List Int} {U : List ByteArray} (h : IsFrame l U) : allF l (starts l (l.length + 1) 0) = some U := by
  obtain ⟨h1, h2, h3, h4⟩ := h
  have hok : ∀ u, u ∈ U.map bytesOf → escOk u = true := fun u hu => by
    obtain ⟨b, hb, rfl⟩ := List.mem_map.1 hu
    exact h2 b hb
  have e : (strOfNums ∘ bytesOf) = id := by
    funext b
    exact (str_bytesOf b).1
  have hst := starts_frame (U.map bytesOf) [] hok
  rw [List.nil_append, ← h3, List.length_nil] at hst
  rw [hst]
  cases U with
  | nil => rfl
  | cons b U =>
    have := runF_frame (U.map bytesOf) (bytesOf b) [] [] hok
    rw [List.map_cons] at h3 ⊢
    rw [List.nil_append, ← h3, List.length_nil, List.nil_append, ← List.map_cons, List.map_map, e, List.map_id] at this
    rw [posL, allF]
    exact this
theorem impl_unframed_ev {l : List Int} (hb : Bys l) (hl : l.length ≤ 60000) : Ev (fun k => impl_Unframed.f k (strOfNums l)) (resU l (allF l (starts l (l.length + 1) 0))) := by
  have hp := starts_loop hb hl (l.length + 1) 0 [] (by omega) (Nat.le_refl _)
  have hsl := starts_len l (l.length + 1) 0
  unfold impl_Unframed.f impl_places.f
  simp only [Option.bind_some, str_size, if_neg (show ¬ (l.length : Int) > 60000 by omega)]
  refine Ev.bind hp ?_
  rw [List.nil_append]
  have hm : ((starts l (l.length + 1) 0).map fun n : Nat => (n : Int)).length = (starts l (l.length + 1) 0).length := List.length_map _
  simp only [hm, if_pos (show (starts l (l.length + 1) 0).length < 17592186044416 by omega)]
  have hrun : ∀ p P, starts l (l.length + 1) 0 = p :: P → Run l p P := by
    have gen : ∀ d i p P, starts l d i = p :: P → Run l p P := by
      intro d
      induction d with
      | zero => intro i p P h; cases h
      | succ d ih =>
        intro i p P h
        rw [starts] at h
        split at h
        · rename_i hs
          injection h with h1 h2
          subst h1 h2
          exact starts_run d (i + 1) i hs (by omega)
        · exact ih (i + 1) p P h
    exact gen (l.length + 1) 0
  generalize starts l (l.length + 1) 0 = S at hsl hrun hm
  cases S with
  | nil =>
    refine Ev.step (fun k => ?_) (fin_ev (l := l) (U := []) (by decide) (fun u hu => by cases hu))
    simp only [impl_Unframed.l0, List.map_nil, List.nil_append, List.length_singleton]
    rw [w64 (by decide) (by decide), if_neg (by decide)]
  | cons p P =>
    exact unfr_loop hb hl P [] p [] (by simp at hsl ⊢; omega) (hrun p P rfl) rfl (fun u hu => by cases hu)
theorem same_loop : ∀ (suf pre : List ByteArray), (pre ++ suf).length ≤ 1048576 → Ev (fun k => laws_sameTexts.l0 k (pre ++ suf) (pre ++ suf) (pre.length : Int)) true
  | [], pre, hl => by
    refine Ev.step (f := fun _ => some true) (fun k => ?_) (Ev.now _)
    simp only [laws_sameTexts.l0, List.append_nil]
    rw [if_neg (by omega)]
  | x :: suf, pre, hl => by
    have hll : (pre ++ x :: suf).length = pre.length + (suf.length + 1) := by simp
    have ih := same_loop suf (pre ++ [x]) (by rw [← ssnoc]; exact hl)
    rw [← ssnoc] at ih
    refine Ev.step (fun k => ?_) ih
    simp only [laws_sameTexts.l0, if_true]
    rw [if_pos (by omega), if_pos (by omega), if_pos (by omega), snext_len pre x (by omega)]
theorem same_ev {l : List ByteArray} (hl : l.length ≤ 1048576) : Ev (fun k => laws_sameTexts.f k l l) true := by
  unfold laws_sameTexts.f
  simp only [if_true]
  exact same_loop l [] hl
theorem unit_facts {u : ByteArray} (h : IsUnit u) : escOk (bytesOf u) = true ∧ u.size ≤ 21 ∧ (esc 0 (bytesOf u)).length ≤ 42 := by
  obtain ⟨t, rfl, hb, hl⟩ := h
  have hbt : Bys (t ++ [97]) := Bys.append hb (Bys.cons (by decide) (by decide) Bys.nil)
  have hlen : (t ++ [97]).length = t.length + 1 := by simp
  have he := esc_len (t ++ [97]) 0
  rw [bytesOf_str hbt, str_size]
  refine ⟨?_, by omega, by omega⟩
  unfold escOk
  exact decide_eq_true ⟨by simp, by omega, by simp⟩
theorem frame_len : ∀ U : List ByteArray, (∀ u, u ∈ U → IsUnit u) → (frameL (U.map bytesOf)).length ≤ 45 * U.length
  | [], _ => Nat.le_refl _
  | u :: U, h => by
    have h1 := unit_facts (h u (List.mem_cons_self ..))
    have ih := frame_len U (fun v hv => h v (List.mem_cons_of_mem _ hv))
    simp only [List.map_cons, frameL, List.length_cons, List.length_append]
    omega
theorem frame_ok {U : List ByteArray} (h : ∀ u, u ∈ U → IsUnit u) (hU : U.length ≤ 5) : IsFrame (frameL (U.map bytesOf)) U ∧ frV U = (strOfNums (frameL (U.map bytesOf)), true) ∧ Bys (frameL (U.map bytesOf)) ∧ (∀ u, u ∈ U → u.size ≤ 60000) := by
  have hl := frame_len U h
  have hok : ∀ u, u ∈ U → escOk (bytesOf u) = true := fun u hu => (unit_facts (h u hu)).1
  refine ⟨⟨by omega, hok, rfl, by omega⟩, ?_, frame_bys _ (fun u hu => by
    obtain ⟨b, _, rfl⟩ := List.mem_map.1 hu
    exact (str_bytesOf b).2), fun u hu => by have := (unit_facts (h u hu)).2.1; omega⟩
  unfold frV
  rw [if_neg (by omega), fr_frame U [] hok (by rw [List.nil_append]; omega), List.nil_append]
theorem units_back {U : List ByteArray} (h : ∀ u, u ∈ U → IsUnit u) (hU : U.length ≤ 5) {pre : List Int} (hp : ∀ x, x ∈ pre → x ≠ 0) (hb : Bys pre) (hl : pre.length ≤ 100) : Ev (fun k => impl_UnitsIn.f k (strOfNums (pre ++ frameL (U.map bytesOf)))) U := by
  obtain ⟨h1, _, h3, _⟩ := frame_ok h hU
  have hfl := frame_len U h
  have hi := impl_units_ev (l := pre ++ frameL (U.map bytesOf)) (Bys.append hb h3) (by rw [List.length_append]; omega)
  rw [units_frame (us := U.map bytesOf) (fun u hu => by
    obtain ⟨b, hb, rfl⟩ := List.mem_map.1 hu
    exact h1.2.1 b hb) (by rw [List.length_map]; omega) hp, List.map_map] at hi
  have e : (strOfNums ∘ bytesOf) = id := by
    funext b
    exact (str_bytesOf b).1
  rw [e, List.map_id] at hi
  exact hi
theorem frame_append : ∀ (A B : List (List Int)), frameL (A ++ B) = frameL A ++ frameL B
  | [], _ => rfl
  | a :: A, B => by simp [frameL, frame_append A B]
theorem units_nil (p : List Int) (s : List Int) (hs : s = []) : Ev (fun k => laws_FnUnits.j0 k [] p (strOfNums s) false) true := by
  subst hs
  refine Ev.step (f := fun _ => some true) (fun k => ?_) (Ev.now _)
  rw [laws_FnUnits.j0, if_neg Bool.false_ne_true, if_pos (show (([] : List ByteArray).length : Int) = 0 from rfl), str_toList]
  rfl
theorem less_len {U : List ByteArray} {i : Nat} (hilt : i < U.length) : (frameL ((U.take i ++ U.drop (i + 1)).map bytesOf)).length < (frameL (U.map bytesOf)).length := by
  have e : U = U.take i ++ (U[i]'hilt :: U.drop (i + 1)) := by
    rw [← List.drop_eq_getElem_cons hilt, List.take_append_drop]
  have e2 : frameL (U.map bytesOf) = frameL ((U.take i).map bytesOf) ++ frameL ((U[i]'hilt :: U.drop (i + 1)).map bytesOf) := by
    rw [← frame_append, ← List.map_append, ← e]
  rw [e2, List.map_append, frame_append]
  simp only [List.length_append, List.map_cons, frameL, List.length_cons]
  omega
theorem less_step (k : Nat) {U : List ByteArray} (hU : U.length ≤ 5) (p : List Int) (h12 : 2 < p.length) (s : ByteArray) {i : Nat} (hi : Int.tmod (rd p 2) (U.length : Int) = (i : Int)) (hilt : i < U.length) :
    laws_FnUnits.j0 (k + 1) U p s false = (impl_Framed.f k (U.take i ++ U.drop (i + 1))).bind fun b => (if b.2 = true then (if (b.1.size : Int) < (s.size : Int) then ((impl_UnitsIn.f k b.1).bind fun t => ((laws_sameTexts.f k t (U.take i ++ U.drop (i + 1))).bind fun s => (some s))) else (some false)) else (some false)) := by
  have t1 : (U.take i).length ≤ 5 := by rw [List.length_take]; omega
  have t2 : (U.drop (i + 1)).length ≤ 5 := by rw [List.length_drop]; omega
  have t3 : (U.take i ++ U.drop (i + 1)).length ≤ 10 := by rw [List.length_append]; omega
  have t4 : ((i : Int) + 1).toNat = i + 1 := by omega
  rw [laws_FnUnits.j0, if_neg Bool.false_ne_true, if_neg (by omega), if_pos (by omega), hi, w64 (x := (i : Int) + 1) (by omega) (by omega)]
  simp only [Option.bind_some, List.nil_append, List.length_nil, Nat.zero_add, Int.toNat_natCast, t4]
  rw [if_pos (by omega), if_pos (by omega), if_pos (by omega), if_pos (by omega), if_pos (by omega), if_pos (by omega), if_pos (by omega)]
theorem less_ev {U : List ByteArray} (hu : ∀ u, u ∈ U → IsUnit u) (hU : U.length ≤ 5) (h0 : U.length ≠ 0) (p : List Int) (h12 : 2 < p.length) (q2 : 0 ≤ rd p 2) : Ev (fun k => laws_FnUnits.j0 k U p (strOfNums (frameL (U.map bytesOf))) false) true := by
  have i0 : 0 ≤ Int.tmod (rd p 2) (U.length : Int) := Int.tmod_nonneg _ q2
  have i1 : Int.tmod (rd p 2) (U.length : Int) < (U.length : Int) := Int.tmod_lt_of_pos _ (by omega)
  obtain ⟨i, hi⟩ := Int.eq_ofNat_of_zero_le i0
  have hilt : i < U.length := by omega
  have hr : ∀ u, u ∈ U.take i ++ U.drop (i + 1) → IsUnit u := fun u hx => by
    rcases List.mem_append.1 hx with hx | hx
    · exact hu u (List.mem_of_mem_take hx)
    · exact hu u (List.mem_of_mem_drop hx)
  have hrl : (U.take i ++ U.drop (i + 1)).length ≤ 5 := by rw [List.length_append, List.length_take, List.length_drop]; omega
  obtain ⟨g1, g2, g3, g4⟩ := frame_ok hr hrl
  have hF2 := impl_framed_ev (by omega) g4
  rw [g2] at hF2
  have hb2 := units_back hr hrl (pre := []) (fun x hx => by cases hx) Bys.nil (by simp)
  rw [List.nil_append] at hb2
  have hlt := less_len hilt
  refine Ev.step (f := fun k => (impl_Framed.f k (U.take i ++ U.drop (i + 1))).bind fun b => (if b.2 = true then (if (b.1.size : Int) < ((strOfNums (frameL (U.map bytesOf))).size : Int) then ((impl_UnitsIn.f k b.1).bind fun t => ((laws_sameTexts.f k t (U.take i ++ U.drop (i + 1))).bind fun s => (some s))) else (some false)) else (some false))) (fun k => less_step k hU p h12 _ hi hilt) (Ev.bind hF2 ?_)
  simp only [if_true, str_size, if_pos (show ((frameL ((U.take i ++ U.drop (i + 1)).map bytesOf)).length : Int) < ((frameL (U.map bytesOf)).length : Int) by omega)]
  exact Ev.bind hb2 (Ev.bind (same_ev (by omega)) (Ev.now _))
theorem tail_ev {U : List ByteArray} (hu : ∀ u, u ∈ U → IsUnit u) (hU : U.length ≤ 5) (p : List Int) (h12 : 2 < p.length) (q2 : 0 ≤ rd p 2) : Ev (fun k => laws_FnUnits.j0 k U p (strOfNums (frameL (U.map bytesOf))) false) true := by
  by_cases h0 : U.length = 0
  · have hU0 : U = [] := List.eq_nil_of_length_eq_zero h0
    subst hU0
    exact units_nil p _ rfl
  · exact less_ev hu hU h0 p h12 q2
theorem units_law {U : List ByteArray} (hu : ∀ u, u ∈ U → IsUnit u) (hU : U.length ≤ 5) (p : List Int) (h12 : 2 < p.length) (x y : Int) (hx : 1 ≤ x ∧ x < 256) (hy : 1 ≤ y ∧ y < 256) (hxe : wrap64 (1 + Int.tmod (rd p 0) 255) % 256 = x) (hye : wrap64 (1 + Int.tmod (rd p 1) 255) % 256 = y) (q2 : 0 ≤ rd p 2) :
    Ev (fun k => (impl_Framed.f k U).bind fun bt292 => ((impl_Unframed.f k bt292.1).bind fun bt294 => (if 0 < (p.length : Int) then (if 1 < (p.length : Int) then ((some (([(wrap64 (1 + (Int.tmod (rd p 0) 255))) % 256, (wrap64 (1 + (Int.tmod (rd p 1) 255))) % 256] : List Int) : List Int)).bind fun y300 => (if bt292.2 = true then (if bt294.2 = true then ((laws_sameTexts.f k bt294.1 U).bind fun t303 => (if t303 = true then (if (strOfNums y300).size + bt292.1.size ≤ 9223372036854775807 then ((impl_UnitsIn.f k ((strOfNums y300) ++ bt292.1)).bind fun t304 => ((laws_sameTexts.f k t304 U).bind fun t307 => (laws_FnUnits.j0 k U p bt292.1 (!t307)))) else (none)) else (laws_FnUnits.j0 k U p bt292.1 true))) else (laws_FnUnits.j0 k U p bt292.1 true)) else (laws_FnUnits.j0 k U p bt292.1 true))) else (none)) else (none)))) true := by
  obtain ⟨f1, f2, f3, f4⟩ := frame_ok hu hU
  have hfl := frame_len U hu
  have hF := impl_framed_ev (by omega) f4
  rw [f2] at hF
  have hun := impl_unframed_ev f3 f1.2.2.2
  rw [frame_all f1, resU, fin_yes f1] at hun
  refine Ev.bind hF (Ev.bind hun ?_)
  have hpre : ∀ z, z ∈ [x, y] → 1 ≤ z ∧ z < 256 := by
    intro z hz
    rcases List.mem_cons.1 hz with rfl | hz
    · exact hx
    · rw [List.mem_singleton.1 hz]
      exact hy
  have hback := units_back hu hU (pre := [x, y]) (fun z hz => by have := hpre z hz; omega) (fun z hz => by have := hpre z hz; omega) (by simp)
  rw [hxe, hye]
  have hsz : (strOfNums [x, y]).size + (strOfNums (frameL (U.map bytesOf))).size ≤ 9223372036854775807 := by
    rw [str_size, str_size, List.length_cons, List.length_cons, List.length_nil]
    omega
  have hc0 : (0 : Int) < (p.length : Int) := by omega
  have hc1 : (1 : Int) < (p.length : Int) := by omega
  simp only [if_pos hc0, if_pos hc1, Option.bind_some, if_true, if_pos hsz]
  refine Ev.bind (same_ev (by omega)) ?_
  simp only [if_true, str_append]
  refine Ev.bind hback (Ev.bind (same_ev (by omega)) ?_)
  exact tail_ev hu hU p h12 q2
theorem FnUnits : laws_FnUnits.Pure := by
  intro l hl _ _
  refine Ev.rounds ?_
  unfold laws_FnUnits.f laws_big.f
  simp only [Option.bind_some]
  by_cases hbig : (l.length : Int) > 1048576
  · rw [decide_eq_true hbig]
    exact Ev.now _
  · rw [decide_eq_false hbig]
    simp only [Bool.false_eq_true, if_false]
    obtain ⟨U, hd, hU, hu⟩ := units_ev hl
    obtain ⟨p, hp, h12, hpx⟩ := places_ev hl
    have q0 : 0 ≤ rd p 0 ∧ rd p 0 < 10000 := place_at h12 hpx (i := 0) (by decide)
    have q1 : 0 ≤ rd p 1 ∧ rd p 1 < 10000 := place_at h12 hpx (i := 1) (by decide)
    have q2 : 0 ≤ rd p 2 ∧ rd p 2 < 10000 := place_at h12 hpx (i := 2) (by decide)
    have m0 : 0 ≤ Int.tmod (rd p 0) 255 := Int.tmod_nonneg _ q0.1
    have m1 : Int.tmod (rd p 0) 255 < 255 := Int.tmod_lt_of_pos _ (by decide)
    have m2 : 0 ≤ Int.tmod (rd p 1) 255 := Int.tmod_nonneg _ q1.1
    have m3 : Int.tmod (rd p 1) 255 < 255 := Int.tmod_lt_of_pos _ (by decide)
    refine Ev.bind hd (Ev.bind hp ?_)
    have hc : ([] : List ByteArray).length + U.length < 8796093022208 := by rw [List.length_nil]; omega
    simp only [Option.bind_some, if_pos hc, List.nil_append]
    exact units_law hu hU p (by omega) _ _ (by rw [w64 (x := 1 + Int.tmod (rd p 0) 255) (by omega) (by omega), Int.emod_eq_of_lt (a := 1 + Int.tmod (rd p 0) 255) (by omega) (by omega)]; omega) (by rw [w64 (x := 1 + Int.tmod (rd p 1) 255) (by omega) (by omega), Int.emod_eq_of_lt (a := 1 + Int.tmod (rd p 1) 255) (by omega) (by omega)]; omega) rfl rfl q2.1

end Go.Proofs.Ytjcpapjochlndaa.Pure
