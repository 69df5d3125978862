/- Hex and Unhex, Decimal and ReadDecimal take each other back, and Brought lies within its bounds. -/
import Derived.Test.YtmidnldhfidlkaaQFnFiguresx4
set_option linter.unusedVariables false
set_option linter.unusedSimpArgs false
namespace Go.Proofs.Ytmidnldhfidlkaa.Pure
open Go.RowKit Go.Proofs.Ytmidnldhfidlkaa.QFnFigures Go.Proofs.YtmidnldhfidlkaaW.PrintWords Go.Proofs.YtmidnldhfidlkaaW.PrintLast Go.Proofs.YtmidnldhfidlkaaW.PrintMore

/-! ### Bytes as lists of numbers, and some plain facts -/
theorem w64 {x : Int} (h0 : -9223372036854775808 ≤ x) (h1 : x ≤ 9223372036854775807) : wrap64 x = x := by
  unfold wrap64
  omega
theorem i64_bounds {x : Int} (h : (Lit.int .i64 x).wf = true) : -9223372036854775808 ≤ x ∧ x ≤ 9223372036854775807 := by
  have e := h
  simp [Lit.wf, IntKind.min, IntKind.max, IntKind.signed, IntKind.bits] at e
  omega
/-- All numbers of the list are bytes. -/
def Bys (l : List Int) : Prop := ∀ x, x ∈ l → 0 ≤ x ∧ x < 256
theorem Bys.nil : Bys [] := fun _ h => by cases h
theorem Bys.cons {x : Int} {l : List Int} (h0 : 0 ≤ x) (h1 : x < 256) (h : Bys l) : Bys (x :: l) := fun y hy => by
  rcases List.mem_cons.1 hy with rfl | hy
  · exact ⟨h0, h1⟩
  · exact h y hy
theorem Bys.append {l m : List Int} (h : Bys l) (h' : Bys m) : Bys (l ++ m) := fun y hy => by
  rcases List.mem_append.1 hy with hy | hy
  · exact h y hy
  · exact h' y hy
theorem Bys.left {l m : List Int} (h : Bys (l ++ m)) : Bys l := fun y hy => h y (List.mem_append_left _ hy)
theorem Bys.right {l m : List Int} (h : Bys (l ++ m)) : Bys m := fun y hy => h y (List.mem_append_right _ hy)
theorem Bys.take {l : List Int} (h : Bys l) (n : Nat) : Bys (l.take n) := fun y hy => h y (List.mem_of_mem_take hy)
theorem Bys.drop {l : List Int} (h : Bys l) (n : Nat) : Bys (l.drop n) := fun y hy => h y (List.mem_of_mem_drop hy)
theorem Bys.getD {l : List Int} (h : Bys l) (i : Nat) : 0 ≤ l.getD i 0 ∧ l.getD i 0 < 256 := by
  rw [List.getD_eq_getElem?_getD]
  by_cases hi : i < l.length
  · rw [List.getElem?_eq_getElem hi]
    exact h _ (List.getElem_mem hi)
  · rw [List.getElem?_eq_none (by omega)]
    exact ⟨by decide, by decide⟩
theorem nums_of (a : ByteArray) : ∃ l, Bys l ∧ a = strOfNums l := by
  refine ⟨a.data.toList.map fun u => (u.toNat : Int), ?_, ?_⟩
  · intro x hx
    obtain ⟨u, _, rfl⟩ := List.mem_map.1 hx
    have := u.toNat_lt
    omega
  · unfold strOfNums
    rw [List.map_map]
    have e : ((fun n : Int => UInt8.ofNat n.toNat) ∘ fun u : UInt8 => (u.toNat : Int)) = id := by
      funext u
      simp
    rw [e, List.map_id]
theorem str_size (l : List Int) : (strOfNums l).size = l.length := strOfNums_size l
theorem bt_str {l : List Int} (h : Bys l) (i : Int) : bt (strOfNums l) i = l.getD i.toNat 0 := by
  unfold bt
  rw [List.getD_eq_getElem?_getD]
  split
  · rename_i hi
    have hi' : i.toNat < l.length := by rw [← str_size]; exact hi
    rw [List.getElem?_eq_getElem hi']
    have hb := h _ (List.getElem_mem hi')
    have e : (strOfNums l)[i.toNat]'hi = UInt8.ofNat (l[i.toNat]).toNat := by
      simp [strOfNums, ByteArray.getElem_eq_getElem_data]
    rw [e, UInt8.toNat_ofNat']
    simp only [Option.getD_some]
    omega
  · rename_i hi
    rw [List.getElem?_eq_none (by rw [← str_size]; omega)]
    rfl
theorem bt_get {l : List Int} (h : Bys l) {i : Int} {n : Nat} (hi : i = (n : Int)) : bt (strOfNums l) i = l.getD n 0 := by
  rw [bt_str h, hi, Int.toNat_natCast]
theorem str_append (l m : List Int) : strOfNums l ++ strOfNums m = strOfNums (l ++ m) := by
  apply ByteArray.ext
  rw [ByteArray.data_append]
  unfold strOfNums
  simp
theorem str_empty : (⟨#[]⟩ : ByteArray) = strOfNums [] := rfl
theorem str_inj {l m : List Int} (hl : Bys l) (hm : Bys m) (h : strOfNums l = strOfNums m) : l = m := by
  have hs : l.length = m.length := by rw [← str_size l, ← str_size m, h]
  apply List.ext_getElem hs
  intro i h1 h2
  have e1 := bt_get hl (i := (i : Int)) rfl
  have e2 := bt_get hm (i := (i : Int)) rfl
  rw [h, e2] at e1
  simp [List.getD_eq_getElem?_getD, h1, h2] at e1
  exact e1.symm
theorem str_extract (l : List Int) (i j : Nat) : (strOfNums l).extract i j = strOfNums ((l.take j).drop i) := by
  apply ByteArray.ext
  rw [ByteArray.data_extract]
  unfold strOfNums
  apply Array.ext'
  simp [List.extract_eq_take_drop, List.drop_take, List.map_drop, List.map_take]
theorem getD_mid (pre suf : List Int) (x : Int) : (pre ++ x :: suf).getD pre.length 0 = x := by
  rw [List.getD_eq_getElem?_getD, List.getElem?_append_right (Nat.le_refl _)]
  simp
theorem bt_mid {pre suf : List Int} {x : Int} (h : Bys (pre ++ x :: suf)) : bt (strOfNums (pre ++ x :: suf)) (pre.length : Int) = x := by
  rw [bt_get h rfl, getD_mid]
theorem rd_mid (pre suf : List Int) (x : Int) : rd (pre ++ x :: suf) (pre.length : Int) = x := by
  unfold rd
  rw [Int.toNat_natCast, getD_mid]
theorem snoc_cons (pre suf : List Int) (x : Int) : pre ++ x :: suf = (pre ++ [x]) ++ suf := by simp
theorem next_len (pre : List Int) (x : Int) (h : pre.length < 4611686018427387904) : wrap64 ((pre.length : Int) + 1) = ((pre ++ [x]).length : Int) := by
  rw [w64 (by omega) (by omega)]
  simp
theorem lt_mid (pre suf : List Int) (x : Int) : (pre.length : Int) < ((strOfNums (pre ++ x :: suf)).size : Int) := by
  rw [str_size]
  simp
  omega
theorem ge_end (pre : List Int) : ¬ ((pre.length : Int) < ((strOfNums pre).size : Int)) := by
  rw [str_size]
  omega
theorem mid_byte {pre suf : List Int} {x : Int} (h : Bys (pre ++ x :: suf)) : 0 ≤ x ∧ x < 256 := h x (by simp)
theorem exact_sb {g h : Nat → Option (ByteArray × Bool)} {v : ByteArray × Bool} (hg : Ev g v) (hh : Ev h v) :
    Ev (fun k => (g k).bind fun b1 => (h k).bind fun b2 => if b2.1.toList = b1.1.toList then (if (b2.2 != b1.2) = true then some false else some true) else some false) true := by
  refine Ev.bind hg (Ev.bind hh ?_)
  simp only [if_true, bne_self_eq_false, Bool.false_eq_true, if_false]
  exact Ev.now _
theorem exact_i {g h : Nat → Option Int} {v : Int} (hg : Ev g v) (hh : Ev h v) :
    Ev (fun k => (g k).bind fun b1 => (h k).bind fun b2 => if b2 = b1 then some true else some false) true := by
  refine Ev.bind hg (Ev.bind hh ?_)
  simp only [if_true]
  exact Ev.now _
theorem exact_s {g h : Nat → Option ByteArray} {v : ByteArray} (hg : Ev g v) (hh : Ev h v) :
    Ev (fun k => (g k).bind fun b1 => (h k).bind fun b2 => if b2.toList = b1.toList then some true else some false) true := by
  refine Ev.bind hg (Ev.bind hh ?_)
  simp only [if_true]
  exact Ev.now _
theorem exact_ib {g h : Nat → Option (Int × Bool)} {v : Int × Bool} (hg : Ev g v) (hh : Ev h v) :
    Ev (fun k => (g k).bind fun b1 => (h k).bind fun b2 => if b2.1 = b1.1 then (if (b2.2 != b1.2) = true then some false else some true) else some false) true := by
  refine Ev.bind hg (Ev.bind hh ?_)
  simp only [if_true, bne_self_eq_false, Bool.false_eq_true, if_false]
  exact Ev.now _
theorem exact_iib {g h : Nat → Option (Int × Int × Bool)} {v : Int × Int × Bool} (hg : Ev g v) (hh : Ev h v) :
    Ev (fun k => (g k).bind fun b1 => (h k).bind fun b2 => if b2.1 = b1.1 then (if b2.2.1 = b1.2.1 then (if (b2.2.2 != b1.2.2) = true then some false else some true) else some false) else some false) true := by
  refine Ev.bind hg (Ev.bind hh ?_)
  simp only [if_true, bne_self_eq_false, Bool.false_eq_true, if_false]
  exact Ev.now _
theorem exact_b {g h : Nat → Option Bool} {v : Bool} (hg : Ev g v) (hh : Ev h v) :
    Ev (fun k => (g k).bind fun b1 => (h k).bind fun b2 => if (b2 != b1) = true then some false else some true) true := by
  refine Ev.bind hg (Ev.bind hh ?_)
  simp only [bne_self_eq_false, Bool.false_eq_true, if_false]
  exact Ev.now _
theorem ev_now {α : Type} {g : Nat → Option α} {v : α} (h : ∀ k, g k = some v) : Ev g v := Ev.congr h (Ev.now v)
theorem and255 (x : Int) : 0 ≤ Go.bits .and .i64 x 255 ∧ Go.bits .and .i64 x 255 ≤ 255 := by
  have h : ((BitVec.ofInt 64 x) &&& (BitVec.ofInt 64 255)).toNat ≤ 255 := by
    rw [BitVec.toNat_and]
    exact Nat.le_trans Nat.and_le_right (by decide)
  have e : Go.bits .and .i64 x 255 = ((((BitVec.ofInt 64 x) &&& (BitVec.ofInt 64 255)).toNat : Nat) : Int) := by
    show IntKind.i64.wrap ((((BitVec.ofInt 64 x) &&& (BitVec.ofInt 64 255)).toNat : Nat) : Int) = _
    rw [IntKind.wrap_i64]
    omega
  omega
/-- A byte is drawn. -/
theorem byte_ev {l : List Int} {a : Int} (n : Int) (h0 : 0 ≤ a) (hl : l.length ≤ maxLen) : ∃ v a' n', spec_l01Byte.f l a n = some (v, a', n') ∧ 0 ≤ v ∧ v ≤ 255 ∧ 0 ≤ a' := by
  have hm : maxLen ≤ 9223372036854775807 := by decide
  unfold spec_l01Byte.f
  by_cases h : a < (l.length : Int)
  · rw [if_pos h, if_pos h0]
    exact ⟨_, _, _, rfl, (and255 _).1, (and255 _).2, by rw [w64 (by omega) (by omega)]; omega⟩
  · rw [if_neg h]
    exact ⟨_, _, _, rfl, (and255 _).1, (and255 _).2, h0⟩
/-- A number below another is drawn. -/
theorem below_ev {l : List Int} {a : Int} (n : Int) {m : Int} (h0 : 0 ≤ a) (hl : l.length ≤ maxLen) (hm : 0 < m) : ∃ v a' n', spec_l01Below.f l a n m = some (v, a', n') ∧ 0 ≤ v ∧ v < m ∧ 0 ≤ a' := by
  unfold spec_l01Below.f
  rw [if_neg (by omega)]
  obtain ⟨v1, a1, n1, e1, l1, u1, p1⟩ := byte_ev n h0 hl
  by_cases h : m ≤ 256
  · rw [if_pos h, e1]
    simp only [Option.bind_some, if_neg (show ¬ m = 0 by omega)]
    refine ⟨_, _, _, rfl, ?_, ?_, p1⟩
    · exact Int.tmod_nonneg _ l1
    · exact Int.tmod_lt_of_pos _ hm
  · obtain ⟨v2, a2, n2, e2, l2, u2, p2⟩ := byte_ev n1 p1 hl
    obtain ⟨v3, a3, n3, e3, l3, u3, p3⟩ := byte_ev n2 p2 hl
    obtain ⟨v4, a4, n4, e4, l4, u4, p4⟩ := byte_ev n3 p3 hl
    rw [if_neg h, e1]
    simp only [Option.bind_some, e2, e3, e4, if_neg (show ¬ m = 0 by omega)]
    rw [w64 (x := v1 * 16777216) (by omega) (by omega), w64 (x := v2 * 65536) (by omega) (by omega), w64 (x := v3 * 256) (by omega) (by omega), w64 (x := v1 * 16777216 + v2 * 65536) (by omega) (by omega), w64 (x := v1 * 16777216 + v2 * 65536 + v3 * 256) (by omega) (by omega), w64 (x := v1 * 16777216 + v2 * 65536 + v3 * 256 + v4) (by omega) (by omega)]
    refine ⟨_, _, _, rfl, ?_, ?_, p4⟩
    · exact Int.tmod_nonneg _ (by omega)
    · exact Int.tmod_lt_of_pos _ hm
theorem new_loop {l : List Int} (hl : l.length ≤ maxLen) : ∀ (d i : Nat) (h : Int), i + d = min l.length 4000 → ∃ s, Ev (fun k => spec_l01New.l0 k l h (i : Int)) (l, 0, s)
  | 0, i, h, hi => by
    refine ⟨h, Ev.step (f := fun _ => some (l, 0, h)) (fun k => ?_) (Ev.now _)⟩
    simp only [spec_l01New.l0]
    by_cases h1 : (i : Int) < (l.length : Int)
    · rw [if_pos h1, if_neg (by omega)]
    · rw [if_neg h1]
  | d + 1, i, h, hi => by
    obtain ⟨s, hs⟩ := new_loop hl d (i + 1) (Go.bits .and .i64 (wrap64 ((wrap64 ((wrap64 (h * 131)) + (wrap64 (rd l (i : Int))))) + 7)) 1073741823) (by omega)
    refine ⟨s, Ev.step (fun k => ?_) hs⟩
    simp only [spec_l01New.l0]
    rw [if_pos (by omega), if_pos (by omega), if_pos (by omega), w64 (x := (i : Int) + 1) (by omega) (by omega)]
    rfl
theorem new_ev {l : List Int} (hl : l.length ≤ maxLen) : ∃ s, Ev (fun k => spec_l01New.f k l) (l, 0, s) := by
  unfold spec_l01New.f
  exact new_loop hl (min l.length 4000) 0 _ (by omega)
theorem places_loop {l : List Int} (hl : l.length ≤ maxLen) : ∀ (d i : Nat) (acc : List Int) (a n : Int), i + d = 12 → acc.length = i → 0 ≤ a → (∀ x, x ∈ acc → 0 ≤ x ∧ x < 10000) → ∃ p, Ev (fun k => spec_DrawPlaces.l0 k acc (i : Int) l a n) p ∧ p.length = 12 ∧ ∀ x, x ∈ p → 0 ≤ x ∧ x < 10000
  | 0, i, acc, a, n, hi, ha, h0, hx => by
    refine ⟨acc, Ev.step (f := fun _ => some acc) (fun k => ?_) (Ev.now _), by omega, hx⟩
    simp only [spec_DrawPlaces.l0]
    rw [if_neg (by omega)]
  | d + 1, i, acc, a, n, hi, ha, h0, hx => by
    obtain ⟨v, a', n', e, v0, v1, p1⟩ := below_ev n h0 hl (show (0 : Int) < 10000 by decide)
    obtain ⟨p, hp, hlen, hq⟩ := places_loop hl d (i + 1) (acc ++ [v]) a' n' (by omega) (by simp; omega) p1 (fun x h => by
      rcases List.mem_append.1 h with h | h
      · exact hx x h
      · rw [List.mem_singleton.1 h]
        exact ⟨v0, v1⟩)
    refine ⟨p, Ev.step (fun k => ?_) hp, hlen, hq⟩
    simp only [spec_DrawPlaces.l0]
    rw [if_pos (by omega), e]
    simp only [Option.bind_some, if_pos (show acc.length < 17592186044416 by omega)]
    rw [w64 (x := (i : Int) + 1) (by omega) (by omega)]
    rfl
theorem places_ev {l : List Int} (hl : l.length ≤ maxLen) : ∃ p, Ev (fun k => spec_DrawPlaces.f k l) p ∧ p.length = 12 ∧ ∀ x, x ∈ p → 0 ≤ x ∧ x < 10000 := by
  obtain ⟨s, hs⟩ := new_ev hl
  obtain ⟨v, a', n', e, _, _, p1⟩ := byte_ev (a := 0) s (by decide) hl
  obtain ⟨p, hp, h1, h2⟩ := places_loop hl 12 0 [] a' n' rfl rfl p1 (fun x h => by cases h)
  refine ⟨p, ?_, h1, h2⟩
  unfold spec_DrawPlaces.f
  refine Ev.bind hs ?_
  simp only [e, Option.bind_some]
  exact hp
theorem place_at {p : List Int} (h1 : p.length = 12) (h2 : ∀ x, x ∈ p → 0 ≤ x ∧ x < 10000) {i : Nat} (hi : i < 12) : 0 ≤ rd p (i : Int) ∧ rd p (i : Int) < 10000 := by
  unfold rd
  rw [Int.toNat_natCast, List.getD_eq_getElem?_getD, List.getElem?_eq_getElem (by omega)]
  exact h2 _ (List.getElem_mem _)
theorem drawsigns_loop {l : List Int} (hl : l.length ≤ maxLen) : ∀ (d i m : Nat) (acc : List Int) (a n : Int), i + d = m → m ≤ 1000 → acc.length = i → 0 ≤ a → (∀ x, x ∈ acc → x = 48 ∨ x = 49) → ∃ p a' n', Ev (fun k => spec_l02Signs.l0 k (m : Int) acc (i : Int) l a n) (strOfNums p, a', n') ∧ p.length = m ∧ (∀ x, x ∈ p → x = 48 ∨ x = 49) ∧ 0 ≤ a'
  | 0, i, m, acc, a, n, hi, hm, ha, h0, hx => by
    refine ⟨acc, a, n, Ev.step (f := fun _ => some (strOfNums acc, a, n)) (fun k => ?_) (Ev.now _), by omega, hx, h0⟩
    simp only [spec_l02Signs.l0]
    rw [if_neg (by omega)]
  | d + 1, i, m, acc, a, n, hi, hm, ha, h0, hx => by
    obtain ⟨v, a', n', e, v0, v1, p1⟩ := below_ev n h0 hl (show (0 : Int) < 2 by decide)
    obtain ⟨p, a2, n2, hp, hlen, hq, p2⟩ := drawsigns_loop hl d (i + 1) m (acc ++ [48 + v]) a' n' (by omega) hm (by simp; omega) p1 (fun x h => by
      rcases List.mem_append.1 h with h | h
      · exact hx x h
      · rw [List.mem_singleton.1 h]
        omega)
    refine ⟨p, a2, n2, Ev.step (fun k => ?_) hp, hlen, hq, p2⟩
    simp only [spec_l02Signs.l0]
    rw [if_pos (by omega), e]
    simp only [Option.bind_some, if_pos (show acc.length < 140737488355328 by omega)]
    rw [w64 (x := (i : Int) + 1) (by omega) (by omega), w64 (x := 48 + v) (by omega) (by omega), Int.emod_eq_of_lt (by omega) (by omega)]
    rfl
theorem row_ev {l : List Int} (hl : l.length ≤ maxLen) : ∃ p, Ev (fun k => spec_DrawRow.f k l) (strOfNums p) ∧ p.length ≤ 60 ∧ ∀ x, x ∈ p → x = 48 ∨ x = 49 := by
  obtain ⟨s, hs⟩ := new_ev hl
  obtain ⟨v, a', n', e, v0, v1, p1⟩ := below_ev (a := 0) s (by decide) hl (show (0 : Int) < 61 by decide)
  obtain ⟨m, rfl⟩ := Int.eq_ofNat_of_zero_le v0
  obtain ⟨p, a2, n2, hp, hlen, hq, _⟩ := drawsigns_loop hl m 0 m [] a' n' (by omega) (by omega) rfl p1 (fun x h => by cases h)
  refine ⟨p, ?_, by omega, hq⟩
  unfold spec_DrawRow.f
  refine Ev.bind hs ?_
  simp only [e, Option.bind_some]
  unfold spec_l02Signs.f
  exact Ev.bind hp (Ev.now _)
theorem Bys.signs {p : List Int} (h : ∀ x, x ∈ p → x = 48 ∨ x = 49) : Bys p := fun x hx => by
  rcases h x hx with h | h <;> omega
def fg (x : Int) : Int := if x < 10 then 48 + x else 87 + x
def hx : List Int → List Int
  | [] => []
  | x :: l => fg (x / 16) :: fg (x % 16) :: hx l
theorem hx_len : ∀ l : List Int, (hx l).length = 2 * l.length
  | [] => rfl
  | x :: l => by simp only [hx, List.length_cons, hx_len l]; omega
theorem table : ∀ m : Fin 16, bt (⟨#[48, 49, 50, 51, 52, 53, 54, 55, 56, 57, 97, 98, 99, 100, 101, 102]⟩ : ByteArray) ((m : Nat) : Int) = fg ((m : Nat) : Int) := by decide +kernel
theorem table_val (x : Int) (h0 : 0 ≤ x) (h1 : x < 16) : bt (⟨#[48, 49, 50, 51, 52, 53, 54, 55, 56, 57, 97, 98, 99, 100, 101, 102]⟩ : ByteArray) x = fg x := by
  obtain ⟨n, rfl⟩ := Int.eq_ofNat_of_zero_le h0
  exact table ⟨n, by omega⟩
theorem and15 : ∀ m : Fin 256, Go.bits .and .u8 ((m : Nat) : Int) 15 = ((m : Nat) : Int) % 16 := by decide +kernel
theorem and15_val (x : Int) (h0 : 0 ≤ x) (h1 : x < 256) : Go.bits .and .u8 x 15 = x % 16 := by
  obtain ⟨n, rfl⟩ := Int.eq_ofNat_of_zero_le h0
  exact and15 ⟨n, by omega⟩
theorem impl_hex_loop : ∀ (suf pre acc : List Int), Bys (pre ++ suf) → (pre ++ suf).length ≤ 20000 → acc.length ≤ 2 * pre.length →
    Ev (fun k => impl_Hex.l0 k (strOfNums (pre ++ suf)) acc (pre.length : Int)) (strOfNums (acc ++ hx suf), true)
  | [], pre, acc, hb, hl, ha => by
    refine Ev.step (f := fun _ => some (strOfNums acc, true)) (fun k => ?_) (by simp only [hx, List.append_nil]; exact Ev.now _)
    simp only [impl_Hex.l0, List.append_nil]
    rw [if_neg (ge_end pre)]
  | x :: suf, pre, acc, hb, hl, ha => by
    have hx1 := mid_byte hb
    have hl' : pre.length + (suf.length + 1) ≤ 20000 := by simpa using hl
    have ih := impl_hex_loop suf (pre ++ [x]) (acc ++ [fg (x / 16), fg (x % 16)]) (by rw [← snoc_cons]; exact hb) (by rw [← snoc_cons]; exact hl) (by simp; omega)
    rw [← snoc_cons, List.append_assoc] at ih
    refine Ev.step (fun k => ?_) ih
    simp only [impl_Hex.l0]
    rw [if_pos (lt_mid pre suf x), if_pos (by omega), bt_mid hb, and15_val _ hx1.1 hx1.2]
    rw [if_pos (by omega), if_pos (by omega), if_pos (by omega), if_pos (by omega), table_val _ (by omega) (by omega), table_val _ (by omega) (by omega)]
    simp only [Option.bind_some]
    rw [if_pos (by simp; omega), next_len pre x (by omega)]
theorem impl_hex_ev {l : List Int} (hb : Bys l) (hl : l.length ≤ 20000) : Ev (fun k => impl_Hex.f k (strOfNums l)) (strOfNums (hx l), true) := by
  have h2 := impl_hex_loop l [] [] hb hl (Nat.zero_le _)
  have hw : wrap64 (2 * ((strOfNums l).size : Int)) = 2 * (l.length : Int) := by rw [str_size, w64 (by omega) (by omega)]
  unfold impl_Hex.f
  rw [hw]
  simp only [str_size, if_neg (show ¬ ((l.length : Int) > 20000) by omega), if_pos (show (0 : Int) ≤ 2 * (l.length : Int) by omega), if_pos (show (2 * (l.length : Int)).toNat ≤ 281474976710656 by omega)]
  exact h2
/-- The value of a figure, or -1. -/
def fv (x : Int) : Int := if 48 ≤ x ∧ x ≤ 57 then x - 48 else if 97 ≤ x ∧ x ≤ 102 then x - 87 else -1
theorem fv_range (x : Int) : -1 ≤ fv x ∧ fv x < 16 := by
  unfold fv
  split
  · omega
  · split <;> omega
def unhx : List Int → Option (List Int)
  | [] => some []
  | [_] => none
  | x :: y :: l => if fv x < 0 ∨ fv y < 0 then none else (unhx l).map fun r => (16 * fv x + fv y) :: r
def unhxRes (acc : List Int) (o : Option (List Int)) : ByteArray × Bool := match o with | some r => (strOfNums (acc ++ r), true) | none => (strOfNums [], false)
def unhxAll (l : List Int) : ByteArray × Bool := if l.length % 2 = 0 ∧ l.length ≤ 40000 then unhxRes [] (unhx l) else (strOfNums [], false)
theorem next_two (pre : List Int) (x y : Int) (h : pre.length < 4611686018427387904) : wrap64 ((pre.length : Int) + 2) = ((pre ++ [x, y]).length : Int) := by
  rw [w64 (by omega) (by omega)]
  simp
theorem two_cons (pre suf : List Int) (x y : Int) : pre ++ x :: y :: suf = (pre ++ [x, y]) ++ suf := by simp
theorem bt_mid2 {pre suf : List Int} {x y : Int} (h : Bys (pre ++ x :: y :: suf)) : bt (strOfNums (pre ++ x :: y :: suf)) ((pre.length : Int) + 1) = y := by
  rw [bt_get h (n := pre.length + 1) (by omega), List.getD_eq_getElem?_getD, List.getElem?_append_right (by omega)]
  simp
theorem impl_figure_ev (x : Int) (h0 : 0 ≤ x) (h1 : x < 256) : Ev (fun k => impl_figure.f k x) (fv x) := by
  unfold impl_figure.f fv
  by_cases h2 : x ≥ 48
  · simp only [if_pos h2]
    by_cases h3 : x ≤ 57
    · rw [if_pos ⟨h2, h3⟩]
      refine Ev.step (f := fun _ => some (x - 48)) (fun k => ?_) (Ev.now _)
      simp only [impl_figure.j0, decide_eq_true h3, if_true]
      rw [Int.emod_eq_of_lt (by omega) (by omega)]
    · rw [if_neg (by omega)]
      refine Ev.step (f := fun _ => some (if 97 ≤ x ∧ x ≤ 102 then x - 87 else -1)) (fun k => ?_) (Ev.now _)
      simp only [impl_figure.j0, decide_eq_false h3, Bool.false_eq_true, if_false]
      by_cases h4 : x ≥ 97
      · rw [if_pos h4]
        by_cases h5 : x ≤ 102
        · rw [if_pos h5, if_pos ⟨h4, h5⟩, Int.emod_eq_of_lt (by omega) (by omega)]
          congr 1
          omega
        · rw [if_neg h5, if_neg (by omega)]
      · rw [if_neg h4, if_neg (by omega)]
  · simp only [if_neg h2]
    rw [if_neg (by omega), if_neg (by omega)]
    refine Ev.step (f := fun _ => some (-1)) (fun k => ?_) (Ev.now _)
    simp only [impl_figure.j0, Bool.false_eq_true, if_false]
    rw [if_neg (by omega)]
theorem or_figs : ∀ m : Fin 256, (Go.bits .or .i64 (wrap64 ((((m : Nat) / 16 : Nat) : Int) * 16)) (((m : Nat) % 16 : Nat) : Int)) % 256 = ((m : Nat) : Int) := by decide +kernel
theorem or_val (a b : Int) (h0 : 0 ≤ a) (h1 : a < 16) (h2 : 0 ≤ b) (h3 : b < 16) : (Go.bits .or .i64 (wrap64 (a * 16)) b) % 256 = 16 * a + b := by
  obtain ⟨m, rfl⟩ := Int.eq_ofNat_of_zero_le h0
  obtain ⟨n, rfl⟩ := Int.eq_ofNat_of_zero_le h2
  have h := or_figs ⟨16 * m + n, by omega⟩
  simp only at h
  rw [show (16 * m + n) / 16 = m by omega, show (16 * m + n) % 16 = n by omega] at h
  rw [h]
  omega
theorem impl_unhex_loop : ∀ (n : Nat) (suf pre acc : List Int), suf.length = 2 * n → Bys (pre ++ suf) → (pre ++ suf).length ≤ 40000 → acc.length ≤ pre.length →
    Ev (fun k => impl_Unhex.l0 k (strOfNums (pre ++ suf)) acc (pre.length : Int)) (unhxRes acc (unhx suf))
  | 0, suf, pre, acc, hs, hb, hl, ha => by
    have : suf = [] := List.eq_nil_of_length_eq_zero (by omega)
    subst this
    refine Ev.step (f := fun _ => some (strOfNums acc, true)) (fun k => ?_) (by simp only [unhx, unhxRes, List.append_nil]; exact Ev.now _)
    simp only [impl_Unhex.l0, List.append_nil]
    rw [if_neg (ge_end pre)]
  | n + 1, suf, pre, acc, hs, hb, hl, ha => by
    match suf, hs with
    | x :: y :: suf, hs =>
      have hx1 := mid_byte hb
      have hy1 : 0 ≤ y ∧ y < 256 := hb y (by simp)
      have hl' : pre.length + (suf.length + 2) ≤ 40000 := by simpa using hl
      have hsz : (strOfNums (pre ++ x :: y :: suf)).size = pre.length + (suf.length + 2) := by rw [str_size]; simp
      have f1 := impl_figure_ev x hx1.1 hx1.2
      have f2 := impl_figure_ev y hy1.1 hy1.2
      have r1 := fv_range x
      have r2 := fv_range y
      have hstep : ∀ k, impl_Unhex.l0 (k + 1) (strOfNums (pre ++ x :: y :: suf)) acc (pre.length : Int) = ((impl_figure.f k x).bind fun t => ((impl_figure.f k y).bind fun u => (if t < 0 then (some ((⟨#[]⟩ : ByteArray), false)) else (if u < 0 then (some ((⟨#[]⟩ : ByteArray), false)) else (impl_Unhex.l0 k (strOfNums (pre ++ x :: y :: suf)) (acc ++ [(Go.bits .or .i64 (wrap64 (t * 16)) u) % 256]) ((pre ++ [x, y]).length : Int)))))) := fun k => by
        simp only [impl_Unhex.l0]
        rw [if_pos (by omega), if_pos (by omega), bt_mid hb, next_two pre x y (by omega), w64 (x := (pre.length : Int) + 1) (by omega) (by omega), bt_mid2 hb]
        simp only [if_pos (show (0 : Int) ≤ (pre.length : Int) + 1 by omega), if_pos (show (pre.length : Int) + 1 < ((strOfNums (pre ++ x :: y :: suf)).size : Int) by omega), if_pos (show acc.length < 140737488355328 by omega)]
      refine Ev.step hstep (Ev.bind f1 (Ev.bind f2 ?_))
      by_cases h1 : fv x < 0
      · simp only [if_pos h1, unhx, if_pos (Or.inl h1 : fv x < 0 ∨ fv y < 0), unhxRes]
        exact Ev.now _
      · by_cases h2 : fv y < 0
        · simp only [if_neg h1, if_pos h2, unhx, if_pos (Or.inr h2 : fv x < 0 ∨ fv y < 0), unhxRes]
          exact Ev.now _
        · have ih := impl_unhex_loop n suf (pre ++ [x, y]) (acc ++ [16 * fv x + fv y]) (by simp at hs; omega) (by rw [← two_cons]; exact hb) (by rw [← two_cons]; exact hl) (by simp; omega)
          rw [← two_cons] at ih
          simp only [if_neg h1, if_neg h2, unhx, if_neg (show ¬ (fv x < 0 ∨ fv y < 0) by omega), or_val (fv x) (fv y) (by omega) (by omega) (by omega) (by omega)]
          have e : unhxRes (acc ++ [16 * fv x + fv y]) (unhx suf) = unhxRes acc ((unhx suf).map fun r => (16 * fv x + fv y) :: r) := by
            cases unhx suf with
            | none => rfl
            | some r => simp [unhxRes]
          rw [← e]
          exact ih
theorem impl_unhex_ev {l : List Int} (hb : Bys l) (hl : l.length ≤ 1048576) : Ev (fun k => impl_Unhex.f k (strOfNums l)) (unhxAll l) := by
  unfold impl_Unhex.f unhxAll
  have no : Ev (fun k => impl_Unhex.j0 k (strOfNums l) true) (strOfNums [], false) :=
    Ev.step (f := fun _ => some (strOfNums [], false)) (fun k => by simp only [impl_Unhex.j0, if_true]; rfl) (Ev.now _)
  by_cases h1 : l.length % 2 = 0
  · simp only [if_pos (show ((strOfNums l).size : Int) % 2 = 0 by rw [str_size]; omega)]
    by_cases h2 : l.length ≤ 40000
    · rw [if_pos ⟨h1, h2⟩, decide_eq_false (by rw [str_size]; omega)]
      have h := impl_unhex_loop (l.length / 2) l [] [] (by omega) hb h2 (Nat.zero_le _)
      simp only [List.nil_append] at h
      refine Ev.step (fun k => ?_) h
      simp only [impl_Unhex.j0, Bool.false_eq_true, if_false]
      rw [str_size, w64 (by omega) (by omega), if_pos (by omega), if_pos (by omega)]
      rfl
    · rw [if_neg (by omega), decide_eq_true (by rw [str_size]; omega)]
      exact no
  · simp only [if_neg (show ¬ ((strOfNums l).size : Int) % 2 = 0 by rw [str_size]; omega)]
    rw [if_neg (by omega)]
    exact no
/-- The decimal figures of a number above 0. -/
def decd (n : Nat) : List Int := if h : n = 0 then [] else decd (n / 10) ++ [48 + ((n % 10 : Nat) : Int)]
termination_by n
decreasing_by omega
theorem decd_zero : decd 0 = [] := by rw [decd]; simp
theorem decd_pos (n : Nat) (h : n ≠ 0) : decd n = decd (n / 10) ++ [48 + ((n % 10 : Nat) : Int)] := by rw [decd]; simp [h]
/-- Decimal. -/
def deci (n : Int) : List Int := if n = 0 then [48] else (if n < 0 then [45] else []) ++ decd n.natAbs
theorem abs_facts (x : Int) : ((Int.tmod x 10).natAbs = x.natAbs % 10) ∧ ((Int.tdiv x 10).natAbs = x.natAbs / 10) := ⟨Int.natAbs_tmod _ _, Int.natAbs_tdiv _ _⟩
theorem cut_figure : ∀ m : Fin 10, ((⟨#[48, 49, 50, 51, 52, 53, 54, 55, 56, 57, 97, 98, 99, 100, 101, 102]⟩ : ByteArray).extract (m : Nat) ((m : Nat) + 1)) = strOfNums [48 + ((m : Nat) : Int)] := by decide +kernel
theorem impl_dec_loop : ∀ (j : Nat) (x n : Int) (acc : List Int), x.natAbs < 10 ^ j → x.natAbs ≤ 9223372036854775808 → acc.length + j ≤ 1000 →
    Ev (fun k => impl_Decimal.l0 k n (strOfNums acc) x) (strOfNums ((if n < 0 then [45] else []) ++ (decd x.natAbs ++ acc)))
  | j, x, n, acc, hj, hx, ha => by
    obtain ⟨e1, e2⟩ := abs_facts x
    by_cases h0 : x = 0
    · subst h0
      rw [show (0 : Int).natAbs = 0 from rfl, decd_zero, List.nil_append]
      by_cases hn : n < 0
      · refine Ev.step (f := fun _ => some (strOfNums ([45] ++ acc))) (fun k => ?_) (by rw [if_pos hn]; exact Ev.now _)
        simp only [impl_Decimal.l0, if_true]
        rw [if_pos hn, if_pos (by rw [str_size]; omega), ← str_append]
        rfl
      · refine Ev.step (f := fun _ => some (strOfNums acc)) (fun k => ?_) (by rw [if_neg hn]; exact Ev.now _)
        simp only [impl_Decimal.l0, if_true]
        rw [if_neg hn]
    · obtain ⟨j, rfl⟩ : ∃ i, j = i + 1 := by
        cases j with
        | zero => simp at hj; omega
        | succ i => exact ⟨i, rfl⟩
      have hj' : x.natAbs / 10 < 10 ^ j := by
        rw [Nat.pow_succ] at hj
        omega
      have ih := impl_dec_loop j (Int.tdiv x 10) n ([48 + ((x.natAbs % 10 : Nat) : Int)] ++ acc) (by rw [e2]; exact hj') (by rw [e2]; omega) (by simp; omega)
      rw [e2] at ih
      rw [decd_pos _ (by omega), List.append_assoc (decd _)]
      refine Ev.step (fun k => ?_) ih
      simp only [impl_Decimal.l0]
      have hm : mx (Int.tmod x 10) (wrap64 (-(Int.tmod x 10))) = ((x.natAbs % 10 : Nat) : Int) := by
        rw [w64 (by omega) (by omega)]
        unfold mx
        split <;> omega
      rw [if_neg h0, hm, w64 (x := Int.tdiv x 10) (by omega) (by omega), w64 (by omega) (by omega), if_pos (by omega), if_pos (by omega), if_pos (by omega)]
      have hc := cut_figure ⟨x.natAbs % 10, by omega⟩
      simp only at hc
      rw [show (((x.natAbs % 10 : Nat) : Int) + 1).toNat = x.natAbs % 10 + 1 by omega, Int.toNat_natCast, hc, if_pos (by rw [str_size, str_size]; simp; omega), str_append]
theorem impl_dec_ev (x : Int) (h0 : -9223372036854775808 ≤ x) (h1 : x ≤ 9223372036854775807) : Ev (fun k => impl_Decimal.f k x) (strOfNums (deci x)) := by
  by_cases h : x = 0
  · refine ev_now (fun k => ?_)
    unfold impl_Decimal.f deci
    rw [if_pos h, if_pos h]
    rfl
  · have hl := impl_dec_loop 20 x x [] (by omega) (by omega) (by simp)
    unfold deci
    rw [if_neg h]
    rw [List.append_nil] at hl
    refine Ev.congr (fun k => ?_) hl
    unfold impl_Decimal.f
    rw [if_neg h]
    rfl
theorem deci_bys (n : Int) : Bys (deci n) := by
  have hd : ∀ j m : Nat, m < j → Bys (decd m) := by
    intro j
    induction j with
    | zero => intro m hm; omega
    | succ j ih =>
      intro m hm
      by_cases h0 : m = 0
      · subst h0
        rw [decd_zero]
        exact Bys.nil
      · rw [decd_pos m h0]
        exact Bys.append (ih _ (by omega)) (Bys.cons (by omega) (by omega) Bys.nil)
  unfold deci
  split
  · exact Bys.cons (by decide) (by decide) Bys.nil
  · refine Bys.append ?_ (hd _ _ (Nat.lt_succ_self _))
    split
    · exact Bys.cons (by decide) (by decide) Bys.nil
    · exact Bys.nil
theorem str_toList (l : List Int) : (strOfNums l).toList = l.map fun n => UInt8.ofNat n.toNat := by
  rw [Go.ByteArray.toList_eq, strOfNums_data]
theorem str_toList_nil {l : List Int} : (strOfNums l).toList = ([] : List UInt8) ↔ l = [] := by
  rw [str_toList, List.map_eq_nil_iff]
theorem str_toList_inj {l m : List Int} (hl : Bys l) (hm : Bys m) : (strOfNums l).toList = (strOfNums m).toList ↔ l = m := by
  constructor
  · intro h
    apply str_inj hl hm
    apply ByteArray.ext
    apply Array.ext'
    rw [← Go.ByteArray.toList_eq, ← Go.ByteArray.toList_eq, h]
  · intro h
    rw [h]
theorem within_yes {x lo hi : Int} (h0 : lo ≤ x) (h1 : x ≤ hi) : impl_within.f x lo hi = some true := by
  unfold impl_within.f
  rw [if_pos h0, decide_eq_true h1]
theorem within_no {x lo hi : Int} (h : ¬ (lo ≤ x ∧ x ≤ hi)) : impl_within.f x lo hi = some false := by
  unfold impl_within.f
  by_cases h0 : lo ≤ x
  · rw [if_pos h0, decide_eq_false (fun h1 => h ⟨h0, h1⟩)]
  · rw [if_neg h0]
theorem within_any (x lo hi : Int) : impl_within.f x lo hi = some (decide (lo ≤ x ∧ x ≤ hi)) := by
  by_cases h : lo ≤ x ∧ x ≤ hi
  · rw [within_yes h.1 h.2, decide_eq_true h]
  · rw [within_no h, decide_eq_false h]
theorem fv_fg {d : Int} (h0 : 0 ≤ d) (h1 : d < 16) : fv (fg d) = d := by
  unfold fv fg
  by_cases h : d < 10
  · rw [if_pos h, if_pos (by omega)]
    omega
  · rw [if_neg h, if_neg (by omega), if_pos (by omega)]
    omega
theorem unhx_hx : ∀ l : List Int, Bys l → unhx (hx l) = some l
  | [], _ => rfl
  | x :: l, hb => by
    have hx1 := hb x (List.mem_cons_self ..)
    have ih := unhx_hx l (fun y hy => hb y (List.mem_cons_of_mem _ hy))
    rw [hx, unhx, fv_fg (by omega) (by omega), fv_fg (by omega) (by omega), if_neg (by omega), ih, Option.map_some]
    congr 2
    omega
theorem hx_bys : ∀ l : List Int, Bys l → Bys (hx l)
  | [], _ => Bys.nil
  | x :: l, hb => by
    have hx1 := hb x (List.mem_cons_self ..)
    have ih := hx_bys l (fun y hy => hb y (List.mem_cons_of_mem _ hy))
    have g : ∀ d : Int, 0 ≤ d → d < 16 → 0 ≤ fg d ∧ fg d < 256 := by
      intro d h0 h1
      unfold fg
      split <;> omega
    have g1 := g (x / 16) (by omega) (by omega)
    have g2 := g (x % 16) (by omega) (by omega)
    exact Bys.cons g1.1 g1.2 (Bys.cons g2.1 g2.2 ih)
/-- The number that figures tell, behind n. -/
def dv : Int → List Int → Int
  | n, [] => n
  | n, x :: l => dv (10 * n + (x - 48)) l
theorem dv_append : ∀ (l m : List Int) (n : Int), dv n (l ++ m) = dv (dv n l) m
  | [], _, _ => rfl
  | x :: l, m, n => by simp only [List.cons_append, dv, dv_append l m]
def Figs (l : List Int) : Prop := ∀ x, x ∈ l → 48 ≤ x ∧ x ≤ 57
theorem decd_facts (j : Nat) : ∀ n : Nat, n < 10 ^ j → (decd n).length ≤ j ∧ Figs (decd n) ∧ dv 0 (decd n) = (n : Int) := by
  induction j with
  | zero =>
    intro n h
    have : n = 0 := by simpa using h
    subst this
    rw [decd_zero]
    exact ⟨Nat.le_refl _, (fun x h => by cases h), rfl⟩
  | succ j ih =>
    intro n h
    by_cases h0 : n = 0
    · subst h0
      rw [decd_zero]
      exact ⟨Nat.zero_le _, (fun x h => by cases h), rfl⟩
    · rw [Nat.pow_succ] at h
      obtain ⟨i1, i2, i3⟩ := ih (n / 10) (by omega)
      rw [decd_pos n h0]
      refine ⟨by rw [List.length_append, List.length_singleton]; omega, fun x hx => ?_, ?_⟩
      · rcases List.mem_append.1 hx with hx | hx
        · exact i2 x hx
        · rw [List.mem_singleton.1 hx]
          omega
      · rw [dv_append, i3]
        simp only [dv]
        omega
theorem read_dec_loop {v : Int} (v0 : 0 ≤ v) (v1 : v ≤ 1000000000) : ∀ (suf pre : List Int) (n : Int), Figs (pre ++ suf) → (pre ++ suf).length ≤ 10 → 0 ≤ n → n < 10 ^ pre.length → dv n suf = v → deci v = pre ++ suf →
    Ev (fun k => impl_ReadDecimal.l0 k (strOfNums (pre ++ suf)) n (pre.length : Int)) (v, true)
  | [], pre, n, hb, hl, h0, h1, hv, he => by
    rw [List.append_nil] at hb hl he ⊢
    simp only [dv] at hv
    subst hv
    refine Ev.step (f := fun k => (impl_Decimal.f k n).bind fun t => (if t.toList = (strOfNums pre).toList then (some (n, true)) else (some (0, false)))) (fun k => ?_) (Ev.bind (impl_dec_ev n (by omega) (by omega)) ?_)
    · simp only [impl_ReadDecimal.l0]
      rw [if_neg (ge_end pre), if_neg (by omega)]
    · rw [he]
      simp only [if_true]
      exact Ev.now _
  | x :: suf, pre, n, hf, hl, h0, h1, hv, he => by
    have hb : Bys (pre ++ x :: suf) := fun y hy => by have := hf y hy; omega
    have hx1 := hf x (List.mem_append_right _ (List.mem_cons_self ..))
    have hl' : pre.length + (suf.length + 1) ≤ 10 := by simpa using hl
    have hpow : (10 : Int) ^ pre.length ≤ 10 ^ 9 := by
      have : (10 : Nat) ^ pre.length ≤ 10 ^ 9 := Nat.pow_le_pow_right (by decide) (by omega)
      exact_mod_cast this
    have hn2 : 10 * n + (x - 48) < 10 ^ (pre ++ [x]).length := by
      simp only [List.length_append, List.length_cons, List.length_nil]
      rw [Int.pow_succ]
      omega
    have ih := read_dec_loop v0 v1 suf (pre ++ [x]) (10 * n + (x - 48)) (by rw [← snoc_cons]; exact hf) (by rw [← snoc_cons]; exact hl) (by omega) hn2 hv (by rw [← snoc_cons]; exact he)
    rw [← snoc_cons] at ih
    refine Ev.step (fun k => ?_) ih
    simp only [impl_ReadDecimal.l0]
    rw [if_pos (lt_mid pre suf x), if_pos (by omega), bt_mid hb, if_neg (by omega), if_neg (by omega), next_len pre x (by omega), w64 (x := 10 * n) (by omega) (by omega), Int.emod_eq_of_lt (a := x - 48) (by omega) (by omega), w64 (by omega) (by omega)]
theorem read_dec {v : Int} (v0 : 0 ≤ v) (v1 : v < 100000000) : Ev (fun k => impl_ReadDecimal.f k (strOfNums (deci v))) (v, true) := by
  obtain ⟨f1, f2, f3⟩ := decd_facts 8 v.natAbs (by omega)
  have hd : (1 ≤ (deci v).length ∧ (deci v).length ≤ 8) ∧ Figs (deci v) ∧ dv 0 (deci v) = v := by
    unfold deci
    by_cases h : v = 0
    · rw [if_pos h]
      subst h
      exact ⟨⟨by decide, by decide⟩, (fun x hx => by rw [List.mem_singleton.1 hx]; decide), rfl⟩
    · rw [if_neg h, if_neg (by omega), List.nil_append]
      refine ⟨⟨?_, f1⟩, f2, by rw [f3]; omega⟩
      rw [decd_pos _ (by omega), List.length_append, List.length_singleton]
      omega
  obtain ⟨⟨g1, g2⟩, g3, g4⟩ := hd
  unfold impl_ReadDecimal.f
  rw [within_yes (by rw [str_size]; omega) (by rw [str_size]; omega)]
  simp only [Option.bind_some, if_true]
  exact read_dec_loop v0 (by omega) (deci v) [] 0 g3 (by rw [List.nil_append]; omega) (by decide) (by decide) g4 rfl
theorem brought_val {a lo hi : Int} (h : lo ≤ hi) : ∃ b, impl_Brought.f a lo hi = some b ∧ lo ≤ b ∧ b ≤ hi ∧ impl_Brought.f b lo hi = some b := by
  have key : ∀ x, (lo ≤ mx lo (mn x hi) ∧ mx lo (mn x hi) ≤ hi) ∧ (lo ≤ x → x ≤ hi → mx lo (mn x hi) = x) := by
    intro x
    have hn : (hi < x ∧ mn x hi = hi) ∨ (¬ hi < x ∧ mn x hi = x) := by
      unfold mn
      by_cases h : hi < x
      · exact .inl ⟨h, if_pos h⟩
      · exact .inr ⟨h, if_neg h⟩
    unfold mx
    split <;> omega
  have k1 := key a
  refine ⟨mx lo (mn a hi), rfl, k1.1.1, k1.1.2, ?_⟩
  unfold impl_Brought.f
  rw [(key _).2 k1.1.1 k1.1.2]
theorem FnFigures : laws_FnFigures.Pure := by
  intro l hl _ _
  refine Ev.rounds ?_
  unfold laws_FnFigures.f laws_big.f
  simp only [Option.bind_some]
  by_cases hbig : (l.length : Int) > 1048576
  · rw [decide_eq_true hbig]
    exact Ev.now _
  · rw [decide_eq_false hbig]
    simp only [Bool.false_eq_true, if_false]
    obtain ⟨p, hp, h12, hpx⟩ := places_ev hl
    obtain ⟨m, hm, h60, hmx⟩ := row_ev hl
    have hmb : Bys m := Bys.signs hmx
    refine Ev.bind hp (Ev.bind hm ?_)
    have q0 : 0 ≤ rd p 0 ∧ rd p 0 < 10000 := place_at h12 hpx (i := 0) (by decide)
    have q1 : 0 ≤ rd p 1 ∧ rd p 1 < 10000 := place_at h12 hpx (i := 1) (by decide)
    have q2 : 0 ≤ rd p 2 ∧ rd p 2 < 10000 := place_at h12 hpx (i := 2) (by decide)
    have q3 : 0 ≤ rd p 3 ∧ rd p 3 < 10000 := place_at h12 hpx (i := 3) (by decide)
    have q4 : 0 ≤ rd p 4 ∧ rd p 4 < 10000 := place_at h12 hpx (i := 4) (by decide)
    have hxl := hx_len m
    have hu := impl_unhex_ev (hx_bys m hmb) (by omega)
    have hu2 : unhxAll (hx m) = (strOfNums m, true) := by
      unfold unhxAll
      rw [if_pos ⟨by omega, by omega⟩, unhx_hx m hmb]
      rfl
    rw [hu2] at hu
    refine Ev.bind (impl_hex_ev hmb (by omega)) (Ev.bind hu ?_)
    rw [w64 (x := rd p 0 * 10000) (by omega) (by omega), w64 (x := rd p 0 * 10000 + rd p 1) (by omega) (by omega), w64 (x := rd p 2 - 5000) (by omega) (by omega), w64 (x := -(rd p 3)) (by omega) (by omega)]
    simp only [if_pos (show (0 : Int) < (p.length : Int) by omega), if_pos (show (1 : Int) < (p.length : Int) by omega), if_pos (show (2 : Int) < (p.length : Int) by omega), if_pos (show (3 : Int) < (p.length : Int) by omega), if_pos (show (4 : Int) < (p.length : Int) by omega)]
    refine Ev.bind (impl_dec_ev (rd p 0 * 10000 + rd p 1) (by omega) (by omega)) (Ev.bind (read_dec (by omega) (by omega)) ?_)
    obtain ⟨b, e1, b0, b1, e2⟩ := brought_val (a := rd p 2 - 5000) (lo := -(rd p 3)) (hi := rd p 4) (by omega)
    simp only [e1, Option.bind_some, if_true, str_size, hxl, w64 (x := 2 * (m.length : Int)) (by omega) (by omega), if_pos (show ((2 * m.length : Nat) : Int) = 2 * (m.length : Int) by omega), if_pos (show b ≥ -(rd p 3) by omega), if_pos b1, e2, beq_self_eq_true]
    exact Ev.now _

end Go.Proofs.Ytmidnldhfidlkaa.Pure
