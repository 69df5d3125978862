/- Two counts, put behind a row, are read back; UeSize tells a count's size, and no count begins another. -/
import Derived.Test.YtmidnldhfidlkaaQFnCountsx3
set_option linter.unusedVariables false
set_option linter.unusedSimpArgs false
namespace Go.Proofs.Ytmidnldhfidlkaa.Pure
open Go.RowKit Go.Proofs.Ytmidnldhfidlkaa.QFnCounts Go.Proofs.YtmidnldhfidlkaaW.PrintWords Go.Proofs.YtmidnldhfidlkaaW.PrintLast Go.Proofs.YtmidnldhfidlkaaW.PrintMore

/-! ### Bytes as lists of numbers, and some plain facts -/
theorem w64 {x : Int} (h0 : -9223372036854775808 ≤ x) (h1 : x ≤ 9223372036854775807) : wrap64 x = x := by
  unfold wrap64
  omega
theorem i64_bounds {x : Int} (h : (Lit.int .i64 x).wf = true) : -9223372036854775808 ≤ x ∧ x ≤ 9223372036854775807 := by
  have e := h
  simp [Lit.wf, IntKind.min, IntKind.max, IntKind.signed, IntKind.bits] at e
  omega
/-- All numbers of the list are bytes. -/
def Bys (l : List Int) : Prop := ∀ x, x ∈ l → 0 ≤ x ∧ x < 256
theorem Bys.nil : Bys [] := fun _ h => by cases h
theorem Bys.cons {x : Int} {l : List Int} (h0 : 0 ≤ x) (h1 : x < 256) (h : Bys l) : Bys (x :: l) := fun y hy => by
  rcases List.mem_cons.1 hy with rfl | hy
  · exact ⟨h0, h1⟩
  · exact h y hy
theorem Bys.append {l m : List Int} (h : Bys l) (h' : Bys m) : Bys (l ++ m) := fun y hy => by
  rcases List.mem_append.1 hy with hy | hy
  · exact h y hy
  · exact h' y hy
theorem Bys.left {l m : List Int} (h : Bys (l ++ m)) : Bys l := fun y hy => h y (List.mem_append_left _ hy)
theorem Bys.right {l m : List Int} (h : Bys (l ++ m)) : Bys m := fun y hy => h y (List.mem_append_right _ hy)
theorem Bys.take {l : List Int} (h : Bys l) (n : Nat) : Bys (l.take n) := fun y hy => h y (List.mem_of_mem_take hy)
theorem Bys.drop {l : List Int} (h : Bys l) (n : Nat) : Bys (l.drop n) := fun y hy => h y (List.mem_of_mem_drop hy)
theorem Bys.getD {l : List Int} (h : Bys l) (i : Nat) : 0 ≤ l.getD i 0 ∧ l.getD i 0 < 256 := by
  rw [List.getD_eq_getElem?_getD]
  by_cases hi : i < l.length
  · rw [List.getElem?_eq_getElem hi]
    exact h _ (List.getElem_mem hi)
  · rw [List.getElem?_eq_none (by omega)]
    exact ⟨by decide, by decide⟩
theorem nums_of (a : ByteArray) : ∃ l, Bys l ∧ a = strOfNums l := by
  refine ⟨a.data.toList.map fun u => (u.toNat : Int), ?_, ?_⟩
  · intro x hx
    obtain ⟨u, _, rfl⟩ := List.mem_map.1 hx
    have := u.toNat_lt
    omega
  · unfold strOfNums
    rw [List.map_map]
    have e : ((fun n : Int => UInt8.ofNat n.toNat) ∘ fun u : UInt8 => (u.toNat : Int)) = id := by
      funext u
      simp
    rw [e, List.map_id]
theorem str_size (l : List Int) : (strOfNums l).size = l.length := strOfNums_size l
theorem bt_str {l : List Int} (h : Bys l) (i : Int) : bt (strOfNums l) i = l.getD i.toNat 0 := by
  unfold bt
  rw [List.getD_eq_getElem?_getD]
  split
  · rename_i hi
    have hi' : i.toNat < l.length := by rw [← str_size]; exact hi
    rw [List.getElem?_eq_getElem hi']
    have hb := h _ (List.getElem_mem hi')
    have e : (strOfNums l)[i.toNat]'hi = UInt8.ofNat (l[i.toNat]).toNat := by
      simp [strOfNums, ByteArray.getElem_eq_getElem_data]
    rw [e, UInt8.toNat_ofNat']
    simp only [Option.getD_some]
    omega
  · rename_i hi
    rw [List.getElem?_eq_none (by rw [← str_size]; omega)]
    rfl
theorem bt_get {l : List Int} (h : Bys l) {i : Int} {n : Nat} (hi : i = (n : Int)) : bt (strOfNums l) i = l.getD n 0 := by
  rw [bt_str h, hi, Int.toNat_natCast]
theorem str_append (l m : List Int) : strOfNums l ++ strOfNums m = strOfNums (l ++ m) := by
  apply ByteArray.ext
  rw [ByteArray.data_append]
  unfold strOfNums
  simp
theorem str_empty : (⟨#[]⟩ : ByteArray) = strOfNums [] := rfl
theorem str_inj {l m : List Int} (hl : Bys l) (hm : Bys m) (h : strOfNums l = strOfNums m) : l = m := by
  have hs : l.length = m.length := by rw [← str_size l, ← str_size m, h]
  apply List.ext_getElem hs
  intro i h1 h2
  have e1 := bt_get hl (i := (i : Int)) rfl
  have e2 := bt_get hm (i := (i : Int)) rfl
  rw [h, e2] at e1
  simp [List.getD_eq_getElem?_getD, h1, h2] at e1
  exact e1.symm
theorem str_extract (l : List Int) (i j : Nat) : (strOfNums l).extract i j = strOfNums ((l.take j).drop i) := by
  apply ByteArray.ext
  rw [ByteArray.data_extract]
  unfold strOfNums
  apply Array.ext'
  simp [List.extract_eq_take_drop, List.drop_take, List.map_drop, List.map_take]
theorem getD_mid (pre suf : List Int) (x : Int) : (pre ++ x :: suf).getD pre.length 0 = x := by
  rw [List.getD_eq_getElem?_getD, List.getElem?_append_right (Nat.le_refl _)]
  simp
theorem bt_mid {pre suf : List Int} {x : Int} (h : Bys (pre ++ x :: suf)) : bt (strOfNums (pre ++ x :: suf)) (pre.length : Int) = x := by
  rw [bt_get h rfl, getD_mid]
theorem rd_mid (pre suf : List Int) (x : Int) : rd (pre ++ x :: suf) (pre.length : Int) = x := by
  unfold rd
  rw [Int.toNat_natCast, getD_mid]
theorem snoc_cons (pre suf : List Int) (x : Int) : pre ++ x :: suf = (pre ++ [x]) ++ suf := by simp
theorem next_len (pre : List Int) (x : Int) (h : pre.length < 4611686018427387904) : wrap64 ((pre.length : Int) + 1) = ((pre ++ [x]).length : Int) := by
  rw [w64 (by omega) (by omega)]
  simp
theorem lt_mid (pre suf : List Int) (x : Int) : (pre.length : Int) < ((strOfNums (pre ++ x :: suf)).size : Int) := by
  rw [str_size]
  simp
  omega
theorem ge_end (pre : List Int) : ¬ ((pre.length : Int) < ((strOfNums pre).size : Int)) := by
  rw [str_size]
  omega
theorem mid_byte {pre suf : List Int} {x : Int} (h : Bys (pre ++ x :: suf)) : 0 ≤ x ∧ x < 256 := h x (by simp)
theorem exact_sb {g h : Nat → Option (ByteArray × Bool)} {v : ByteArray × Bool} (hg : Ev g v) (hh : Ev h v) :
    Ev (fun k => (g k).bind fun b1 => (h k).bind fun b2 => if b2.1.toList = b1.1.toList then (if (b2.2 != b1.2) = true then some false else some true) else some false) true := by
  refine Ev.bind hg (Ev.bind hh ?_)
  simp only [if_true, bne_self_eq_false, Bool.false_eq_true, if_false]
  exact Ev.now _
theorem exact_i {g h : Nat → Option Int} {v : Int} (hg : Ev g v) (hh : Ev h v) :
    Ev (fun k => (g k).bind fun b1 => (h k).bind fun b2 => if b2 = b1 then some true else some false) true := by
  refine Ev.bind hg (Ev.bind hh ?_)
  simp only [if_true]
  exact Ev.now _
theorem exact_s {g h : Nat → Option ByteArray} {v : ByteArray} (hg : Ev g v) (hh : Ev h v) :
    Ev (fun k => (g k).bind fun b1 => (h k).bind fun b2 => if b2.toList = b1.toList then some true else some false) true := by
  refine Ev.bind hg (Ev.bind hh ?_)
  simp only [if_true]
  exact Ev.now _
theorem exact_ib {g h : Nat → Option (Int × Bool)} {v : Int × Bool} (hg : Ev g v) (hh : Ev h v) :
    Ev (fun k => (g k).bind fun b1 => (h k).bind fun b2 => if b2.1 = b1.1 then (if (b2.2 != b1.2) = true then some false else some true) else some false) true := by
  refine Ev.bind hg (Ev.bind hh ?_)
  simp only [if_true, bne_self_eq_false, Bool.false_eq_true, if_false]
  exact Ev.now _
theorem exact_iib {g h : Nat → Option (Int × Int × Bool)} {v : Int × Int × Bool} (hg : Ev g v) (hh : Ev h v) :
    Ev (fun k => (g k).bind fun b1 => (h k).bind fun b2 => if b2.1 = b1.1 then (if b2.2.1 = b1.2.1 then (if (b2.2.2 != b1.2.2) = true then some false else some true) else some false) else some false) true := by
  refine Ev.bind hg (Ev.bind hh ?_)
  simp only [if_true, bne_self_eq_false, Bool.false_eq_true, if_false]
  exact Ev.now _
theorem exact_b {g h : Nat → Option Bool} {v : Bool} (hg : Ev g v) (hh : Ev h v) :
    Ev (fun k => (g k).bind fun b1 => (h k).bind fun b2 => if (b2 != b1) = true then some false else some true) true := by
  refine Ev.bind hg (Ev.bind hh ?_)
  simp only [bne_self_eq_false, Bool.false_eq_true, if_false]
  exact Ev.now _
theorem ev_now {α : Type} {g : Nat → Option α} {v : α} (h : ∀ k, g k = some v) : Ev g v := Ev.congr h (Ev.now v)
theorem and255 (x : Int) : 0 ≤ Go.bits .and .i64 x 255 ∧ Go.bits .and .i64 x 255 ≤ 255 := by
  have h : ((BitVec.ofInt 64 x) &&& (BitVec.ofInt 64 255)).toNat ≤ 255 := by
    rw [BitVec.toNat_and]
    exact Nat.le_trans Nat.and_le_right (by decide)
  have e : Go.bits .and .i64 x 255 = ((((BitVec.ofInt 64 x) &&& (BitVec.ofInt 64 255)).toNat : Nat) : Int) := by
    show IntKind.i64.wrap ((((BitVec.ofInt 64 x) &&& (BitVec.ofInt 64 255)).toNat : Nat) : Int) = _
    rw [IntKind.wrap_i64]
    omega
  omega
/-- A byte is drawn. -/
theorem byte_ev {l : List Int} {a : Int} (n : Int) (h0 : 0 ≤ a) (hl : l.length ≤ maxLen) : ∃ v a' n', spec_l01Byte.f l a n = some (v, a', n') ∧ 0 ≤ v ∧ v ≤ 255 ∧ 0 ≤ a' := by
  have hm : maxLen ≤ 9223372036854775807 := by decide
  unfold spec_l01Byte.f
  by_cases h : a < (l.length : Int)
  · rw [if_pos h, if_pos h0]
    exact ⟨_, _, _, rfl, (and255 _).1, (and255 _).2, by rw [w64 (by omega) (by omega)]; omega⟩
  · rw [if_neg h]
    exact ⟨_, _, _, rfl, (and255 _).1, (and255 _).2, h0⟩
/-- A number below another is drawn. -/
theorem below_ev {l : List Int} {a : Int} (n : Int) {m : Int} (h0 : 0 ≤ a) (hl : l.length ≤ maxLen) (hm : 0 < m) : ∃ v a' n', spec_l01Below.f l a n m = some (v, a', n') ∧ 0 ≤ v ∧ v < m ∧ 0 ≤ a' := by
  unfold spec_l01Below.f
  rw [if_neg (by omega)]
  obtain ⟨v1, a1, n1, e1, l1, u1, p1⟩ := byte_ev n h0 hl
  by_cases h : m ≤ 256
  · rw [if_pos h, e1]
    simp only [Option.bind_some, if_neg (show ¬ m = 0 by omega)]
    refine ⟨_, _, _, rfl, ?_, ?_, p1⟩
    · exact Int.tmod_nonneg _ l1
    · exact Int.tmod_lt_of_pos _ hm
  · obtain ⟨v2, a2, n2, e2, l2, u2, p2⟩ := byte_ev n1 p1 hl
    obtain ⟨v3, a3, n3, e3, l3, u3, p3⟩ := byte_ev n2 p2 hl
    obtain ⟨v4, a4, n4, e4, l4, u4, p4⟩ := byte_ev n3 p3 hl
    rw [if_neg h, e1]
    simp only [Option.bind_some, e2, e3, e4, if_neg (show ¬ m = 0 by omega)]
    rw [w64 (x := v1 * 16777216) (by omega) (by omega), w64 (x := v2 * 65536) (by omega) (by omega), w64 (x := v3 * 256) (by omega) (by omega), w64 (x := v1 * 16777216 + v2 * 65536) (by omega) (by omega), w64 (x := v1 * 16777216 + v2 * 65536 + v3 * 256) (by omega) (by omega), w64 (x := v1 * 16777216 + v2 * 65536 + v3 * 256 + v4) (by omega) (by omega)]
    refine ⟨_, _, _, rfl, ?_, ?_, p4⟩
    · exact Int.tmod_nonneg _ (by omega)
    · exact Int.tmod_lt_of_pos _ hm
theorem new_loop {l : List Int} (hl : l.length ≤ maxLen) : ∀ (d i : Nat) (h : Int), i + d = min l.length 4000 → ∃ s, Ev (fun k => spec_l01New.l0 k l h (i : Int)) (l, 0, s)
  | 0, i, h, hi => by
    refine ⟨h, Ev.step (f := fun _ => some (l, 0, h)) (fun k => ?_) (Ev.now _)⟩
    simp only [spec_l01New.l0]
    by_cases h1 : (i : Int) < (l.length : Int)
    · rw [if_pos h1, if_neg (by omega)]
    · rw [if_neg h1]
  | d + 1, i, h, hi => by
    obtain ⟨s, hs⟩ := new_loop hl d (i + 1) (Go.bits .and .i64 (wrap64 ((wrap64 ((wrap64 (h * 131)) + (wrap64 (rd l (i : Int))))) + 7)) 1073741823) (by omega)
    refine ⟨s, Ev.step (fun k => ?_) hs⟩
    simp only [spec_l01New.l0]
    rw [if_pos (by omega), if_pos (by omega), if_pos (by omega), w64 (x := (i : Int) + 1) (by omega) (by omega)]
    rfl
theorem new_ev {l : List Int} (hl : l.length ≤ maxLen) : ∃ s, Ev (fun k => spec_l01New.f k l) (l, 0, s) := by
  unfold spec_l01New.f
  exact new_loop hl (min l.length 4000) 0 _ (by omega)
theorem places_loop {l : List Int} (hl : l.length ≤ maxLen) : ∀ (d i : Nat) (acc : List Int) (a n : Int), i + d = 12 → acc.length = i → 0 ≤ a → (∀ x, x ∈ acc → 0 ≤ x ∧ x < 10000) → ∃ p, Ev (fun k => spec_DrawPlaces.l0 k acc (i : Int) l a n) p ∧ p.length = 12 ∧ ∀ x, x ∈ p → 0 ≤ x ∧ x < 10000
  | 0, i, acc, a, n, hi, ha, h0, hx => by
    refine ⟨acc, Ev.step (f := fun _ => some acc) (fun k => ?_) (Ev.now _), by omega, hx⟩
    simp only [spec_DrawPlaces.l0]
    rw [if_neg (by omega)]
  | d + 1, i, acc, a, n, hi, ha, h0, hx => by
    obtain ⟨v, a', n', e, v0, v1, p1⟩ := below_ev n h0 hl (show (0 : Int) < 10000 by decide)
    obtain ⟨p, hp, hlen, hq⟩ := places_loop hl d (i + 1) (acc ++ [v]) a' n' (by omega) (by simp; omega) p1 (fun x h => by
      rcases List.mem_append.1 h with h | h
      · exact hx x h
      · rw [List.mem_singleton.1 h]
        exact ⟨v0, v1⟩)
    refine ⟨p, Ev.step (fun k => ?_) hp, hlen, hq⟩
    simp only [spec_DrawPlaces.l0]
    rw [if_pos (by omega), e]
    simp only [Option.bind_some, if_pos (show acc.length < 17592186044416 by omega)]
    rw [w64 (x := (i : Int) + 1) (by omega) (by omega)]
    rfl
theorem places_ev {l : List Int} (hl : l.length ≤ maxLen) : ∃ p, Ev (fun k => spec_DrawPlaces.f k l) p ∧ p.length = 12 ∧ ∀ x, x ∈ p → 0 ≤ x ∧ x < 10000 := by
  obtain ⟨s, hs⟩ := new_ev hl
  obtain ⟨v, a', n', e, _, _, p1⟩ := byte_ev (a := 0) s (by decide) hl
  obtain ⟨p, hp, h1, h2⟩ := places_loop hl 12 0 [] a' n' rfl rfl p1 (fun x h => by cases h)
  refine ⟨p, ?_, h1, h2⟩
  unfold spec_DrawPlaces.f
  refine Ev.bind hs ?_
  simp only [e, Option.bind_some]
  exact hp
theorem place_at {p : List Int} (h1 : p.length = 12) (h2 : ∀ x, x ∈ p → 0 ≤ x ∧ x < 10000) {i : Nat} (hi : i < 12) : 0 ≤ rd p (i : Int) ∧ rd p (i : Int) < 10000 := by
  unfold rd
  rw [Int.toNat_natCast, List.getD_eq_getElem?_getD, List.getElem?_eq_getElem (by omega)]
  exact h2 _ (List.getElem_mem _)
theorem drawsigns_loop {l : List Int} (hl : l.length ≤ maxLen) : ∀ (d i m : Nat) (acc : List Int) (a n : Int), i + d = m → m ≤ 1000 → acc.length = i → 0 ≤ a → (∀ x, x ∈ acc → x = 48 ∨ x = 49) → ∃ p a' n', Ev (fun k => spec_l02Signs.l0 k (m : Int) acc (i : Int) l a n) (strOfNums p, a', n') ∧ p.length = m ∧ (∀ x, x ∈ p → x = 48 ∨ x = 49) ∧ 0 ≤ a'
  | 0, i, m, acc, a, n, hi, hm, ha, h0, hx => by
    refine ⟨acc, a, n, Ev.step (f := fun _ => some (strOfNums acc, a, n)) (fun k => ?_) (Ev.now _), by omega, hx, h0⟩
    simp only [spec_l02Signs.l0]
    rw [if_neg (by omega)]
  | d + 1, i, m, acc, a, n, hi, hm, ha, h0, hx => by
    obtain ⟨v, a', n', e, v0, v1, p1⟩ := below_ev n h0 hl (show (0 : Int) < 2 by decide)
    obtain ⟨p, a2, n2, hp, hlen, hq, p2⟩ := drawsigns_loop hl d (i + 1) m (acc ++ [48 + v]) a' n' (by omega) hm (by simp; omega) p1 (fun x h => by
      rcases List.mem_append.1 h with h | h
      · exact hx x h
      · rw [List.mem_singleton.1 h]
        omega)
    refine ⟨p, a2, n2, Ev.step (fun k => ?_) hp, hlen, hq, p2⟩
    simp only [spec_l02Signs.l0]
    rw [if_pos (by omega), e]
    simp only [Option.bind_some, if_pos (show acc.length < 140737488355328 by omega)]
    rw [w64 (x := (i : Int) + 1) (by omega) (by omega), w64 (x := 48 + v) (by omega) (by omega), Int.emod_eq_of_lt (by omega) (by omega)]
    rfl
theorem row_ev {l : List Int} (hl : l.length ≤ maxLen) : ∃ p, Ev (fun k => spec_DrawRow.f k l) (strOfNums p) ∧ p.length ≤ 60 ∧ ∀ x, x ∈ p → x = 48 ∨ x = 49 := by
  obtain ⟨s, hs⟩ := new_ev hl
  obtain ⟨v, a', n', e, v0, v1, p1⟩ := below_ev (a := 0) s (by decide) hl (show (0 : Int) < 61 by decide)
  obtain ⟨m, rfl⟩ := Int.eq_ofNat_of_zero_le v0
  obtain ⟨p, a2, n2, hp, hlen, hq, _⟩ := drawsigns_loop hl m 0 m [] a' n' (by omega) (by omega) rfl p1 (fun x h => by cases h)
  refine ⟨p, ?_, by omega, hq⟩
  unfold spec_DrawRow.f
  refine Ev.bind hs ?_
  simp only [e, Option.bind_some]
  unfold spec_l02Signs.f
  exact Ev.bind hp (Ev.now _)
theorem Bys.signs {p : List Int} (h : ∀ x, x ∈ p → x = 48 ∨ x = 49) : Bys p := fun x hx => by
  rcases h x hx with h | h <;> omega
/-- The signs of a number, so many. -/
def sg : Nat → Int → List Int
  | 0, _ => []
  | w + 1, n => sg w (n / 2) ++ [48 + n % 2]
theorem sg_len : ∀ (w : Nat) (n : Int), (sg w n).length = w
  | 0, _ => rfl
  | w + 1, n => by simp [sg, sg_len w]
theorem sg_row : ∀ (w : Nat) (n : Int), ∀ x, x ∈ sg w n → x = 48 ∨ x = 49
  | 0, _ => fun _ h => by cases h
  | w + 1, n => fun x hx => by
    rcases List.mem_append.1 hx with h | h
    · exact sg_row w _ x h
    · have : x = 48 + n % 2 := by simpa using h
      omega
theorem sg_bys (w : Nat) (n : Int) : Bys (sg w n) := fun x hx => by
  rcases sg_row w n x hx with h | h <;> omega
theorem set_rep (j : Nat) (v : Int) (tl : List Int) : (List.replicate (j + 1) (0 : Int) ++ tl).set j v = List.replicate j 0 ++ v :: tl := by
  rw [List.replicate_succ', List.append_assoc, List.set_append_right _ _ (by simp)]
  simp
/-- How many binary figures a number has. -/
def bl (n : Nat) : Nat := if h : n = 0 then 0 else bl (n / 2) + 1
termination_by n
decreasing_by omega
theorem bl_zero : bl 0 = 0 := by rw [bl]; simp
theorem bl_pos (n : Nat) (h : n ≠ 0) : bl n = bl (n / 2) + 1 := by rw [bl]; simp [h]
theorem bl_small : ∀ (j n : Nat), n < 2 ^ j → bl n ≤ j
  | 0, n, h => by
    have : n = 0 := by simpa using h
    subst this
    rw [bl_zero]
    exact Nat.le_refl _
  | j + 1, n, h => by
    by_cases h0 : n = 0
    · subst h0
      rw [bl_zero]
      omega
    · rw [bl_pos n h0]
      have := bl_small j (n / 2) (by rw [Nat.pow_succ] at h; omega)
      omega
theorem lt_bl (j : Nat) : ∀ n : Nat, n < j → n < 2 ^ bl n := by
  induction j with
  | zero => intro n h; omega
  | succ j ih =>
    intro n h
    by_cases h0 : n = 0
    · subst h0
      rw [bl_zero]
      decide
    · rw [bl_pos n h0, Nat.pow_succ]
      have := ih (n / 2) (by omega)
      omega
theorem lt_two_bl (n : Nat) : n < 2 ^ bl n := lt_bl (n + 1) n (Nat.lt_succ_self n)
theorem bl_one (n : Nat) (h : n ≠ 0) : 1 ≤ bl n := by rw [bl_pos n h]; omega
theorem sg_zero : ∀ j : Nat, sg j 0 = List.replicate j 48
  | 0 => rfl
  | j + 1 => by
    rw [sg, show (0 : Int) / 2 = 0 by decide, sg_zero j, List.replicate_succ']
    rfl
/-- Noughts ahead. -/
theorem sg_pad (j : Nat) : ∀ (w : Nat) (n : Nat), n < 2 ^ w → sg (j + w) (n : Int) = List.replicate j 48 ++ sg w (n : Int)
  | 0, n, h => by
    have : n = 0 := by simpa using h
    subst this
    simp [sg, sg_zero]
  | w + 1, n, h => by
    have h2 : n / 2 < 2 ^ w := by rw [Nat.pow_succ] at h; omega
    have ih := sg_pad j w (n / 2) h2
    rw [← Nat.add_assoc, sg, sg, show ((n : Int) / 2) = ((n / 2 : Nat) : Int) by omega, ih, List.append_assoc]
/-- The row of a counted number. -/
def ueL (n : Nat) : List Int := sg (2 * bl (n + 1) - 1) ((n + 1 : Nat) : Int)
theorem ueL_len (n : Nat) : (ueL n).length = 2 * bl (n + 1) - 1 := sg_len _ _
theorem ueL_eq (n : Nat) : ueL n = List.replicate (bl (n + 1) - 1) 48 ++ sg (bl (n + 1)) ((n + 1 : Nat) : Int) := by
  unfold ueL
  have h := bl_one (n + 1) (by omega)
  rw [show 2 * bl (n + 1) - 1 = (bl (n + 1) - 1) + bl (n + 1) by omega]
  exact sg_pad _ _ _ (lt_two_bl (n + 1))
theorem ueL_bys (n : Nat) : Bys (ueL n) := sg_bys _ _
/-- The number that signs tell, behind n. -/
def vb : Int → List Int → Int
  | n, [] => n
  | n, x :: l => vb (2 * n + (x - 48)) l
theorem vb_bounds : ∀ (l : List Int) (n : Int) (j : Nat), (∀ x, x ∈ l → x = 48 ∨ x = 49) → 0 ≤ n → n < 2 ^ j → 0 ≤ vb n l ∧ vb n l < 2 ^ (j + l.length)
  | [], n, j, _, h0, h1 => ⟨h0, by simpa [vb] using h1⟩
  | x :: l, n, j, hm, h0, h1 => by
    have hx := hm x (by simp)
    have h2 : 2 * n + (x - 48) < 2 ^ (j + 1) := by
      rw [Int.pow_succ]
      rcases hx with rfl | rfl <;> omega
    have := vb_bounds l (2 * n + (x - 48)) (j + 1) (fun y hy => hm y (by simp [hy])) (by rcases hx with rfl | rfl <;> omega) h2
    rw [show j + (x :: l).length = j + 1 + l.length by simp; omega]
    exact this
theorem vb_append : ∀ (l m : List Int) (n : Int), vb n (l ++ m) = vb (vb n l) m
  | [], _, _ => rfl
  | x :: l, m, n => by simp only [List.cons_append, vb, vb_append l m]
theorem vb_zeros : ∀ (j : Nat) (l : List Int), vb 0 (List.replicate j 48 ++ l) = vb 0 l
  | 0, _ => rfl
  | j + 1, l => by
    rw [List.replicate_succ, List.cons_append, vb]
    exact vb_zeros j l
/-- How many noughts a list begins with. -/
def lz : List Int → Nat
  | [] => 0
  | x :: l => if x = 48 then lz l + 1 else 0
theorem lz_le : ∀ l : List Int, lz l ≤ l.length
  | [] => Nat.le_refl _
  | x :: l => by
    unfold lz
    split
    · have := lz_le l
      simp only [List.length_cons]
      omega
    · exact Nat.zero_le _
theorem lz_get : ∀ (l : List Int) (i : Nat), i < lz l → l.getD i 0 = 48
  | [], i, h => by simp [lz] at h
  | x :: l, i, h => by
    unfold lz at h
    split at h
    · rename_i hx
      cases i with
      | zero => simpa using hx
      | succ i =>
        have := lz_get l i (by omega)
        simpa using this
    · omega
theorem lz_stop : ∀ (l : List Int), lz l < l.length → l.getD (lz l) 0 ≠ 48
  | [], h => by simp [lz] at h
  | x :: l, h => by
    unfold lz at h ⊢
    split
    · rename_i hx
      rw [if_pos hx] at h
      have := lz_stop l (by simp only [List.length_cons] at h; omega)
      simpa using this
    · rename_i hx
      simpa using hx
theorem lz_split : ∀ (l : List Int), l = List.replicate (lz l) 48 ++ l.drop (lz l)
  | [] => rfl
  | x :: l => by
    unfold lz
    split
    · rename_i hx
      rw [List.replicate_succ, List.drop_succ_cons, List.cons_append, ← lz_split l, hx]
    · rfl
theorem getD_drop (l : List Int) (p i : Nat) : (l.drop p).getD i 0 = l.getD (p + i) 0 := by
  rw [List.getD_eq_getElem?_getD, List.getD_eq_getElem?_getD, List.getElem?_drop]
/-- ReadUe of a row, at a place in it. -/
def rdUe (l : List Int) (p : Nat) : Option (Nat × Nat) :=
  if lz (l.drop p) ≤ 20 ∧ p + (2 * lz (l.drop p) + 1) ≤ l.length ∧ vb 0 ((l.drop p).take (2 * lz (l.drop p) + 1)) - 1 ≤ 1000000 then some ((vb 0 ((l.drop p).take (2 * lz (l.drop p) + 1)) - 1).toNat, p + (2 * lz (l.drop p) + 1)) else none
theorem take_split (m : List Int) (w : Nat) : m.take (lz m + w) = List.replicate (lz m) 48 ++ (m.drop (lz m)).take w := by
  refine (congrArg (List.take (lz m + w)) (lz_split m)).trans ?_
  rw [List.take_append, List.take_of_length_le (by rw [List.length_replicate]; omega), List.length_replicate, Nat.add_sub_cancel_left]
theorem vb_big {m : List Int} (hm : ∀ x, x ∈ m → x = 48 ∨ x = 49) (w : Nat) (h : lz m + (w + 1) ≤ m.length) : 2 ^ w ≤ vb 0 ((m.drop (lz m)).take (w + 1)) ∧ vb 0 ((m.drop (lz m)).take (w + 1)) < 2 ^ (w + 1) := by
  have hlt : lz m < m.length := by omega
  have hx : m[lz m] = 49 := by
    have h1 := lz_stop m hlt
    rw [List.getD_eq_getElem?_getD, List.getElem?_eq_getElem hlt] at h1
    rcases hm _ (List.getElem_mem hlt) with h2 | h2
    · exact absurd h2 h1
    · exact h2
  have hd : (m.drop (lz m)).take (w + 1) = 49 :: (m.drop (lz m + 1)).take w := by
    rw [List.drop_eq_getElem_cons hlt, List.take_succ_cons, hx]
  have hmem : ∀ x, x ∈ (m.drop (lz m + 1)).take w → x = 48 ∨ x = 49 := fun x hx => hm x (List.mem_of_mem_drop (List.mem_of_mem_take hx))
  have hlen : ((m.drop (lz m + 1)).take w).length = w := by
    rw [List.length_take, List.length_drop]
    omega
  have lowb : ∀ (t : List Int) (n : Int), (∀ x, x ∈ t → x = 48 ∨ x = 49) → 1 ≤ n → 2 ^ t.length * n ≤ vb n t := by
    intro t
    induction t with
    | nil => intro n _ _; simp [vb]
    | cons y t ih =>
      intro n ht hn
      have hy := ht y (by simp)
      have := ih (2 * n + (y - 48)) (fun z hz => ht z (by simp [hz])) (by rcases hy with h | h <;> rw [h] <;> omega)
      rw [vb, List.length_cons, Int.pow_succ]
      have h2 : (2 : Int) ^ t.length * 2 * n ≤ 2 ^ t.length * (2 * n + (y - 48)) := by
        rw [Int.mul_assoc]
        apply Int.mul_le_mul_of_nonneg_left
        · rcases hy with h | h <;> rw [h] <;> omega
        · exact Int.pow_nonneg (by decide)
      omega
  rw [hd, vb, show (2 : Int) * 0 + (49 - 48) = 1 by decide]
  have h1 := lowb _ 1 hmem (by decide)
  have h2 := vb_bounds _ 1 1 hmem (by decide) (by decide)
  rw [hlen] at h1 h2
  rw [show w + 1 = 1 + w by omega]
  exact ⟨by omega, h2.2⟩
theorem vb_sg : ∀ (w : Nat) (n : Int), 0 ≤ n → n < 2 ^ w → vb 0 (sg w n) = n
  | 0, n, h0, h1 => by
    simp only [Int.pow_zero] at h1
    simp only [sg, vb]
    omega
  | w + 1, n, h0, h1 => by
    rw [Int.pow_succ] at h1
    rw [sg, vb_append, vb_sg w (n / 2) (by omega) (by omega)]
    simp only [vb]
    omega
theorem bl_low (j : Nat) : ∀ n : Nat, n < j → n ≠ 0 → 2 ^ (bl n - 1) ≤ n := by
  induction j with
  | zero => intro n h _; omega
  | succ j ih =>
    intro n h h0
    rw [bl_pos n h0, Nat.add_sub_cancel]
    by_cases h2 : n / 2 = 0
    · rw [h2, bl_zero]
      omega
    · have i1 := ih (n / 2) (by omega) h2
      have i2 := bl_one (n / 2) h2
      rw [show bl (n / 2) = (bl (n / 2) - 1) + 1 by omega, Nat.pow_succ]
      omega
theorem bl_mono {n m : Nat} (h : n ≤ m) : bl n ≤ bl m := bl_small _ _ (Nat.lt_of_le_of_lt h (lt_two_bl m))
theorem sg_top : ∀ (w n : Nat), 2 ^ w ≤ n → n < 2 ^ (w + 1) → ∃ t, sg (w + 1) (n : Int) = 49 :: t
  | 0, n, h0, h1 => by
    have : n = 1 := by simp at h0 h1; omega
    subst this
    exact ⟨[], rfl⟩
  | w + 1, n, h0, h1 => by
    rw [Nat.pow_succ] at h0 h1
    obtain ⟨t, ht⟩ := sg_top w (n / 2) (by omega) (by rw [Nat.pow_succ] at h1 ⊢; omega)
    refine ⟨t ++ [48 + (n : Int) % 2], ?_⟩
    rw [sg, show (n : Int) / 2 = ((n / 2 : Nat) : Int) by omega, ht, List.cons_append]
theorem lz_rep (m : List Int) : ∀ j : Nat, lz (List.replicate j 48 ++ m) = j + lz m
  | 0 => by rw [List.replicate_zero, List.nil_append, Nat.zero_add]
  | j + 1 => by
    rw [List.replicate_succ, List.cons_append, lz, if_pos rfl, lz_rep m j]
    omega
theorem ueL_row (n : Nat) : ∀ x, x ∈ ueL n → x = 48 ∨ x = 49 := sg_row _ _
theorem bl_count {n : Nat} (hn : n ≤ 1000000) : bl (n + 1) ≤ 20 := bl_small 20 (n + 1) (Nat.lt_of_le_of_lt (Nat.succ_le_succ hn) (by decide))
theorem ueL_size {n : Nat} (hn : n ≤ 1000000) : 1 ≤ (ueL n).length ∧ (ueL n).length ≤ 39 := by
  have h1 := bl_one (n + 1) (by omega)
  have h2 := bl_count hn
  rw [ueL_len]
  omega
/-- What UeRow wrote, ReadUe reads. -/
theorem rdUe_ue {pre suf : List Int} {n : Nat} (hn : n ≤ 1000000) : rdUe (pre ++ (ueL n ++ suf)) pre.length = some (n, pre.length + (ueL n).length) := by
  have h1 := bl_one (n + 1) (by omega)
  have h2 := bl_count hn
  have h3 := bl_low (n + 2) (n + 1) (by omega) (by omega)
  have h4 := lt_two_bl (n + 1)
  have hlen := ueL_len n
  obtain ⟨t, ht⟩ := sg_top (bl (n + 1) - 1) (n + 1) h3 (by rw [show bl (n + 1) - 1 + 1 = bl (n + 1) by omega]; exact h4)
  have e : bl (n + 1) - 1 + 1 = bl (n + 1) := by omega
  rw [e] at ht
  have hlz : lz (ueL n ++ suf) = bl (n + 1) - 1 := by
    rw [ueL_eq, ht, List.append_assoc, lz_rep, List.cons_append, lz, if_neg (by decide), Nat.add_zero]
  have hw : 2 * (bl (n + 1) - 1) + 1 = (ueL n).length := by omega
  have ht2 : (ueL n ++ suf).take (ueL n).length = ueL n := List.take_left' rfl
  have hv : vb 0 (ueL n) = ((n + 1 : Nat) : Int) := by
    unfold ueL
    refine vb_sg _ _ (by omega) ?_
    have h5 : (2 : Nat) ^ bl (n + 1) ≤ 2 ^ (2 * bl (n + 1) - 1) := Nat.pow_le_pow_right (by decide) (by omega)
    have h6 : n + 1 < 2 ^ (2 * bl (n + 1) - 1) := Nat.lt_of_lt_of_le h4 h5
    exact_mod_cast h6
  unfold rdUe
  rw [List.drop_left, hlz, hw, ht2, hv, if_pos ⟨by omega, by rw [List.length_append, List.length_append]; omega, by omega⟩, show (((n + 1 : Nat) : Int) - 1).toNat = n by omega]
theorem and1_val (n : Int) (h0 : 0 ≤ n) (h1 : n < 4611686018427387904) : Go.bits .and .i64 n 1 = n % 2 := by
  have h := Go.bits_mask .i64 62 (by decide) (fun m hm0 hm1 => by rw [Go.IntKind.wrap_i64]; omega) 1 (by decide) n h0 (by omega)
  simpa using h
theorem signs_loop : ∀ (j : Nat) (n : Int) (tl : List Int), 0 ≤ n → n < 4611686018427387904 → j ≤ 1000000 →
    Ev (fun k => impl_signs.l0 k n (List.replicate j 0 ++ tl) ((j : Int) - 1)) (strOfNums (sg j n ++ tl))
  | 0, n, tl, h0, h1, hj => by
    refine Ev.step (f := fun _ => some (strOfNums tl)) (fun k => ?_) (by simp only [sg, List.nil_append]; exact Ev.now _)
    simp only [impl_signs.l0, List.replicate_zero, List.nil_append]
    rw [if_neg (by omega)]
  | j + 1, n, tl, h0, h1, hj => by
    have ih := signs_loop j (n / 2) ((48 + n % 2) :: tl) (by omega) (by omega) (by omega)
    have e : sg (j + 1) n ++ tl = sg j (n / 2) ++ (48 + n % 2) :: tl := by simp [sg]
    rw [e]
    refine Ev.step (fun k => ?_) ih
    simp only [impl_signs.l0]
    rw [if_pos (by omega), if_pos (by omega), if_pos (by simp; omega), and1_val n h0 h1, w64 (x := 48 + n % 2) (by omega) (by omega)]
    rw [Int.emod_eq_of_lt (a := 48 + n % 2) (by omega) (by omega), show (((j + 1 : Nat) : Int) - 1).toNat = j by omega, set_rep]
    rw [w64 (by omega) (by omega), show ((j + 1 : Nat) : Int) - 1 - 1 = (j : Int) - 1 by omega]
theorem signs_ev (n : Int) (w : Nat) (h0 : 0 ≤ n) (h1 : n < 4611686018427387904) (hw : w ≤ 1000000) : Ev (fun k => impl_signs.f k n (w : Int)) (strOfNums (sg w n)) := by
  have h := signs_loop w n [] h0 h1 hw
  rw [List.append_nil, List.append_nil] at h
  refine Ev.congr (fun k => ?_) h
  unfold impl_signs.f
  rw [if_pos (by omega), if_pos (by omega), Int.toNat_natCast, w64 (by omega) (by omega)]
theorem figs_loop : ∀ (j n : Nat) (c : Int), n < 2 ^ j → 0 ≤ c → c + j ≤ 1000 → Ev (fun k => impl_figuresOf.l0 k (n : Int) c) (c + (bl n : Int))
  | j, n, c, hn, h0, h1 => by
    by_cases hz : n = 0
    · subst hz
      rw [bl_zero]
      refine Ev.step (f := fun _ => some c) (fun k => ?_) (by simp only [Int.natCast_zero, Int.add_zero]; exact Ev.now _)
      simp only [impl_figuresOf.l0]
      rw [if_neg (by omega)]
    · obtain ⟨j, rfl⟩ : ∃ i, j = i + 1 := by
        cases j with
        | zero => simp at hn; omega
        | succ i => exact ⟨i, rfl⟩
      have ih := figs_loop j (n / 2) (c + 1) (by rw [Nat.pow_succ] at hn; omega) (by omega) (by omega)
      rw [bl_pos n hz, show c + ((bl (n / 2) + 1 : Nat) : Int) = c + 1 + (bl (n / 2) : Int) by omega]
      refine Ev.step (fun k => ?_) ih
      simp only [impl_figuresOf.l0]
      rw [if_pos (by omega), w64 (x := c + 1) (by omega) (by omega), show (n : Int) / 2 = ((n / 2 : Nat) : Int) by omega]
theorem impl_ue_ev (n : Nat) (h : n < 2 ^ 60) : Ev (fun k => impl_ue.f k (n : Int)) (strOfNums (ueL n)) := by
  have hb := bl_small 61 (n + 1) (by omega)
  have h1 := bl_one (n + 1) (by omega)
  have hf := figs_loop 61 (n + 1) 0 (by omega) (by decide) (by decide)
  rw [Int.zero_add] at hf
  have hs := signs_ev ((n + 1 : Nat) : Int) (2 * bl (n + 1) - 1) (by omega) (by omega) (by omega)
  unfold impl_ue.f impl_figuresOf.f
  rw [w64 (x := (n : Int) + 1) (by omega) (by omega), show (n : Int) + 1 = ((n + 1 : Nat) : Int) by omega]
  refine Ev.bind hf ?_
  rw [w64 (x := 2 * ((bl (n + 1) : Nat) : Int)) (by omega) (by omega), w64 (by omega) (by omega), show 2 * ((bl (n + 1) : Nat) : Int) - 1 = ((2 * bl (n + 1) - 1 : Nat) : Int) by omega]
  exact Ev.bind hs (Ev.now _)
theorem within_yes {x lo hi : Int} (h0 : lo ≤ x) (h1 : x ≤ hi) : impl_within.f x lo hi = some true := by
  unfold impl_within.f
  rw [if_pos h0, decide_eq_true h1]
theorem within_no {x lo hi : Int} (h : ¬ (lo ≤ x ∧ x ≤ hi)) : impl_within.f x lo hi = some false := by
  unfold impl_within.f
  by_cases h0 : lo ≤ x
  · rw [if_pos h0, decide_eq_false (fun h1 => h ⟨h0, h1⟩)]
  · rw [if_neg h0]
theorem within_any (x lo hi : Int) : impl_within.f x lo hi = some (decide (lo ≤ x ∧ x ≤ hi)) := by
  by_cases h : lo ≤ x ∧ x ≤ hi
  · rw [within_yes h.1 h.2, decide_eq_true h]
  · rw [within_no h, decide_eq_false h]
/-- UeRow. -/
def ueRow (n : Int) : ByteArray × Bool := if 0 ≤ n ∧ n ≤ 1000000 then (strOfNums (ueL n.toNat), true) else (strOfNums [], false)
theorem impl_uerow_ev (n : Int) : Ev (fun k => impl_UeRow.f k n) (ueRow n) := by
  unfold impl_UeRow.f ueRow
  by_cases h : 0 ≤ n ∧ n ≤ 1000000
  · obtain ⟨m, rfl⟩ := Int.eq_ofNat_of_zero_le h.1
    rw [within_yes h.1 h.2, if_pos h]
    simp only [Option.bind_some, if_true]
    exact Ev.bind (impl_ue_ev m (by omega)) (Ev.now _)
  · rw [within_no h, if_neg h]
    exact Ev.now _
/-- A row: signs alone, not too many. -/
def isRow (l : List Int) : Bool := l.all fun x => x == 48 || x == 49
def rowOk (l : List Int) : Bool := decide (l.length ≤ 400000) && isRow l
theorem impl_row_loop : ∀ (suf pre : List Int), Bys (pre ++ suf) → (pre ++ suf).length ≤ 1048576 → Ev (fun k => impl_RowOk.l0 k (strOfNums (pre ++ suf)) (pre.length : Int)) (isRow suf)
  | [], pre, hb, hl => by
    refine Ev.step (f := fun _ => some true) (fun k => ?_) (Ev.now _)
    simp only [impl_RowOk.l0, List.append_nil]
    rw [if_neg (ge_end pre)]
  | x :: suf, pre, hb, hl => by
    have hl' : pre.length + (suf.length + 1) ≤ 1048576 := by simpa using hl
    have ih := impl_row_loop suf (pre ++ [x]) (by rw [← snoc_cons]; exact hb) (by rw [← snoc_cons]; exact hl)
    rw [← snoc_cons] at ih
    have hlt := lt_mid pre suf x
    have hn := next_len pre x (by omega)
    have e : isRow (x :: suf) = ((x == 48 || x == 49) && isRow suf) := rfl
    by_cases h0 : x = 48
    · rw [e, beq_iff_eq.2 h0, Bool.true_or, Bool.true_and]
      refine Ev.step (fun k => ?_) ih
      simp only [impl_RowOk.l0]
      rw [if_pos hlt, if_pos (by omega), bt_mid hb, if_pos h0, hn]
    · by_cases h1 : x = 49
      · rw [e, beq_iff_eq.2 h1, Bool.or_true, Bool.true_and]
        refine Ev.step (fun k => ?_) ih
        simp only [impl_RowOk.l0]
        rw [if_pos hlt, if_pos (by omega), bt_mid hb, if_neg h0, if_pos h1, hn]
      · rw [e, beq_eq_false_iff_ne.2 h0, beq_eq_false_iff_ne.2 h1, Bool.or_false, Bool.false_and]
        refine Ev.step (f := fun _ => some false) (fun k => ?_) (Ev.now _)
        simp only [impl_RowOk.l0]
        rw [if_pos hlt, if_pos (by omega), bt_mid hb, if_neg h0, if_neg h1]
theorem impl_rowok_ev {l : List Int} (hb : Bys l) (hl : l.length ≤ 1048576) : Ev (fun k => impl_RowOk.f k (strOfNums l)) (rowOk l) := by
  unfold impl_RowOk.f rowOk
  by_cases h : l.length ≤ 400000
  · simp only [if_neg (show ¬ ((strOfNums l).size : Int) > 400000 by rw [str_size]; omega), decide_eq_true h, Bool.true_and]
    exact impl_row_loop l [] hb hl
  · simp only [if_pos (show ((strOfNums l).size : Int) > 400000 by rw [str_size]; omega), decide_eq_false h, Bool.false_and]
    exact Ev.now _
theorem rowOk_len {l : List Int} (h : rowOk l = true) : l.length ≤ 400000 := by
  unfold rowOk at h
  rw [Bool.and_eq_true] at h
  exact of_decide_eq_true h.1
theorem rowOk_mem {l : List Int} (h : rowOk l = true) : ∀ x, x ∈ l → x = 48 ∨ x = 49 := by
  unfold rowOk isRow at h
  rw [Bool.and_eq_true, List.all_eq_true] at h
  intro x hx
  have := h.2 x hx
  rw [Bool.or_eq_true, beq_iff_eq, beq_iff_eq] at this
  exact this
theorem rowOk_mk {l : List Int} (h : l.length ≤ 400000) (hm : ∀ x, x ∈ l → x = 48 ∨ x = 49) : rowOk l = true := by
  unfold rowOk isRow
  rw [decide_eq_true h, Bool.true_and, List.all_eq_true]
  intro x hx
  rw [Bool.or_eq_true, beq_iff_eq, beq_iff_eq]
  exact hm x hx
theorem or_bit : ∀ (n : Int) (b : Int), 0 ≤ n → n < 1152921504606846976 → (b = 0 ∨ b = 1) → Go.bits .or .i64 (wrap64 (n * 2)) b = 2 * n + b := by
  intro n b h0 h1 hb
  rw [w64 (by omega) (by omega)]
  have h := Go.bits_join .i64 62 (by decide) (fun m hm0 hm1 => by rw [Go.IntKind.wrap_i64]; omega) 1 (n * 2) b (by omega) (by omega) (by omega) (by omega) (by omega) (by omega)
  rw [h]
  omega
/-- scan.fix: what is read at a place, so many signs. -/
theorem scan_fix_loop : ∀ (d : Nat) (l : List Int) (at_ i w : Nat) (n : Int) (b : Bool), Bys l → (∀ x, x ∈ l → x = 48 ∨ x = 49) → l.length ≤ 400000 → at_ + w ≤ l.length → w ≤ 60 → i + d = w → 0 ≤ n → n < 2 ^ i →
    Ev (fun k => impl_scan_fix.l0 k (w : Int) n (i : Int) (strOfNums l) (at_ : Int) b) (vb n ((l.drop (at_ + i)).take d), strOfNums l, ((at_ + w : Nat) : Int), b)
  | 0, l, at_, i, w, n, b, hb, hm, hl, ha, hw, hi, h0, h1 => by
    refine Ev.step (f := fun _ => some (n, strOfNums l, ((at_ + w : Nat) : Int), b)) (fun k => ?_) (by simp only [List.take_zero, vb]; exact Ev.now _)
    simp only [impl_scan_fix.l0]
    rw [if_neg (by omega), w64 (by omega) (by omega)]
    rfl
  | d + 1, l, at_, i, w, n, b, hb, hm, hl, ha, hw, hi, h0, h1 => by
    have hlt : at_ + i < l.length := by omega
    have hx := hm _ (List.getElem_mem hlt)
    have hd : (l.drop (at_ + i)).take (d + 1) = l[at_ + i] :: (l.drop (at_ + (i + 1))).take d := by
      rw [List.drop_eq_getElem_cons hlt, List.take_succ_cons]
      rfl
    have hg : bt (strOfNums l) ((at_ : Int) + (i : Int)) = l[at_ + i] := by
      rw [bt_get hb (n := at_ + i) (by omega), List.getD_eq_getElem?_getD, List.getElem?_eq_getElem hlt]
      rfl
    have hn59 : n < 2 ^ 59 := by
      have : (2 : Int) ^ i ≤ 2 ^ 59 := by
        have : (2 : Nat) ^ i ≤ 2 ^ 59 := Nat.pow_le_pow_right (by decide) (by omega)
        exact_mod_cast this
      omega
    have ih := scan_fix_loop d l at_ (i + 1) w (2 * n + (l[at_ + i] - 48)) b hb hm hl ha hw (by omega) (by rcases hx with h | h <;> rw [h] <;> omega) (by rw [Int.pow_succ]; rcases hx with h | h <;> rw [h] <;> omega)
    rw [hd, vb]
    refine Ev.step (fun k => ?_) ih
    simp only [impl_scan_fix.l0]
    rw [if_pos (by omega), w64 (x := (at_ : Int) + (i : Int)) (by omega) (by omega), if_pos (by omega), if_pos (by rw [str_size]; omega), hg, w64 (x := (i : Int) + 1) (by omega) (by omega)]
    rw [Int.emod_eq_of_lt (a := l[at_ + i] - 48) (by rcases hx with h | h <;> rw [h] <;> decide) (by rcases hx with h | h <;> rw [h] <;> decide)]
    rw [or_bit n _ h0 (by omega) (by rcases hx with h | h <;> rw [h] <;> decide)]
    rfl
theorem scan_fix_yes {l : List Int} {at_ w : Nat} (hb : Bys l) (hr : rowOk l = true) (ha : at_ + w ≤ l.length) (hw : w ≤ 60) :
    Ev (fun k => impl_scan_fix.f k (strOfNums l) (at_ : Int) false (w : Int)) (vb 0 ((l.drop at_).take w), strOfNums l, ((at_ + w : Nat) : Int), false) := by
  have hl := rowOk_len hr
  have h := scan_fix_loop w l at_ 0 w 0 false hb (rowOk_mem hr) hl ha hw (by omega) (by decide) (by decide)
  rw [Nat.add_zero] at h
  unfold impl_scan_fix.f
  simp only [Bool.false_eq_true, if_false]
  rw [decide_eq_false (by rw [str_size, w64 (by omega) (by omega)]; omega)]
  refine Ev.step (fun k => ?_) h
  simp only [impl_scan_fix.j0, Bool.false_eq_true, if_false]
  rfl
theorem scan_fix_short {l : List Int} {at_ : Nat} {w : Int} (hl : l.length ≤ 1048576) (hle : at_ ≤ l.length) (ha : ((l.length : Int) - (at_ : Int)) < w) :
    Ev (fun k => impl_scan_fix.f k (strOfNums l) (at_ : Int) false w) (0, strOfNums l, (at_ : Int), true) := by
  unfold impl_scan_fix.f
  simp only [Bool.false_eq_true, if_false]
  rw [decide_eq_true (by rw [str_size, w64 (by omega) (by omega)]; exact ha)]
  refine Ev.step (f := fun _ => some (0, strOfNums l, (at_ : Int), true)) (fun k => ?_) (Ev.now _)
  simp only [impl_scan_fix.j0, if_true]
theorem scan_fix_bad (s : ByteArray) (at_ w : Int) : Ev (fun k => impl_scan_fix.f k s at_ true w) (0, s, at_, true) := by
  unfold impl_scan_fix.f
  simp only [if_true]
  refine Ev.step (f := fun _ => some (0, s, at_, true)) (fun k => ?_) (Ev.now _)
  simp only [impl_scan_fix.j0, if_true]
theorem ue_count {l : List Int} {p : Nat} (hb : Bys l) (hl : l.length ≤ 1048576) (hp : p ≤ l.length) {R : Int × ByteArray × Int × Bool} (h : Ev (fun k => impl_scan_ue.j1 k (lz (l.drop p) : Int) (strOfNums l) (p : Int) false) R) :
    ∀ (d z : Nat), z + d = lz (l.drop p) → Ev (fun k => impl_scan_ue.l0 k (z : Int) (strOfNums l) (p : Int) false) R
  | 0, z, hz => by
    have hzz : z = lz (l.drop p) := by omega
    subst hzz
    refine Ev.step (fun k => ?_) h
    have hle := lz_le (l.drop p)
    rw [List.length_drop] at hle
    simp only [impl_scan_ue.l0, Bool.false_eq_true, if_false]
    rw [w64 (by omega) (by omega)]
    by_cases hlt : p + lz (l.drop p) < l.length
    · rw [if_pos (by rw [str_size]; omega), if_pos (by omega), bt_get hb (n := p + lz (l.drop p)) (by omega), ← getD_drop, if_neg (lz_stop _ (by rw [List.length_drop]; omega))]
    · rw [if_neg (by rw [str_size]; omega)]
  | d + 1, z, hz => by
    have ih := ue_count hb hl hp h d (z + 1) (by omega)
    refine Ev.step (fun k => ?_) ih
    have hle := lz_le (l.drop p)
    rw [List.length_drop] at hle
    simp only [impl_scan_ue.l0, Bool.false_eq_true, if_false]
    rw [w64 (by omega) (by omega), if_pos (by rw [str_size]; omega), if_pos (by omega), bt_get hb (n := p + z) (by omega), ← getD_drop, if_pos (lz_get _ z (by omega)), w64 (by omega) (by omega)]
    rfl
theorem scan_ue_some {l : List Int} {p v q : Nat} (hb : Bys l) (hr : rowOk l = true) (hp : p ≤ l.length) (h : rdUe l p = some (v, q)) :
    Ev (fun k => impl_scan_ue.f k (strOfNums l) (p : Int) false) ((v : Int), strOfNums l, (q : Int), false) := by
  have hl := rowOk_len hr
  unfold rdUe at h
  split at h
  · rename_i hc
    obtain ⟨h1, h2, h3⟩ := hc
    have hv := (Prod.mk.inj (Option.some.inj h))
    have hm : ∀ x, x ∈ l.drop p → x = 48 ∨ x = 49 := fun x hx => rowOk_mem hr x (List.mem_of_mem_drop hx)
    have hbig := vb_big hm (lz (l.drop p)) (by rw [List.length_drop]; omega)
    have hts := take_split (l.drop p) (lz (l.drop p) + 1)
    rw [show lz (l.drop p) + (lz (l.drop p) + 1) = 2 * lz (l.drop p) + 1 by omega] at hts
    have heq : vb 0 ((l.drop p).take (2 * lz (l.drop p) + 1)) = vb 0 (((l.drop p).drop (lz (l.drop p))).take (lz (l.drop p) + 1)) := by rw [hts, vb_zeros]
    have hpos : (0 : Int) < 2 ^ lz (l.drop p) := Int.pow_pos (by decide)
    refine ue_count hb (by omega) hp ?_ (lz (l.drop p)) 0 (by omega)
    refine Ev.step (fun k => ?_) (Ev.bind (scan_fix_yes hb hr (at_ := p) (w := 2 * lz (l.drop p) + 1) h2 (by omega)) (f := fun k b => if b.2.2.2 = true then (some (0, b.2.1, b.2.2.1, true)) else (if (wrap64 (b.1 - 1)) > 1000000 then (some (0, b.2.1, b.2.2.1, true)) else (some (wrap64 (b.1 - 1), b.2.1, b.2.2.1, b.2.2.2)))) ?_)
    · simp only [impl_scan_ue.j1]
      rw [if_neg (by omega), w64 (x := 2 * ((lz (l.drop p) : Nat) : Int)) (by omega) (by omega), w64 (by omega) (by omega)]
      rfl
    · simp only [Bool.false_eq_true, if_false]
      rw [w64 (by omega) (by omega), if_neg (by omega), ← hv.1, ← hv.2, Int.toNat_of_nonneg (by omega)]
      exact Ev.now _
  · cases h
theorem scan_ue_none {l : List Int} {p : Nat} (hb : Bys l) (hr : rowOk l = true) (hp : p ≤ l.length) (h : rdUe l p = none) :
    ∃ q, Ev (fun k => impl_scan_ue.f k (strOfNums l) (p : Int) false) (0, strOfNums l, q, true) := by
  have hl := rowOk_len hr
  have hle := lz_le (l.drop p)
  rw [List.length_drop] at hle
  by_cases h1 : lz (l.drop p) ≤ 20
  · by_cases h2 : p + (2 * lz (l.drop p) + 1) ≤ l.length
    · have h3 : ¬ vb 0 ((l.drop p).take (2 * lz (l.drop p) + 1)) - 1 ≤ 1000000 := by
        intro h3
        unfold rdUe at h
        rw [if_pos ⟨h1, h2, h3⟩] at h
        cases h
      have hb2 := vb_bounds ((l.drop p).take (2 * lz (l.drop p) + 1)) 0 1 (fun x hx => rowOk_mem hr x (List.mem_of_mem_drop (List.mem_of_mem_take hx))) (by decide) (by decide)
      have hp60 : (2 : Int) ^ (1 + ((l.drop p).take (2 * lz (l.drop p) + 1)).length) ≤ 2 ^ 60 := by
        have : (2 : Nat) ^ (1 + ((l.drop p).take (2 * lz (l.drop p) + 1)).length) ≤ 2 ^ 60 := Nat.pow_le_pow_right (by decide) (by rw [List.length_take, List.length_drop]; omega)
        exact_mod_cast this
      refine ⟨((p + (2 * lz (l.drop p) + 1) : Nat) : Int), ue_count hb (by omega) hp ?_ (lz (l.drop p)) 0 (by omega)⟩
      refine Ev.step (fun k => ?_) (Ev.bind (scan_fix_yes hb hr (at_ := p) (w := 2 * lz (l.drop p) + 1) h2 (by omega)) (f := fun k b => if b.2.2.2 = true then (some (0, b.2.1, b.2.2.1, true)) else (if (wrap64 (b.1 - 1)) > 1000000 then (some (0, b.2.1, b.2.2.1, true)) else (some (wrap64 (b.1 - 1), b.2.1, b.2.2.1, b.2.2.2)))) ?_)
      · simp only [impl_scan_ue.j1]
        rw [if_neg (by omega), w64 (x := 2 * ((lz (l.drop p) : Nat) : Int)) (by omega) (by omega), w64 (by omega) (by omega)]
        rfl
      · simp only [Bool.false_eq_true, if_false]
        rw [w64 (by omega) (by omega), if_pos (by omega)]
        exact Ev.now _
    · refine ⟨(p : Int), ue_count hb (by omega) hp ?_ (lz (l.drop p)) 0 (by omega)⟩
      refine Ev.step (fun k => ?_) (Ev.bind (scan_fix_short (l := l) (at_ := p) (w := ((2 * lz (l.drop p) + 1 : Nat) : Int)) (by omega) hp (by omega)) (f := fun k b => if b.2.2.2 = true then (some (0, b.2.1, b.2.2.1, true)) else (if (wrap64 (b.1 - 1)) > 1000000 then (some (0, b.2.1, b.2.2.1, true)) else (some (wrap64 (b.1 - 1), b.2.1, b.2.2.1, b.2.2.2)))) ?_)
      · simp only [impl_scan_ue.j1]
        rw [if_neg (by omega), w64 (x := 2 * ((lz (l.drop p) : Nat) : Int)) (by omega) (by omega), w64 (by omega) (by omega)]
        rfl
      · simp only [if_true]
        exact Ev.now _
  · refine ⟨(p : Int), ue_count hb (by omega) hp ?_ (lz (l.drop p)) 0 (by omega)⟩
    refine Ev.step (fun k => ?_) (Ev.bind (scan_fix_bad (strOfNums l) (p : Int) (wrap64 ((wrap64 (2 * ((lz (l.drop p) : Nat) : Int))) + 1))) (f := fun k b => if b.2.2.2 = true then (some (0, b.2.1, b.2.2.1, true)) else (if (wrap64 (b.1 - 1)) > 1000000 then (some (0, b.2.1, b.2.2.1, true)) else (some (wrap64 (b.1 - 1), b.2.1, b.2.2.1, b.2.2.2)))) ?_)
    · simp only [impl_scan_ue.j1]
      rw [if_pos (by omega)]
    · simp only [if_true]
      exact Ev.now _
theorem scan_ue_bad (s : ByteArray) (p : Int) : Ev (fun k => impl_scan_ue.f k s p true) (0, s, p, true) := by
  have hj : Ev (fun k => impl_scan_ue.j1 k 0 s p true) (0, s, p, true) := by
    refine Ev.step (fun k => ?_) (Ev.bind (scan_fix_bad s p (wrap64 ((wrap64 (2 * 0)) + 1))) (f := fun k b => if b.2.2.2 = true then (some (0, b.2.1, b.2.2.1, true)) else (if (wrap64 (b.1 - 1)) > 1000000 then (some (0, b.2.1, b.2.2.1, true)) else (some (wrap64 (b.1 - 1), b.2.1, b.2.2.1, b.2.2.2)))) ?_)
    · simp only [impl_scan_ue.j1]
      rw [if_neg (by decide)]
    · simp only [if_true]
      exact Ev.now _
  unfold impl_scan_ue.f
  refine Ev.step (fun k => ?_) hj
  simp only [impl_scan_ue.l0, if_true]
theorem opened_ev {l : List Int} (hb : Bys l) (hl : l.length ≤ 1048576) (a : Int) : Ev (fun k => impl_opened.f k (strOfNums l) a) (strOfNums l, a, !(rowOk l && decide (0 ≤ a ∧ a ≤ (l.length : Int)))) := by
  unfold impl_opened.f
  refine Ev.bind (impl_rowok_ev hb hl) ?_
  cases h : rowOk l
  · exact Ev.now _
  · simp only [if_true, within_any, Option.bind_some, str_size, Bool.true_and]
    exact Ev.now _
theorem impl_readue_ev {l : List Int} {p v q : Nat} (hb : Bys l) (hr : rowOk l = true) (hp : p ≤ l.length) (h : rdUe l p = some (v, q)) : Ev (fun k => impl_ReadUe.f k (strOfNums l) (p : Int)) ((v : Int), (q : Int), true) := by
  have hl4 := rowOk_len hr
  have ho := opened_ev hb (show l.length ≤ 1048576 by omega) (p : Int)
  rw [hr, decide_eq_true (show 0 ≤ (p : Int) ∧ (p : Int) ≤ (l.length : Int) by omega)] at ho
  unfold impl_ReadUe.f
  refine Ev.bind ho ?_
  simp only [Bool.and_self, Bool.not_true]
  refine Ev.bind (scan_ue_some hb hr hp h) ?_
  simp only [impl_scan_told.f, Bool.false_eq_true, if_false, Option.bind_some]
  exact Ev.now _
theorem shl_small_val : ∀ m : Fin 31, shl .i64 1 ((m : Nat) : Int) = 2 ^ (m : Nat) ∧ (2 : Int) ^ (m : Nat) ≤ 1073741824 ∧ (1 : Int) ≤ 2 ^ (m : Nat) ∧ IntKind.u64.wrap ((m : Nat) : Int) = ((m : Nat) : Int) := by decide +kernel
theorem shl_val (w : Nat) (h : w ≤ 30) : shl .i64 1 (w : Int) = 2 ^ w := (shl_small_val ⟨w, by omega⟩).1
theorem pow_le (w : Nat) (h : w ≤ 30) : (2 : Int) ^ w ≤ 1073741824 := (shl_small_val ⟨w, by omega⟩).2.1
theorem pow_pos (w : Nat) (h : w ≤ 30) : (1 : Int) ≤ 2 ^ w := (shl_small_val ⟨w, by omega⟩).2.2.1
theorem u64_val (w : Nat) (h : w ≤ 30) : IntKind.u64.wrap (w : Int) = (w : Int) := (shl_small_val ⟨w, by omega⟩).2.2.2
theorem shr_bounds {x : Int} (y : Int) (h0 : 0 ≤ x) : 0 ≤ shr .i64 x y ∧ shr .i64 x y ≤ x := by
  unfold shr
  have hp : (0 : Int) < 2 ^ min y.toNat IntKind.i64.bits := by exact_mod_cast Nat.two_pow_pos _
  exact ⟨Int.ediv_nonneg h0 (by omega), Int.ediv_le_self _ h0⟩
theorem u64_mod {x m : Int} (h0 : 0 ≤ x) (hm : 0 < m) (h30 : m ≤ 31) : 0 ≤ IntKind.u64.wrap (Int.tmod x m) := by
  obtain ⟨w, hw⟩ := Int.eq_ofNat_of_zero_le (show 0 ≤ Int.tmod x m from Int.tmod_nonneg _ h0)
  have hw1 : Int.tmod x m < m := Int.tmod_lt_of_pos _ hm
  rw [hw, u64_val w (by omega)]
  omega
theorem str_toList (l : List Int) : (strOfNums l).toList = l.map fun n => UInt8.ofNat n.toNat := by
  rw [Go.ByteArray.toList_eq, strOfNums_data]
theorem str_toList_nil {l : List Int} : (strOfNums l).toList = ([] : List UInt8) ↔ l = [] := by
  rw [str_toList, List.map_eq_nil_iff]
theorem str_toList_inj {l m : List Int} (hl : Bys l) (hm : Bys m) : (strOfNums l).toList = (strOfNums m).toList ↔ l = m := by
  constructor
  · intro h
    apply str_inj hl hm
    apply ByteArray.ext
    apply Array.ext'
    rw [← Go.ByteArray.toList_eq, ← Go.ByteArray.toList_eq, h]
  · intro h
    rw [h]
theorem counts_tail {m : List Int} {c1 c2 : Int} (h60 : m.length ≤ 60) (hmx : ∀ x, x ∈ m → x = 48 ∨ x = 49) (l1 : 0 ≤ c1) (u1 : c1 ≤ 1000000) (l2 : 0 ≤ c2) (u2 : c2 ≤ 1000000) :
    Ev (fun k => (impl_UeRow.f k c1).bind fun b1 => (impl_UeRow.f k c2).bind fun b2 => (if (strOfNums m).size + b1.1.size ≤ 9223372036854775807 then (if (strOfNums m ++ b1.1).size + b2.1.size ≤ 9223372036854775807 then ((impl_ReadUe.f k ((strOfNums m ++ b1.1) ++ b2.1) ((strOfNums m).size : Int)).bind fun r1 => ((impl_ReadUe.f k ((strOfNums m ++ b1.1) ++ b2.1) r1.2.1).bind fun r2 => (if b1.2 = true then (if b2.2 = true then (if r1.2.2 = true then (if r2.2.2 = true then (if r1.1 = c1 then (if r2.1 = c2 then (if r1.2.1 = (wrap64 (((strOfNums m).size : Int) + (b1.1.size : Int))) then (if r2.2.1 = (wrap64 (r1.2.1 + (b2.1.size : Int))) then ((impl_UeSize.f k c1).bind fun t => (if t = (b1.1.size : Int) then (if c1 = c2 then (some true) else (if (b1.1.size : Int) > (b2.1.size : Int) then (some true) else (if 0 ≤ (b1.1.size : Int) then (if (b1.1.size : Int) ≤ (b2.1.size : Int) then (some ((b2.1.extract 0 ((b1.1.size : Int) : Int).toNat).toList != b1.1.toList)) else (none)) else (none)))) else (some false))) else (some false)) else (some false)) else (some false)) else (some false)) else (some false)) else (some false)) else (some false)) else (some false)))) else (none)) else (none))) true := by
  obtain ⟨n1, rfl⟩ := Int.eq_ofNat_of_zero_le l1
  obtain ⟨n2, rfl⟩ := Int.eq_ofNat_of_zero_le l2
  have k1 := ueL_size (n := n1) (by omega)
  have k2 := ueL_size (n := n2) (by omega)
  have s1 := impl_uerow_ev (n1 : Int)
  have s2 := impl_uerow_ev (n2 : Int)
  unfold ueRow at s1 s2
  rw [if_pos ⟨l1, u1⟩, Int.toNat_natCast] at s1
  rw [if_pos ⟨l2, u2⟩, Int.toNat_natCast] at s2
  have hrow : ∀ x, x ∈ m ++ (ueL n1 ++ ueL n2) → x = 48 ∨ x = 49 := fun x h => by
    rcases List.mem_append.1 h with h | h
    · exact hmx x h
    · rcases List.mem_append.1 h with h | h
      · exact ueL_row n1 x h
      · exact ueL_row n2 x h
  have hlen : (m ++ (ueL n1 ++ ueL n2)).length = m.length + ((ueL n1).length + (ueL n2).length) := by rw [List.length_append, List.length_append]
  have hok := rowOk_mk (l := m ++ (ueL n1 ++ ueL n2)) (by omega) hrow
  have r1 := impl_readue_ev (Bys.signs hrow) hok (p := m.length) (by omega) (rdUe_ue (pre := m) (suf := ueL n2) (n := n1) (by omega))
  have r2 := rdUe_ue (pre := m ++ ueL n1) (suf := []) (n := n2) (by omega)
  rw [List.append_nil, List.append_assoc, List.length_append] at r2
  have r2 := impl_readue_ev (Bys.signs hrow) hok (p := m.length + (ueL n1).length) (by omega) r2
  refine Ev.bind s1 (Ev.bind s2 ?_)
  simp only [str_size, str_append, List.append_assoc, List.length_append, if_pos (show m.length + (ueL n1).length ≤ 9223372036854775807 by omega), if_pos (show m.length + (ueL n1).length + (ueL n2).length ≤ 9223372036854775807 by omega)]
  refine Ev.bind r1 (Ev.bind r2 ?_)
  simp only [if_true]
  rw [w64 (x := (m.length : Int) + ((ueL n1).length : Int)) (by omega) (by omega), w64 (x := ((m.length + (ueL n1).length : Nat) : Int) + ((ueL n2).length : Int)) (by omega) (by omega)]
  simp only [if_pos (show ((m.length + (ueL n1).length : Nat) : Int) = (m.length : Int) + ((ueL n1).length : Int) by omega), if_pos (show ((m.length + (ueL n1).length + (ueL n2).length : Nat) : Int) = ((m.length + (ueL n1).length : Nat) : Int) + ((ueL n2).length : Int) by omega)]
  unfold impl_UeSize.f
  refine Ev.bind (Ev.bind s1 (Ev.now _)) ?_
  simp only [str_size, if_true]
  by_cases hc : (n1 : Int) = (n2 : Int)
  · rw [if_pos hc]
    exact Ev.now _
  · rw [if_neg hc]
    by_cases hg : ((ueL n1).length : Int) > ((ueL n2).length : Int)
    · rw [if_pos hg]
      exact Ev.now _
    · rw [if_neg hg, if_pos (by omega), if_pos (by omega), Int.toNat_natCast, str_extract, List.drop_zero]
      have hne : ¬ ((strOfNums ((ueL n2).take (ueL n1).length)).toList = (strOfNums (ueL n1)).toList) := by
        rw [str_toList_inj ((ueL_bys n2).take _) (ueL_bys n1)]
        intro e
        have h1 := rdUe_ue (pre := []) (suf := (ueL n2).drop (ueL n1).length) (n := n1) (by omega)
        have h2 := rdUe_ue (pre := []) (suf := []) (n := n2) (by omega)
        rw [List.nil_append, List.append_nil] at h2
        rw [List.nil_append, ← e] at h1
        rw [e] at h1
        have h3 : ueL n1 ++ (ueL n2).drop (ueL n1).length = ueL n2 := by
          refine Eq.trans ?_ (List.take_append_drop (ueL n1).length (ueL n2))
          rw [e]
        rw [h3, h2] at h1
        injection h1 with h1
        have h4 := congrArg Prod.fst h1
        dsimp only at h4
        omega
      rw [show ((strOfNums ((ueL n2).take (ueL n1).length)).toList != (strOfNums (ueL n1)).toList) = true by simpa using hne]
      exact Ev.now _
theorem FnCounts : laws_FnCounts.Pure := by
  intro l hl _ _
  refine Ev.rounds ?_
  unfold laws_FnCounts.f laws_big.f
  simp only [Option.bind_some]
  by_cases hbig : (l.length : Int) > 1048576
  · rw [decide_eq_true hbig]
    exact Ev.now _
  · rw [decide_eq_false hbig]
    simp only [Bool.false_eq_true, if_false]
    obtain ⟨p, hp, h12, hx⟩ := places_ev hl
    obtain ⟨m, hm, h60, hmx⟩ := row_ev hl
    refine Ev.bind hp (Ev.bind hm ?_)
    have q0 : 0 ≤ rd p 0 ∧ rd p 0 < 10000 := place_at h12 hx (i := 0) (by decide)
    have q1 : 0 ≤ rd p 1 ∧ rd p 1 < 10000 := place_at h12 hx (i := 1) (by decide)
    have q2 : 0 ≤ rd p 2 ∧ rd p 2 < 10000 := place_at h12 hx (i := 2) (by decide)
    have q3 : 0 ≤ rd p 3 ∧ rd p 3 < 10000 := place_at h12 hx (i := 3) (by decide)
    have q4 : 0 ≤ rd p 4 ∧ rd p 4 < 10000 := place_at h12 hx (i := 4) (by decide)
    have q5 : 0 ≤ rd p 5 ∧ rd p 5 < 10000 := place_at h12 hx (i := 5) (by decide)
    have m1 : 0 ≤ Int.tmod (rd p 1) 100 := Int.tmod_nonneg _ q1.1
    have m2 : Int.tmod (rd p 1) 100 < 100 := Int.tmod_lt_of_pos _ (by decide)
    have m3 : 0 ≤ Int.tmod (rd p 4) 100 := Int.tmod_nonneg _ q4.1
    have m4 : Int.tmod (rd p 4) 100 < 100 := Int.tmod_lt_of_pos _ (by decide)
    have w2 := u64_mod (m := 20) q2.1 (by decide) (by decide)
    have w5 := u64_mod (m := 20) q5.1 (by decide) (by decide)
    rw [w64 (x := rd p 0 * 100) (by omega) (by omega), w64 (x := rd p 0 * 100 + Int.tmod (rd p 1) 100) (by omega) (by omega), w64 (x := rd p 3 * 100) (by omega) (by omega), w64 (x := rd p 3 * 100 + Int.tmod (rd p 4) 100) (by omega) (by omega)]
    have c1 := shr_bounds (x := rd p 0 * 100 + Int.tmod (rd p 1) 100) (IntKind.u64.wrap (Int.tmod (rd p 2) 20)) (by omega)
    have c2 := shr_bounds (x := rd p 3 * 100 + Int.tmod (rd p 4) 100) (IntKind.u64.wrap (Int.tmod (rd p 5) 20)) (by omega)
    generalize shr .i64 (rd p 0 * 100 + Int.tmod (rd p 1) 100) (IntKind.u64.wrap (Int.tmod (rd p 2) 20)) = x1 at c1 ⊢
    generalize shr .i64 (rd p 3 * 100 + Int.tmod (rd p 4) 100) (IntKind.u64.wrap (Int.tmod (rd p 5) 20)) = x2 at c2 ⊢
    simp only [if_pos (show (0 : Int) < (p.length : Int) by omega), if_pos (show (1 : Int) < (p.length : Int) by omega), if_pos (show (2 : Int) < (p.length : Int) by omega), if_pos (show (3 : Int) < (p.length : Int) by omega), if_pos (show (4 : Int) < (p.length : Int) by omega), if_pos (show (5 : Int) < (p.length : Int) by omega), if_pos w2, if_pos w5]
    exact counts_tail h60 hmx c1.1 (by omega) c2.1 (by omega)

end Go.Proofs.Ytmidnldhfidlkaa.Pure
