/- A fixed number of signs, put behind a row, is read back. -/
import Derived.Test.YtmidnldhfidlkaaQFnFixedx3
set_option linter.unusedVariables false
set_option linter.unusedSimpArgs false
namespace Go.Proofs.Ytmidnldhfidlkaa.Pure
open Go.RowKit Go.Proofs.Ytmidnldhfidlkaa.QFnFixed Go.Proofs.YtmidnldhfidlkaaW.PrintWords Go.Proofs.YtmidnldhfidlkaaW.PrintLast Go.Proofs.YtmidnldhfidlkaaW.PrintMore

/-! ### Bytes as lists of numbers, and some plain facts -/
theorem w64 {x : Int} (h0 : -9223372036854775808 ≤ x) (h1 : x ≤ 9223372036854775807) : wrap64 x = x := by
  unfold wrap64
  omega
theorem i64_bounds {x : Int} (h : (Lit.int .i64 x).wf = true) : -9223372036854775808 ≤ x ∧ x ≤ 9223372036854775807 := by
  have e := h
  simp [Lit.wf, IntKind.min, IntKind.max, IntKind.signed, IntKind.bits] at e
  omega
/-- All numbers of the list are bytes. -/
def Bys (l : List Int) : Prop := ∀ x, x ∈ l → 0 ≤ x ∧ x < 256
theorem Bys.nil : Bys [] := fun _ h => by cases h
theorem Bys.cons {x : Int} {l : List Int} (h0 : 0 ≤ x) (h1 : x < 256) (h : Bys l) : Bys (x :: l) := fun y hy => by
  rcases List.mem_cons.1 hy with rfl | hy
  · exact ⟨h0, h1⟩
  · exact h y hy
theorem Bys.append {l m : List Int} (h : Bys l) (h' : Bys m) : Bys (l ++ m) := fun y hy => by
  rcases List.mem_append.1 hy with hy | hy
  · exact h y hy
  · exact h' y hy
theorem Bys.left {l m : List Int} (h : Bys (l ++ m)) : Bys l := fun y hy => h y (List.mem_append_left _ hy)
theorem Bys.right {l m : List Int} (h : Bys (l ++ m)) : Bys m := fun y hy => h y (List.mem_append_right _ hy)
theorem Bys.take {l : List Int} (h : Bys l) (n : Nat) : Bys (l.take n) := fun y hy => h y (List.mem_of_mem_take hy)
theorem Bys.drop {l : List Int} (h : Bys l) (n : Nat) : Bys (l.drop n) := fun y hy => h y (List.mem_of_mem_drop hy)
theorem Bys.getD {l : List Int} (h : Bys l) (i : Nat) : 0 ≤ l.getD i 0 ∧ l.getD i 0 < 256 := by
  rw [List.getD_eq_getElem?_getD]
  by_cases hi : i < l.length
  · rw [List.getElem?_eq_getElem hi]
    exact h _ (List.getElem_mem hi)
  · rw [List.getElem?_eq_none (by omega)]
    exact ⟨by decide, by decide⟩
theorem nums_of (a : ByteArray) : ∃ l, Bys l ∧ a = strOfNums l := by
  refine ⟨a.data.toList.map fun u => (u.toNat : Int), ?_, ?_⟩
  · intro x hx
    obtain ⟨u, _, rfl⟩ := List.mem_map.1 hx
    have := u.toNat_lt
    omega
  · unfold strOfNums
    rw [List.map_map]
    have e : ((fun n : Int => UInt8.ofNat n.toNat) ∘ fun u : UInt8 => (u.toNat : Int)) = id := by
      funext u
      simp
    rw [e, List.map_id]
theorem str_size (l : List Int) : (strOfNums l).size = l.length := strOfNums_size l
theorem bt_str {l : List Int} (h : Bys l) (i : Int) : bt (strOfNums l) i = l.getD i.toNat 0 := by
  unfold bt
  rw [List.getD_eq_getElem?_getD]
  split
  · rename_i hi
    have hi' : i.toNat < l.length := by rw [← str_size]; exact hi
    rw [List.getElem?_eq_getElem hi']
    have hb := h _ (List.getElem_mem hi')
    have e : (strOfNums l)[i.toNat]'hi = UInt8.ofNat (l[i.toNat]).toNat := by
      simp [strOfNums, ByteArray.getElem_eq_getElem_data]
    rw [e, UInt8.toNat_ofNat']
    simp only [Option.getD_some]
    omega
  · rename_i hi
    rw [List.getElem?_eq_none (by rw [← str_size]; omega)]
    rfl
theorem bt_get {l : List Int} (h : Bys l) {i : Int} {n : Nat} (hi : i = (n : Int)) : bt (strOfNums l) i = l.getD n 0 := by
  rw [bt_str h, hi, Int.toNat_natCast]
theorem str_append (l m : List Int) : strOfNums l ++ strOfNums m = strOfNums (l ++ m) := by
  apply ByteArray.ext
  rw [ByteArray.data_append]
  unfold strOfNums
  simp
theorem str_empty : (⟨#[]⟩ : ByteArray) = strOfNums [] := rfl
theorem str_inj {l m : List Int} (hl : Bys l) (hm : Bys m) (h : strOfNums l = strOfNums m) : l = m := by
  have hs : l.length = m.length := by rw [← str_size l, ← str_size m, h]
  apply List.ext_getElem hs
  intro i h1 h2
  have e1 := bt_get hl (i := (i : Int)) rfl
  have e2 := bt_get hm (i := (i : Int)) rfl
  rw [h, e2] at e1
  simp [List.getD_eq_getElem?_getD, h1, h2] at e1
  exact e1.symm
theorem str_extract (l : List Int) (i j : Nat) : (strOfNums l).extract i j = strOfNums ((l.take j).drop i) := by
  apply ByteArray.ext
  rw [ByteArray.data_extract]
  unfold strOfNums
  apply Array.ext'
  simp [List.extract_eq_take_drop, List.drop_take, List.map_drop, List.map_take]
theorem getD_mid (pre suf : List Int) (x : Int) : (pre ++ x :: suf).getD pre.length 0 = x := by
  rw [List.getD_eq_getElem?_getD, List.getElem?_append_right (Nat.le_refl _)]
  simp
theorem bt_mid {pre suf : List Int} {x : Int} (h : Bys (pre ++ x :: suf)) : bt (strOfNums (pre ++ x :: suf)) (pre.length : Int) = x := by
  rw [bt_get h rfl, getD_mid]
theorem rd_mid (pre suf : List Int) (x : Int) : rd (pre ++ x :: suf) (pre.length : Int) = x := by
  unfold rd
  rw [Int.toNat_natCast, getD_mid]
theorem snoc_cons (pre suf : List Int) (x : Int) : pre ++ x :: suf = (pre ++ [x]) ++ suf := by simp
theorem next_len (pre : List Int) (x : Int) (h : pre.length < 4611686018427387904) : wrap64 ((pre.length : Int) + 1) = ((pre ++ [x]).length : Int) := by
  rw [w64 (by omega) (by omega)]
  simp
theorem lt_mid (pre suf : List Int) (x : Int) : (pre.length : Int) < ((strOfNums (pre ++ x :: suf)).size : Int) := by
  rw [str_size]
  simp
  omega
theorem ge_end (pre : List Int) : ¬ ((pre.length : Int) < ((strOfNums pre).size : Int)) := by
  rw [str_size]
  omega
theorem mid_byte {pre suf : List Int} {x : Int} (h : Bys (pre ++ x :: suf)) : 0 ≤ x ∧ x < 256 := h x (by simp)
theorem exact_sb {g h : Nat → Option (ByteArray × Bool)} {v : ByteArray × Bool} (hg : Ev g v) (hh : Ev h v) :
    Ev (fun k => (g k).bind fun b1 => (h k).bind fun b2 => if b2.1.toList = b1.1.toList then (if (b2.2 != b1.2) = true then some false else some true) else some false) true := by
  refine Ev.bind hg (Ev.bind hh ?_)
  simp only [if_true, bne_self_eq_false, Bool.false_eq_true, if_false]
  exact Ev.now _
theorem exact_i {g h : Nat → Option Int} {v : Int} (hg : Ev g v) (hh : Ev h v) :
    Ev (fun k => (g k).bind fun b1 => (h k).bind fun b2 => if b2 = b1 then some true else some false) true := by
  refine Ev.bind hg (Ev.bind hh ?_)
  simp only [if_true]
  exact Ev.now _
theorem exact_s {g h : Nat → Option ByteArray} {v : ByteArray} (hg : Ev g v) (hh : Ev h v) :
    Ev (fun k => (g k).bind fun b1 => (h k).bind fun b2 => if b2.toList = b1.toList then some true else some false) true := by
  refine Ev.bind hg (Ev.bind hh ?_)
  simp only [if_true]
  exact Ev.now _
theorem exact_ib {g h : Nat → Option (Int × Bool)} {v : Int × Bool} (hg : Ev g v) (hh : Ev h v) :
    Ev (fun k => (g k).bind fun b1 => (h k).bind fun b2 => if b2.1 = b1.1 then (if (b2.2 != b1.2) = true then some false else some true) else some false) true := by
  refine Ev.bind hg (Ev.bind hh ?_)
  simp only [if_true, bne_self_eq_false, Bool.false_eq_true, if_false]
  exact Ev.now _
theorem exact_iib {g h : Nat → Option (Int × Int × Bool)} {v : Int × Int × Bool} (hg : Ev g v) (hh : Ev h v) :
    Ev (fun k => (g k).bind fun b1 => (h k).bind fun b2 => if b2.1 = b1.1 then (if b2.2.1 = b1.2.1 then (if (b2.2.2 != b1.2.2) = true then some false else some true) else some false) else some false) true := by
  refine Ev.bind hg (Ev.bind hh ?_)
  simp only [if_true, bne_self_eq_false, Bool.false_eq_true, if_false]
  exact Ev.now _
theorem exact_b {g h : Nat → Option Bool} {v : Bool} (hg : Ev g v) (hh : Ev h v) :
    Ev (fun k => (g k).bind fun b1 => (h k).bind fun b2 => if (b2 != b1) = true then some false else some true) true := by
  refine Ev.bind hg (Ev.bind hh ?_)
  simp only [bne_self_eq_false, Bool.false_eq_true, if_false]
  exact Ev.now _
theorem ev_now {α : Type} {g : Nat → Option α} {v : α} (h : ∀ k, g k = some v) : Ev g v := Ev.congr h (Ev.now v)
theorem and255 (x : Int) : 0 ≤ Go.bits .and .i64 x 255 ∧ Go.bits .and .i64 x 255 ≤ 255 := by
  have h : ((BitVec.ofInt 64 x) &&& (BitVec.ofInt 64 255)).toNat ≤ 255 := by
    rw [BitVec.toNat_and]
    exact Nat.le_trans Nat.and_le_right (by decide)
  have e : Go.bits .and .i64 x 255 = ((((BitVec.ofInt 64 x) &&& (BitVec.ofInt 64 255)).toNat : Nat) : Int) := by
    show IntKind.i64.wrap ((((BitVec.ofInt 64 x) &&& (BitVec.ofInt 64 255)).toNat : Nat) : Int) = _
    rw [IntKind.wrap_i64]
    omega
  omega
/-- A byte is drawn. -/
theorem byte_ev {l : List Int} {a : Int} (n : Int) (h0 : 0 ≤ a) (hl : l.length ≤ maxLen) : ∃ v a' n', spec_l01Byte.f l a n = some (v, a', n') ∧ 0 ≤ v ∧ v ≤ 255 ∧ 0 ≤ a' := by
  have hm : maxLen ≤ 9223372036854775807 := by decide
  unfold spec_l01Byte.f
  by_cases h : a < (l.length : Int)
  · rw [if_pos h, if_pos h0]
    exact ⟨_, _, _, rfl, (and255 _).1, (and255 _).2, by rw [w64 (by omega) (by omega)]; omega⟩
  · rw [if_neg h]
    exact ⟨_, _, _, rfl, (and255 _).1, (and255 _).2, h0⟩
/-- A number below another is drawn. -/
theorem below_ev {l : List Int} {a : Int} (n : Int) {m : Int} (h0 : 0 ≤ a) (hl : l.length ≤ maxLen) (hm : 0 < m) : ∃ v a' n', spec_l01Below.f l a n m = some (v, a', n') ∧ 0 ≤ v ∧ v < m ∧ 0 ≤ a' := by
  unfold spec_l01Below.f
  rw [if_neg (by omega)]
  obtain ⟨v1, a1, n1, e1, l1, u1, p1⟩ := byte_ev n h0 hl
  by_cases h : m ≤ 256
  · rw [if_pos h, e1]
    simp only [Option.bind_some, if_neg (show ¬ m = 0 by omega)]
    refine ⟨_, _, _, rfl, ?_, ?_, p1⟩
    · exact Int.tmod_nonneg _ l1
    · exact Int.tmod_lt_of_pos _ hm
  · obtain ⟨v2, a2, n2, e2, l2, u2, p2⟩ := byte_ev n1 p1 hl
    obtain ⟨v3, a3, n3, e3, l3, u3, p3⟩ := byte_ev n2 p2 hl
    obtain ⟨v4, a4, n4, e4, l4, u4, p4⟩ := byte_ev n3 p3 hl
    rw [if_neg h, e1]
    simp only [Option.bind_some, e2, e3, e4, if_neg (show ¬ m = 0 by omega)]
    rw [w64 (x := v1 * 16777216) (by omega) (by omega), w64 (x := v2 * 65536) (by omega) (by omega), w64 (x := v3 * 256) (by omega) (by omega), w64 (x := v1 * 16777216 + v2 * 65536) (by omega) (by omega), w64 (x := v1 * 16777216 + v2 * 65536 + v3 * 256) (by omega) (by omega), w64 (x := v1 * 16777216 + v2 * 65536 + v3 * 256 + v4) (by omega) (by omega)]
    refine ⟨_, _, _, rfl, ?_, ?_, p4⟩
    · exact Int.tmod_nonneg _ (by omega)
    · exact Int.tmod_lt_of_pos _ hm
theorem new_loop {l : List Int} (hl : l.length ≤ maxLen) : ∀ (d i : Nat) (h : Int), i + d = min l.length 4000 → ∃ s, Ev (fun k => spec_l01New.l0 k l h (i : Int)) (l, 0, s)
  | 0, i, h, hi => by
    refine ⟨h, Ev.step (f := fun _ => some (l, 0, h)) (fun k => ?_) (Ev.now _)⟩
    simp only [spec_l01New.l0]
    by_cases h1 : (i : Int) < (l.length : Int)
    · rw [if_pos h1, if_neg (by omega)]
    · rw [if_neg h1]
  | d + 1, i, h, hi => by
    obtain ⟨s, hs⟩ := new_loop hl d (i + 1) (Go.bits .and .i64 (wrap64 ((wrap64 ((wrap64 (h * 131)) + (wrap64 (rd l (i : Int))))) + 7)) 1073741823) (by omega)
    refine ⟨s, Ev.step (fun k => ?_) hs⟩
    simp only [spec_l01New.l0]
    rw [if_pos (by omega), if_pos (by omega), if_pos (by omega), w64 (x := (i : Int) + 1) (by omega) (by omega)]
    rfl
theorem new_ev {l : List Int} (hl : l.length ≤ maxLen) : ∃ s, Ev (fun k => spec_l01New.f k l) (l, 0, s) := by
  unfold spec_l01New.f
  exact new_loop hl (min l.length 4000) 0 _ (by omega)
theorem places_loop {l : List Int} (hl : l.length ≤ maxLen) : ∀ (d i : Nat) (acc : List Int) (a n : Int), i + d = 12 → acc.length = i → 0 ≤ a → (∀ x, x ∈ acc → 0 ≤ x ∧ x < 10000) → ∃ p, Ev (fun k => spec_DrawPlaces.l0 k acc (i : Int) l a n) p ∧ p.length = 12 ∧ ∀ x, x ∈ p → 0 ≤ x ∧ x < 10000
  | 0, i, acc, a, n, hi, ha, h0, hx => by
    refine ⟨acc, Ev.step (f := fun _ => some acc) (fun k => ?_) (Ev.now _), by omega, hx⟩
    simp only [spec_DrawPlaces.l0]
    rw [if_neg (by omega)]
  | d + 1, i, acc, a, n, hi, ha, h0, hx => by
    obtain ⟨v, a', n', e, v0, v1, p1⟩ := below_ev n h0 hl (show (0 : Int) < 10000 by decide)
    obtain ⟨p, hp, hlen, hq⟩ := places_loop hl d (i + 1) (acc ++ [v]) a' n' (by omega) (by simp; omega) p1 (fun x h => by
      rcases List.mem_append.1 h with h | h
      · exact hx x h
      · rw [List.mem_singleton.1 h]
        exact ⟨v0, v1⟩)
    refine ⟨p, Ev.step (fun k => ?_) hp, hlen, hq⟩
    simp only [spec_DrawPlaces.l0]
    rw [if_pos (by omega), e]
    simp only [Option.bind_some, if_pos (show acc.length < 17592186044416 by omega)]
    rw [w64 (x := (i : Int) + 1) (by omega) (by omega)]
    rfl
theorem places_ev {l : List Int} (hl : l.length ≤ maxLen) : ∃ p, Ev (fun k => spec_DrawPlaces.f k l) p ∧ p.length = 12 ∧ ∀ x, x ∈ p → 0 ≤ x ∧ x < 10000 := by
  obtain ⟨s, hs⟩ := new_ev hl
  obtain ⟨v, a', n', e, _, _, p1⟩ := byte_ev (a := 0) s (by decide) hl
  obtain ⟨p, hp, h1, h2⟩ := places_loop hl 12 0 [] a' n' rfl rfl p1 (fun x h => by cases h)
  refine ⟨p, ?_, h1, h2⟩
  unfold spec_DrawPlaces.f
  refine Ev.bind hs ?_
  simp only [e, Option.bind_some]
  exact hp
theorem place_at {p : List Int} (h1 : p.length = 12) (h2 : ∀ x, x ∈ p → 0 ≤ x ∧ x < 10000) {i : Nat} (hi : i < 12) : 0 ≤ rd p (i : Int) ∧ rd p (i : Int) < 10000 := by
  unfold rd
  rw [Int.toNat_natCast, List.getD_eq_getElem?_getD, List.getElem?_eq_getElem (by omega)]
  exact h2 _ (List.getElem_mem _)
theorem drawsigns_loop {l : List Int} (hl : l.length ≤ maxLen) : ∀ (d i m : Nat) (acc : List Int) (a n : Int), i + d = m → m ≤ 1000 → acc.length = i → 0 ≤ a → (∀ x, x ∈ acc → x = 48 ∨ x = 49) → ∃ p a' n', Ev (fun k => spec_l02Signs.l0 k (m : Int) acc (i : Int) l a n) (strOfNums p, a', n') ∧ p.length = m ∧ (∀ x, x ∈ p → x = 48 ∨ x = 49) ∧ 0 ≤ a'
  | 0, i, m, acc, a, n, hi, hm, ha, h0, hx => by
    refine ⟨acc, a, n, Ev.step (f := fun _ => some (strOfNums acc, a, n)) (fun k => ?_) (Ev.now _), by omega, hx, h0⟩
    simp only [spec_l02Signs.l0]
    rw [if_neg (by omega)]
  | d + 1, i, m, acc, a, n, hi, hm, ha, h0, hx => by
    obtain ⟨v, a', n', e, v0, v1, p1⟩ := below_ev n h0 hl (show (0 : Int) < 2 by decide)
    obtain ⟨p, a2, n2, hp, hlen, hq, p2⟩ := drawsigns_loop hl d (i + 1) m (acc ++ [48 + v]) a' n' (by omega) hm (by simp; omega) p1 (fun x h => by
      rcases List.mem_append.1 h with h | h
      · exact hx x h
      · rw [List.mem_singleton.1 h]
        omega)
    refine ⟨p, a2, n2, Ev.step (fun k => ?_) hp, hlen, hq, p2⟩
    simp only [spec_l02Signs.l0]
    rw [if_pos (by omega), e]
    simp only [Option.bind_some, if_pos (show acc.length < 140737488355328 by omega)]
    rw [w64 (x := (i : Int) + 1) (by omega) (by omega), w64 (x := 48 + v) (by omega) (by omega), Int.emod_eq_of_lt (by omega) (by omega)]
    rfl
theorem row_ev {l : List Int} (hl : l.length ≤ maxLen) : ∃ p, Ev (fun k => spec_DrawRow.f k l) (strOfNums p) ∧ p.length ≤ 60 ∧ ∀ x, x ∈ p → x = 48 ∨ x = 49 := by
  obtain ⟨s, hs⟩ := new_ev hl
  obtain ⟨v, a', n', e, v0, v1, p1⟩ := below_ev (a := 0) s (by decide) hl (show (0 : Int) < 61 by decide)
  obtain ⟨m, rfl⟩ := Int.eq_ofNat_of_zero_le v0
  obtain ⟨p, a2, n2, hp, hlen, hq, _⟩ := drawsigns_loop hl m 0 m [] a' n' (by omega) (by omega) rfl p1 (fun x h => by cases h)
  refine ⟨p, ?_, by omega, hq⟩
  unfold spec_DrawRow.f
  refine Ev.bind hs ?_
  simp only [e, Option.bind_some]
  unfold spec_l02Signs.f
  exact Ev.bind hp (Ev.now _)
theorem Bys.signs {p : List Int} (h : ∀ x, x ∈ p → x = 48 ∨ x = 49) : Bys p := fun x hx => by
  rcases h x hx with h | h <;> omega
/-- The signs of a number, so many. -/
def sg : Nat → Int → List Int
  | 0, _ => []
  | w + 1, n => sg w (n / 2) ++ [48 + n % 2]
theorem sg_len : ∀ (w : Nat) (n : Int), (sg w n).length = w
  | 0, _ => rfl
  | w + 1, n => by simp [sg, sg_len w]
theorem sg_row : ∀ (w : Nat) (n : Int), ∀ x, x ∈ sg w n → x = 48 ∨ x = 49
  | 0, _ => fun _ h => by cases h
  | w + 1, n => fun x hx => by
    rcases List.mem_append.1 hx with h | h
    · exact sg_row w _ x h
    · have : x = 48 + n % 2 := by simpa using h
      omega
theorem sg_bys (w : Nat) (n : Int) : Bys (sg w n) := fun x hx => by
  rcases sg_row w n x hx with h | h <;> omega
theorem set_rep (j : Nat) (v : Int) (tl : List Int) : (List.replicate (j + 1) (0 : Int) ++ tl).set j v = List.replicate j 0 ++ v :: tl := by
  rw [List.replicate_succ', List.append_assoc, List.set_append_right _ _ (by simp)]
  simp
/-- The number that signs tell, behind n. -/
def vb : Int → List Int → Int
  | n, [] => n
  | n, x :: l => vb (2 * n + (x - 48)) l
theorem vb_bounds : ∀ (l : List Int) (n : Int) (j : Nat), (∀ x, x ∈ l → x = 48 ∨ x = 49) → 0 ≤ n → n < 2 ^ j → 0 ≤ vb n l ∧ vb n l < 2 ^ (j + l.length)
  | [], n, j, _, h0, h1 => ⟨h0, by simpa [vb] using h1⟩
  | x :: l, n, j, hm, h0, h1 => by
    have hx := hm x (by simp)
    have h2 : 2 * n + (x - 48) < 2 ^ (j + 1) := by
      rw [Int.pow_succ]
      rcases hx with rfl | rfl <;> omega
    have := vb_bounds l (2 * n + (x - 48)) (j + 1) (fun y hy => hm y (by simp [hy])) (by rcases hx with rfl | rfl <;> omega) h2
    rw [show j + (x :: l).length = j + 1 + l.length by simp; omega]
    exact this
theorem vb_append : ∀ (l m : List Int) (n : Int), vb n (l ++ m) = vb (vb n l) m
  | [], _, _ => rfl
  | x :: l, m, n => by simp only [List.cons_append, vb, vb_append l m]
theorem vb_zeros : ∀ (j : Nat) (l : List Int), vb 0 (List.replicate j 48 ++ l) = vb 0 l
  | 0, _ => rfl
  | j + 1, l => by
    rw [List.replicate_succ, List.cons_append, vb]
    exact vb_zeros j l
theorem vb_sg : ∀ (w : Nat) (n : Int), 0 ≤ n → n < 2 ^ w → vb 0 (sg w n) = n
  | 0, n, h0, h1 => by
    simp only [Int.pow_zero] at h1
    simp only [sg, vb]
    omega
  | w + 1, n, h0, h1 => by
    rw [Int.pow_succ] at h1
    rw [sg, vb_append, vb_sg w (n / 2) (by omega) (by omega)]
    simp only [vb]
    omega
theorem and1_val (n : Int) (h0 : 0 ≤ n) (h1 : n < 4611686018427387904) : Go.bits .and .i64 n 1 = n % 2 := by
  have h := Go.bits_mask .i64 62 (by decide) (fun m hm0 hm1 => by rw [Go.IntKind.wrap_i64]; omega) 1 (by decide) n h0 (by omega)
  simpa using h
theorem signs_loop : ∀ (j : Nat) (n : Int) (tl : List Int), 0 ≤ n → n < 4611686018427387904 → j ≤ 1000000 →
    Ev (fun k => impl_signs.l0 k n (List.replicate j 0 ++ tl) ((j : Int) - 1)) (strOfNums (sg j n ++ tl))
  | 0, n, tl, h0, h1, hj => by
    refine Ev.step (f := fun _ => some (strOfNums tl)) (fun k => ?_) (by simp only [sg, List.nil_append]; exact Ev.now _)
    simp only [impl_signs.l0, List.replicate_zero, List.nil_append]
    rw [if_neg (by omega)]
  | j + 1, n, tl, h0, h1, hj => by
    have ih := signs_loop j (n / 2) ((48 + n % 2) :: tl) (by omega) (by omega) (by omega)
    have e : sg (j + 1) n ++ tl = sg j (n / 2) ++ (48 + n % 2) :: tl := by simp [sg]
    rw [e]
    refine Ev.step (fun k => ?_) ih
    simp only [impl_signs.l0]
    rw [if_pos (by omega), if_pos (by omega), if_pos (by simp; omega), and1_val n h0 h1, w64 (x := 48 + n % 2) (by omega) (by omega)]
    rw [Int.emod_eq_of_lt (a := 48 + n % 2) (by omega) (by omega), show (((j + 1 : Nat) : Int) - 1).toNat = j by omega, set_rep]
    rw [w64 (by omega) (by omega), show ((j + 1 : Nat) : Int) - 1 - 1 = (j : Int) - 1 by omega]
theorem signs_ev (n : Int) (w : Nat) (h0 : 0 ≤ n) (h1 : n < 4611686018427387904) (hw : w ≤ 1000000) : Ev (fun k => impl_signs.f k n (w : Int)) (strOfNums (sg w n)) := by
  have h := signs_loop w n [] h0 h1 hw
  rw [List.append_nil, List.append_nil] at h
  refine Ev.congr (fun k => ?_) h
  unfold impl_signs.f
  rw [if_pos (by omega), if_pos (by omega), Int.toNat_natCast, w64 (by omega) (by omega)]
theorem shl_small_val : ∀ m : Fin 31, shl .i64 1 ((m : Nat) : Int) = 2 ^ (m : Nat) ∧ (2 : Int) ^ (m : Nat) ≤ 1073741824 ∧ (1 : Int) ≤ 2 ^ (m : Nat) ∧ IntKind.u64.wrap ((m : Nat) : Int) = ((m : Nat) : Int) := by decide +kernel
theorem shl_val (w : Nat) (h : w ≤ 30) : shl .i64 1 (w : Int) = 2 ^ w := (shl_small_val ⟨w, by omega⟩).1
theorem pow_le (w : Nat) (h : w ≤ 30) : (2 : Int) ^ w ≤ 1073741824 := (shl_small_val ⟨w, by omega⟩).2.1
theorem pow_pos (w : Nat) (h : w ≤ 30) : (1 : Int) ≤ 2 ^ w := (shl_small_val ⟨w, by omega⟩).2.2.1
theorem u64_val (w : Nat) (h : w ≤ 30) : IntKind.u64.wrap (w : Int) = (w : Int) := (shl_small_val ⟨w, by omega⟩).2.2.2
theorem within_yes {x lo hi : Int} (h0 : lo ≤ x) (h1 : x ≤ hi) : impl_within.f x lo hi = some true := by
  unfold impl_within.f
  rw [if_pos h0, decide_eq_true h1]
theorem within_no {x lo hi : Int} (h : ¬ (lo ≤ x ∧ x ≤ hi)) : impl_within.f x lo hi = some false := by
  unfold impl_within.f
  by_cases h0 : lo ≤ x
  · rw [if_pos h0, decide_eq_false (fun h1 => h ⟨h0, h1⟩)]
  · rw [if_neg h0]
theorem within_any (x lo hi : Int) : impl_within.f x lo hi = some (decide (lo ≤ x ∧ x ≤ hi)) := by
  by_cases h : lo ≤ x ∧ x ≤ hi
  · rw [within_yes h.1 h.2, decide_eq_true h]
  · rw [within_no h, decide_eq_false h]
theorem impl_fixrow_ev {n : Int} {m : Nat} (hm : m ≤ 30) (h0 : 0 ≤ n) (h1 : n < 2 ^ m) : Ev (fun k => impl_FixRow.f k n (m : Int)) (strOfNums (sg m n), true) := by
  have p1 := pow_le m hm
  have p2 := pow_pos m hm
  unfold impl_FixRow.f
  rw [within_yes (by omega) (by omega), shl_val m hm, w64 (x := 2 ^ m - 1) (by omega) (by omega), within_yes h0 (by omega)]
  simp only [Option.bind_some, if_true, if_pos (show (0 : Int) ≤ (m : Int) by omega)]
  exact Ev.bind (signs_ev n m h0 (by omega) (by omega)) (Ev.now _)
/-- A row: signs alone, not too many. -/
def isRow (l : List Int) : Bool := l.all fun x => x == 48 || x == 49
def rowOk (l : List Int) : Bool := decide (l.length ≤ 400000) && isRow l
theorem impl_row_loop : ∀ (suf pre : List Int), Bys (pre ++ suf) → (pre ++ suf).length ≤ 1048576 → Ev (fun k => impl_RowOk.l0 k (strOfNums (pre ++ suf)) (pre.length : Int)) (isRow suf)
  | [], pre, hb, hl => by
    refine Ev.step (f := fun _ => some true) (fun k => ?_) (Ev.now _)
    simp only [impl_RowOk.l0, List.append_nil]
    rw [if_neg (ge_end pre)]
  | x :: suf, pre, hb, hl => by
    have hl' : pre.length + (suf.length + 1) ≤ 1048576 := by simpa using hl
    have ih := impl_row_loop suf (pre ++ [x]) (by rw [← snoc_cons]; exact hb) (by rw [← snoc_cons]; exact hl)
    rw [← snoc_cons] at ih
    have hlt := lt_mid pre suf x
    have hn := next_len pre x (by omega)
    have e : isRow (x :: suf) = ((x == 48 || x == 49) && isRow suf) := rfl
    by_cases h0 : x = 48
    · rw [e, beq_iff_eq.2 h0, Bool.true_or, Bool.true_and]
      refine Ev.step (fun k => ?_) ih
      simp only [impl_RowOk.l0]
      rw [if_pos hlt, if_pos (by omega), bt_mid hb, if_pos h0, hn]
    · by_cases h1 : x = 49
      · rw [e, beq_iff_eq.2 h1, Bool.or_true, Bool.true_and]
        refine Ev.step (fun k => ?_) ih
        simp only [impl_RowOk.l0]
        rw [if_pos hlt, if_pos (by omega), bt_mid hb, if_neg h0, if_pos h1, hn]
      · rw [e, beq_eq_false_iff_ne.2 h0, beq_eq_false_iff_ne.2 h1, Bool.or_false, Bool.false_and]
        refine Ev.step (f := fun _ => some false) (fun k => ?_) (Ev.now _)
        simp only [impl_RowOk.l0]
        rw [if_pos hlt, if_pos (by omega), bt_mid hb, if_neg h0, if_neg h1]
theorem impl_rowok_ev {l : List Int} (hb : Bys l) (hl : l.length ≤ 1048576) : Ev (fun k => impl_RowOk.f k (strOfNums l)) (rowOk l) := by
  unfold impl_RowOk.f rowOk
  by_cases h : l.length ≤ 400000
  · simp only [if_neg (show ¬ ((strOfNums l).size : Int) > 400000 by rw [str_size]; omega), decide_eq_true h, Bool.true_and]
    exact impl_row_loop l [] hb hl
  · simp only [if_pos (show ((strOfNums l).size : Int) > 400000 by rw [str_size]; omega), decide_eq_false h, Bool.false_and]
    exact Ev.now _
theorem rowOk_len {l : List Int} (h : rowOk l = true) : l.length ≤ 400000 := by
  unfold rowOk at h
  rw [Bool.and_eq_true] at h
  exact of_decide_eq_true h.1
theorem rowOk_mem {l : List Int} (h : rowOk l = true) : ∀ x, x ∈ l → x = 48 ∨ x = 49 := by
  unfold rowOk isRow at h
  rw [Bool.and_eq_true, List.all_eq_true] at h
  intro x hx
  have := h.2 x hx
  rw [Bool.or_eq_true, beq_iff_eq, beq_iff_eq] at this
  exact this
theorem rowOk_mk {l : List Int} (h : l.length ≤ 400000) (hm : ∀ x, x ∈ l → x = 48 ∨ x = 49) : rowOk l = true := by
  unfold rowOk isRow
  rw [decide_eq_true h, Bool.true_and, List.all_eq_true]
  intro x hx
  rw [Bool.or_eq_true, beq_iff_eq, beq_iff_eq]
  exact hm x hx
theorem or_bit : ∀ (n : Int) (b : Int), 0 ≤ n → n < 1152921504606846976 → (b = 0 ∨ b = 1) → Go.bits .or .i64 (wrap64 (n * 2)) b = 2 * n + b := by
  intro n b h0 h1 hb
  rw [w64 (by omega) (by omega)]
  have h := Go.bits_join .i64 62 (by decide) (fun m hm0 hm1 => by rw [Go.IntKind.wrap_i64]; omega) 1 (n * 2) b (by omega) (by omega) (by omega) (by omega) (by omega) (by omega)
  rw [h]
  omega
/-- scan.fix: what is read at a place, so many signs. -/
theorem scan_fix_loop : ∀ (d : Nat) (l : List Int) (at_ i w : Nat) (n : Int) (b : Bool), Bys l → (∀ x, x ∈ l → x = 48 ∨ x = 49) → l.length ≤ 400000 → at_ + w ≤ l.length → w ≤ 60 → i + d = w → 0 ≤ n → n < 2 ^ i →
    Ev (fun k => impl_scan_fix.l0 k (w : Int) n (i : Int) (strOfNums l) (at_ : Int) b) (vb n ((l.drop (at_ + i)).take d), strOfNums l, ((at_ + w : Nat) : Int), b)
  | 0, l, at_, i, w, n, b, hb, hm, hl, ha, hw, hi, h0, h1 => by
    refine Ev.step (f := fun _ => some (n, strOfNums l, ((at_ + w : Nat) : Int), b)) (fun k => ?_) (by simp only [List.take_zero, vb]; exact Ev.now _)
    simp only [impl_scan_fix.l0]
    rw [if_neg (by omega), w64 (by omega) (by omega)]
    rfl
  | d + 1, l, at_, i, w, n, b, hb, hm, hl, ha, hw, hi, h0, h1 => by
    have hlt : at_ + i < l.length := by omega
    have hx := hm _ (List.getElem_mem hlt)
    have hd : (l.drop (at_ + i)).take (d + 1) = l[at_ + i] :: (l.drop (at_ + (i + 1))).take d := by
      rw [List.drop_eq_getElem_cons hlt, List.take_succ_cons]
      rfl
    have hg : bt (strOfNums l) ((at_ : Int) + (i : Int)) = l[at_ + i] := by
      rw [bt_get hb (n := at_ + i) (by omega), List.getD_eq_getElem?_getD, List.getElem?_eq_getElem hlt]
      rfl
    have hn59 : n < 2 ^ 59 := by
      have : (2 : Int) ^ i ≤ 2 ^ 59 := by
        have : (2 : Nat) ^ i ≤ 2 ^ 59 := Nat.pow_le_pow_right (by decide) (by omega)
        exact_mod_cast this
      omega
    have ih := scan_fix_loop d l at_ (i + 1) w (2 * n + (l[at_ + i] - 48)) b hb hm hl ha hw (by omega) (by rcases hx with h | h <;> rw [h] <;> omega) (by rw [Int.pow_succ]; rcases hx with h | h <;> rw [h] <;> omega)
    rw [hd, vb]
    refine Ev.step (fun k => ?_) ih
    simp only [impl_scan_fix.l0]
    rw [if_pos (by omega), w64 (x := (at_ : Int) + (i : Int)) (by omega) (by omega), if_pos (by omega), if_pos (by rw [str_size]; omega), hg, w64 (x := (i : Int) + 1) (by omega) (by omega)]
    rw [Int.emod_eq_of_lt (a := l[at_ + i] - 48) (by rcases hx with h | h <;> rw [h] <;> decide) (by rcases hx with h | h <;> rw [h] <;> decide)]
    rw [or_bit n _ h0 (by omega) (by rcases hx with h | h <;> rw [h] <;> decide)]
    rfl
theorem scan_fix_yes {l : List Int} {at_ w : Nat} (hb : Bys l) (hr : rowOk l = true) (ha : at_ + w ≤ l.length) (hw : w ≤ 60) :
    Ev (fun k => impl_scan_fix.f k (strOfNums l) (at_ : Int) false (w : Int)) (vb 0 ((l.drop at_).take w), strOfNums l, ((at_ + w : Nat) : Int), false) := by
  have hl := rowOk_len hr
  have h := scan_fix_loop w l at_ 0 w 0 false hb (rowOk_mem hr) hl ha hw (by omega) (by decide) (by decide)
  rw [Nat.add_zero] at h
  unfold impl_scan_fix.f
  simp only [Bool.false_eq_true, if_false]
  rw [decide_eq_false (by rw [str_size, w64 (by omega) (by omega)]; omega)]
  refine Ev.step (fun k => ?_) h
  simp only [impl_scan_fix.j0, Bool.false_eq_true, if_false]
  rfl
theorem scan_fix_short {l : List Int} {at_ : Nat} {w : Int} (hl : l.length ≤ 1048576) (hle : at_ ≤ l.length) (ha : ((l.length : Int) - (at_ : Int)) < w) :
    Ev (fun k => impl_scan_fix.f k (strOfNums l) (at_ : Int) false w) (0, strOfNums l, (at_ : Int), true) := by
  unfold impl_scan_fix.f
  simp only [Bool.false_eq_true, if_false]
  rw [decide_eq_true (by rw [str_size, w64 (by omega) (by omega)]; exact ha)]
  refine Ev.step (f := fun _ => some (0, strOfNums l, (at_ : Int), true)) (fun k => ?_) (Ev.now _)
  simp only [impl_scan_fix.j0, if_true]
theorem scan_fix_bad (s : ByteArray) (at_ w : Int) : Ev (fun k => impl_scan_fix.f k s at_ true w) (0, s, at_, true) := by
  unfold impl_scan_fix.f
  simp only [if_true]
  refine Ev.step (f := fun _ => some (0, s, at_, true)) (fun k => ?_) (Ev.now _)
  simp only [impl_scan_fix.j0, if_true]
theorem opened_ev {l : List Int} (hb : Bys l) (hl : l.length ≤ 1048576) (a : Int) : Ev (fun k => impl_opened.f k (strOfNums l) a) (strOfNums l, a, !(rowOk l && decide (0 ≤ a ∧ a ≤ (l.length : Int)))) := by
  unfold impl_opened.f
  refine Ev.bind (impl_rowok_ev hb hl) ?_
  cases h : rowOk l
  · exact Ev.now _
  · simp only [if_true, within_any, Option.bind_some, str_size, Bool.true_and]
    exact Ev.now _
theorem impl_readfix_ev {l : List Int} {p v : Nat} (hb : Bys l) (hr : rowOk l = true) (hp : p + v ≤ l.length) (hv : v ≤ 30) : Ev (fun k => impl_ReadFix.f k (strOfNums l) (p : Int) (v : Int)) (vb 0 ((l.drop p).take v), ((p + v : Nat) : Int), true) := by
  have hl4 := rowOk_len hr
  have ho := opened_ev hb (show l.length ≤ 1048576 by omega) (p : Int)
  rw [hr, decide_eq_true (show 0 ≤ (p : Int) ∧ (p : Int) ≤ (l.length : Int) by omega)] at ho
  unfold impl_ReadFix.f
  refine Ev.bind ho ?_
  simp only [Bool.and_self, Bool.not_true, Bool.false_eq_true, if_false, within_yes (show (0 : Int) ≤ (v : Int) by omega) (show (v : Int) ≤ 30 by omega), Option.bind_some]
  refine Ev.step (fun k => ?_) (Ev.bind (scan_fix_yes hb hr (at_ := p) (w := v) hp (by omega)) (f := fun k b => if b.2.2.2 = true then (some (0, 0, false)) else (some (b.1, b.2.2.1, true))) (by simp only [Bool.false_eq_true, if_false]; exact Ev.now _))
  simp only [impl_ReadFix.j0, Bool.false_eq_true, if_false]
theorem FnFixed : laws_FnFixed.Pure := by
  intro l hl _ _
  refine Ev.rounds ?_
  unfold laws_FnFixed.f laws_big.f
  simp only [Option.bind_some]
  by_cases hbig : (l.length : Int) > 1048576
  · rw [decide_eq_true hbig]
    exact Ev.now _
  · rw [decide_eq_false hbig]
    simp only [Bool.false_eq_true, if_false]
    obtain ⟨p, hp, h12, hx⟩ := places_ev hl
    obtain ⟨m, hm, h60, hmx⟩ := row_ev hl
    refine Ev.bind hp (Ev.bind hm ?_)
    have q0 : 0 ≤ rd p 0 ∧ rd p 0 < 10000 := place_at h12 hx (i := 0) (by decide)
    have q1 : 0 ≤ rd p 1 ∧ rd p 1 < 10000 := place_at h12 hx (i := 1) (by decide)
    have q2 : 0 ≤ rd p 2 ∧ rd p 2 < 10000 := place_at h12 hx (i := 2) (by decide)
    obtain ⟨w, hw⟩ := Int.eq_ofNat_of_zero_le (show 0 ≤ Int.tmod (rd p 0) 31 from Int.tmod_nonneg _ q0.1)
    have hw1 : Int.tmod (rd p 0) 31 < 31 := Int.tmod_lt_of_pos _ (by decide)
    have hw2 : w ≤ 30 := by omega
    have b1 := pow_le w hw2
    have b2 := pow_pos w hw2
    have b3 : ((2 : Int) ^ w ≠ 0) := by omega
    rw [hw, w64 (x := rd p 1 * 10000) (by omega) (by omega), w64 (x := rd p 1 * 10000 + rd p 2) (by omega) (by omega), u64_val w hw2, shl_val w hw2]
    have n0 : 0 ≤ Int.tmod (rd p 1 * 10000 + rd p 2) (2 ^ w) := Int.tmod_nonneg _ (by omega)
    have n1 : Int.tmod (rd p 1 * 10000 + rd p 2) (2 ^ w) < 2 ^ w := Int.tmod_lt_of_pos _ (by omega)
    generalize Int.tmod (rd p 1 * 10000 + rd p 2) (2 ^ w) = n at n0 n1 ⊢
    simp only [if_pos (show (0 : Int) < (p.length : Int) by omega), if_pos (show (1 : Int) < (p.length : Int) by omega), if_pos (show (2 : Int) < (p.length : Int) by omega), if_pos (show (0 : Int) ≤ (w : Int) by omega), if_neg b3]
    refine Ev.bind (impl_fixrow_ev hw2 n0 n1) ?_
    have hs := sg_len w n
    have hsr := sg_row w n
    simp only [str_size, hs, if_pos (show m.length + w ≤ 9223372036854775807 by omega), str_append, List.length_append, if_pos (show m.length + w + 2 ≤ 9223372036854775807 by omega), show (⟨#[48, 49]⟩ : ByteArray) = strOfNums [48, 49] from rfl]
    have hrow : ∀ x, x ∈ m ++ sg w n ++ [48, 49] → x = 48 ∨ x = 49 := fun x h => by
      rcases List.mem_append.1 h with h | h
      · rcases List.mem_append.1 h with h | h
        · exact hmx x h
        · exact hsr x h
      · simpa using h
    refine Ev.bind (impl_readfix_ev (l := m ++ sg w n ++ [48, 49]) (p := m.length) (v := w) (Bys.signs hrow) (rowOk_mk (by simp [hs]; omega) hrow) (by simp [hs]) hw2) ?_
    have e : ((m ++ sg w n ++ [48, 49]).drop m.length).take w = sg w n := by
      rw [List.append_assoc, List.drop_left, List.take_left' hs]
    rw [e, vb_sg w n n0 n1, w64 (x := (m.length : Int) + (w : Int)) (by omega) (by omega), show ((m.length + w : Nat) : Int) = (m.length : Int) + (w : Int) by omega]
    simp only [if_true, beq_self_eq_true]
    exact Ev.now _

end Go.Proofs.Ytmidnldhfidlkaa.Pure
