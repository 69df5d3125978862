/- RowBytes and BytesRow take each other back, and RowBytes tells two rows apart. -/
import Derived.Test.YtaohobbpbcecbaaQFnRowsx3
set_option linter.unusedVariables false
set_option linter.unusedSimpArgs false
namespace Go.Proofs.Ytaohobbpbcecbaa.Pure
open Go.RowKit Go.Proofs.Ytaohobbpbcecbaa.QFnRows Go.Proofs.YtaohobbpbcecbaaW.PrintWords Go.Proofs.YtaohobbpbcecbaaW.PrintLast Go.Proofs.YtaohobbpbcecbaaW.PrintMore

/-! ### Bytes as lists of numbers, and some plain facts -/
theorem w64 {x : Int} (h0 : -9223372036854775808 ≤ x) (h1 : x ≤ 9223372036854775807) : wrap64 x = x := by
  unfold wrap64
  omega
theorem i64_bounds {x : Int} (h : (Lit.int .i64 x).wf = true) : -9223372036854775808 ≤ x ∧ x ≤ 9223372036854775807 := by
  have e := h
  simp [Lit.wf, IntKind.min, IntKind.max, IntKind.signed, IntKind.bits] at e
  omega
/-- All numbers of the list are bytes. -/
def Bys (l : List Int) : Prop := ∀ x, x ∈ l → 0 ≤ x ∧ x < 256
theorem Bys.nil : Bys [] := fun _ h => by cases h
theorem Bys.cons {x : Int} {l : List Int} (h0 : 0 ≤ x) (h1 : x < 256) (h : Bys l) : Bys (x :: l) := fun y hy => by
  rcases List.mem_cons.1 hy with rfl | hy
  · exact ⟨h0, h1⟩
  · exact h y hy
theorem Bys.append {l m : List Int} (h : Bys l) (h' : Bys m) : Bys (l ++ m) := fun y hy => by
  rcases List.mem_append.1 hy with hy | hy
  · exact h y hy
  · exact h' y hy
theorem Bys.left {l m : List Int} (h : Bys (l ++ m)) : Bys l := fun y hy => h y (List.mem_append_left _ hy)
theorem Bys.right {l m : List Int} (h : Bys (l ++ m)) : Bys m := fun y hy => h y (List.mem_append_right _ hy)
theorem Bys.take {l : List Int} (h : Bys l) (n : Nat) : Bys (l.take n) := fun y hy => h y (List.mem_of_mem_take hy)
theorem Bys.drop {l : List Int} (h : Bys l) (n : Nat) : Bys (l.drop n) := fun y hy => h y (List.mem_of_mem_drop hy)
theorem Bys.getD {l : List Int} (h : Bys l) (i : Nat) : 0 ≤ l.getD i 0 ∧ l.getD i 0 < 256 := by
  rw [List.getD_eq_getElem?_getD]
  by_cases hi : i < l.length
  · rw [List.getElem?_eq_getElem hi]
    exact h _ (List.getElem_mem hi)
  · rw [List.getElem?_eq_none (by omega)]
    exact ⟨by decide, by decide⟩
theorem nums_of (a : ByteArray) : ∃ l, Bys l ∧ a = strOfNums l := by
  refine ⟨a.data.toList.map fun u => (u.toNat : Int), ?_, ?_⟩
  · intro x hx
    obtain ⟨u, _, rfl⟩ := List.mem_map.1 hx
    have := u.toNat_lt
    omega
  · unfold strOfNums
    rw [List.map_map]
    have e : ((fun n : Int => UInt8.ofNat n.toNat) ∘ fun u : UInt8 => (u.toNat : Int)) = id := by
      funext u
      simp
    rw [e, List.map_id]
theorem str_size (l : List Int) : (strOfNums l).size = l.length := strOfNums_size l
theorem bt_str {l : List Int} (h : Bys l) (i : Int) : bt (strOfNums l) i = l.getD i.toNat 0 := by
  unfold bt
  rw [List.getD_eq_getElem?_getD]
  split
  · rename_i hi
    have hi' : i.toNat < l.length := by rw [← str_size]; exact hi
    rw [List.getElem?_eq_getElem hi']
    have hb := h _ (List.getElem_mem hi')
    have e : (strOfNums l)[i.toNat]'hi = UInt8.ofNat (l[i.toNat]).toNat := by
      simp [strOfNums, ByteArray.getElem_eq_getElem_data]
    rw [e, UInt8.toNat_ofNat']
    simp only [Option.getD_some]
    omega
  · rename_i hi
    rw [List.getElem?_eq_none (by rw [← str_size]; omega)]
    rfl
theorem bt_get {l : List Int} (h : Bys l) {i : Int} {n : Nat} (hi : i = (n : Int)) : bt (strOfNums l) i = l.getD n 0 := by
  rw [bt_str h, hi, Int.toNat_natCast]
theorem str_append (l m : List Int) : strOfNums l ++ strOfNums m = strOfNums (l ++ m) := by
  apply ByteArray.ext
  rw [ByteArray.data_append]
  unfold strOfNums
  simp
theorem str_empty : (⟨#[]⟩ : ByteArray) = strOfNums [] := rfl
theorem str_inj {l m : List Int} (hl : Bys l) (hm : Bys m) (h : strOfNums l = strOfNums m) : l = m := by
  have hs : l.length = m.length := by rw [← str_size l, ← str_size m, h]
  apply List.ext_getElem hs
  intro i h1 h2
  have e1 := bt_get hl (i := (i : Int)) rfl
  have e2 := bt_get hm (i := (i : Int)) rfl
  rw [h, e2] at e1
  simp [List.getD_eq_getElem?_getD, h1, h2] at e1
  exact e1.symm
theorem str_extract (l : List Int) (i j : Nat) : (strOfNums l).extract i j = strOfNums ((l.take j).drop i) := by
  apply ByteArray.ext
  rw [ByteArray.data_extract]
  unfold strOfNums
  apply Array.ext'
  simp [List.extract_eq_take_drop, List.drop_take, List.map_drop, List.map_take]
theorem getD_mid (pre suf : List Int) (x : Int) : (pre ++ x :: suf).getD pre.length 0 = x := by
  rw [List.getD_eq_getElem?_getD, List.getElem?_append_right (Nat.le_refl _)]
  simp
theorem bt_mid {pre suf : List Int} {x : Int} (h : Bys (pre ++ x :: suf)) : bt (strOfNums (pre ++ x :: suf)) (pre.length : Int) = x := by
  rw [bt_get h rfl, getD_mid]
theorem rd_mid (pre suf : List Int) (x : Int) : rd (pre ++ x :: suf) (pre.length : Int) = x := by
  unfold rd
  rw [Int.toNat_natCast, getD_mid]
theorem snoc_cons (pre suf : List Int) (x : Int) : pre ++ x :: suf = (pre ++ [x]) ++ suf := by simp
theorem next_len (pre : List Int) (x : Int) (h : pre.length < 4611686018427387904) : wrap64 ((pre.length : Int) + 1) = ((pre ++ [x]).length : Int) := by
  rw [w64 (by omega) (by omega)]
  simp
theorem lt_mid (pre suf : List Int) (x : Int) : (pre.length : Int) < ((strOfNums (pre ++ x :: suf)).size : Int) := by
  rw [str_size]
  simp
  omega
theorem ge_end (pre : List Int) : ¬ ((pre.length : Int) < ((strOfNums pre).size : Int)) := by
  rw [str_size]
  omega
theorem mid_byte {pre suf : List Int} {x : Int} (h : Bys (pre ++ x :: suf)) : 0 ≤ x ∧ x < 256 := h x (by simp)
theorem exact_sb {g h : Nat → Option (ByteArray × Bool)} {v : ByteArray × Bool} (hg : Ev g v) (hh : Ev h v) :
    Ev (fun k => (g k).bind fun b1 => (h k).bind fun b2 => if b2.1.toList = b1.1.toList then (if (b2.2 != b1.2) = true then some false else some true) else some false) true := by
  refine Ev.bind hg (Ev.bind hh ?_)
  simp only [if_true, bne_self_eq_false, Bool.false_eq_true, if_false]
  exact Ev.now _
theorem exact_i {g h : Nat → Option Int} {v : Int} (hg : Ev g v) (hh : Ev h v) :
    Ev (fun k => (g k).bind fun b1 => (h k).bind fun b2 => if b2 = b1 then some true else some false) true := by
  refine Ev.bind hg (Ev.bind hh ?_)
  simp only [if_true]
  exact Ev.now _
theorem exact_s {g h : Nat → Option ByteArray} {v : ByteArray} (hg : Ev g v) (hh : Ev h v) :
    Ev (fun k => (g k).bind fun b1 => (h k).bind fun b2 => if b2.toList = b1.toList then some true else some false) true := by
  refine Ev.bind hg (Ev.bind hh ?_)
  simp only [if_true]
  exact Ev.now _
theorem exact_ib {g h : Nat → Option (Int × Bool)} {v : Int × Bool} (hg : Ev g v) (hh : Ev h v) :
    Ev (fun k => (g k).bind fun b1 => (h k).bind fun b2 => if b2.1 = b1.1 then (if (b2.2 != b1.2) = true then some false else some true) else some false) true := by
  refine Ev.bind hg (Ev.bind hh ?_)
  simp only [if_true, bne_self_eq_false, Bool.false_eq_true, if_false]
  exact Ev.now _
theorem exact_iib {g h : Nat → Option (Int × Int × Bool)} {v : Int × Int × Bool} (hg : Ev g v) (hh : Ev h v) :
    Ev (fun k => (g k).bind fun b1 => (h k).bind fun b2 => if b2.1 = b1.1 then (if b2.2.1 = b1.2.1 then (if (b2.2.2 != b1.2.2) = true then some false else some true) else some false) else some false) true := by
  refine Ev.bind hg (Ev.bind hh ?_)
  simp only [if_true, bne_self_eq_false, Bool.false_eq_true, if_false]
  exact Ev.now _
theorem exact_b {g h : Nat → Option Bool} {v : Bool} (hg : Ev g v) (hh : Ev h v) :
    Ev (fun k => (g k).bind fun b1 => (h k).bind fun b2 => if (b2 != b1) = true then some false else some true) true := by
  refine Ev.bind hg (Ev.bind hh ?_)
  simp only [bne_self_eq_false, Bool.false_eq_true, if_false]
  exact Ev.now _
theorem ev_now {α : Type} {g : Nat → Option α} {v : α} (h : ∀ k, g k = some v) : Ev g v := Ev.congr h (Ev.now v)
theorem and255 (x : Int) : 0 ≤ Go.bits .and .i64 x 255 ∧ Go.bits .and .i64 x 255 ≤ 255 := by
  have h : ((BitVec.ofInt 64 x) &&& (BitVec.ofInt 64 255)).toNat ≤ 255 := by
    rw [BitVec.toNat_and]
    exact Nat.le_trans Nat.and_le_right (by decide)
  have e : Go.bits .and .i64 x 255 = ((((BitVec.ofInt 64 x) &&& (BitVec.ofInt 64 255)).toNat : Nat) : Int) := by
    show IntKind.i64.wrap ((((BitVec.ofInt 64 x) &&& (BitVec.ofInt 64 255)).toNat : Nat) : Int) = _
    rw [IntKind.wrap_i64]
    omega
  omega
/-- A byte is drawn. -/
theorem byte_ev {l : List Int} {a : Int} (n : Int) (h0 : 0 ≤ a) (hl : l.length ≤ maxLen) : ∃ v a' n', spec_l01Byte.f l a n = some (v, a', n') ∧ 0 ≤ v ∧ v ≤ 255 ∧ 0 ≤ a' := by
  have hm : maxLen ≤ 9223372036854775807 := by decide
  unfold spec_l01Byte.f
  by_cases h : a < (l.length : Int)
  · rw [if_pos h, if_pos h0]
    exact ⟨_, _, _, rfl, (and255 _).1, (and255 _).2, by rw [w64 (by omega) (by omega)]; omega⟩
  · rw [if_neg h]
    exact ⟨_, _, _, rfl, (and255 _).1, (and255 _).2, h0⟩
/-- A number below another is drawn. -/
theorem below_ev {l : List Int} {a : Int} (n : Int) {m : Int} (h0 : 0 ≤ a) (hl : l.length ≤ maxLen) (hm : 0 < m) : ∃ v a' n', spec_l01Below.f l a n m = some (v, a', n') ∧ 0 ≤ v ∧ v < m ∧ 0 ≤ a' := by
  unfold spec_l01Below.f
  rw [if_neg (by omega)]
  obtain ⟨v1, a1, n1, e1, l1, u1, p1⟩ := byte_ev n h0 hl
  by_cases h : m ≤ 256
  · rw [if_pos h, e1]
    simp only [Option.bind_some, if_neg (show ¬ m = 0 by omega)]
    refine ⟨_, _, _, rfl, ?_, ?_, p1⟩
    · exact Int.tmod_nonneg _ l1
    · exact Int.tmod_lt_of_pos _ hm
  · obtain ⟨v2, a2, n2, e2, l2, u2, p2⟩ := byte_ev n1 p1 hl
    obtain ⟨v3, a3, n3, e3, l3, u3, p3⟩ := byte_ev n2 p2 hl
    obtain ⟨v4, a4, n4, e4, l4, u4, p4⟩ := byte_ev n3 p3 hl
    rw [if_neg h, e1]
    simp only [Option.bind_some, e2, e3, e4, if_neg (show ¬ m = 0 by omega)]
    rw [w64 (x := v1 * 16777216) (by omega) (by omega), w64 (x := v2 * 65536) (by omega) (by omega), w64 (x := v3 * 256) (by omega) (by omega), w64 (x := v1 * 16777216 + v2 * 65536) (by omega) (by omega), w64 (x := v1 * 16777216 + v2 * 65536 + v3 * 256) (by omega) (by omega), w64 (x := v1 * 16777216 + v2 * 65536 + v3 * 256 + v4) (by omega) (by omega)]
    refine ⟨_, _, _, rfl, ?_, ?_, p4⟩
    · exact Int.tmod_nonneg _ (by omega)
    · exact Int.tmod_lt_of_pos _ hm
theorem new_loop {l : List Int} (hl : l.length ≤ maxLen) : ∀ (d i : Nat) (h : Int), i + d = min l.length 4000 → ∃ s, Ev (fun k => spec_l01New.l0 k l h (i : Int)) (l, 0, s)
  | 0, i, h, hi => by
    refine ⟨h, Ev.step (f := fun _ => some (l, 0, h)) (fun k => ?_) (Ev.now _)⟩
    simp only [spec_l01New.l0]
    by_cases h1 : (i : Int) < (l.length : Int)
    · rw [if_pos h1, if_neg (by omega)]
    · rw [if_neg h1]
  | d + 1, i, h, hi => by
    obtain ⟨s, hs⟩ := new_loop hl d (i + 1) (Go.bits .and .i64 (wrap64 ((wrap64 ((wrap64 (h * 131)) + (wrap64 (rd l (i : Int))))) + 7)) 1073741823) (by omega)
    refine ⟨s, Ev.step (fun k => ?_) hs⟩
    simp only [spec_l01New.l0]
    rw [if_pos (by omega), if_pos (by omega), if_pos (by omega), w64 (x := (i : Int) + 1) (by omega) (by omega)]
    rfl
theorem new_ev {l : List Int} (hl : l.length ≤ maxLen) : ∃ s, Ev (fun k => spec_l01New.f k l) (l, 0, s) := by
  unfold spec_l01New.f
  exact new_loop hl (min l.length 4000) 0 _ (by omega)
theorem drawsigns_loop {l : List Int} (hl : l.length ≤ maxLen) : ∀ (d i m : Nat) (acc : List Int) (a n : Int), i + d = m → m ≤ 1000 → acc.length = i → 0 ≤ a → (∀ x, x ∈ acc → x = 48 ∨ x = 49) → ∃ p a' n', Ev (fun k => spec_l02Signs.l0 k (m : Int) acc (i : Int) l a n) (strOfNums p, a', n') ∧ p.length = m ∧ (∀ x, x ∈ p → x = 48 ∨ x = 49) ∧ 0 ≤ a'
  | 0, i, m, acc, a, n, hi, hm, ha, h0, hx => by
    refine ⟨acc, a, n, Ev.step (f := fun _ => some (strOfNums acc, a, n)) (fun k => ?_) (Ev.now _), by omega, hx, h0⟩
    simp only [spec_l02Signs.l0]
    rw [if_neg (by omega)]
  | d + 1, i, m, acc, a, n, hi, hm, ha, h0, hx => by
    obtain ⟨v, a', n', e, v0, v1, p1⟩ := below_ev n h0 hl (show (0 : Int) < 2 by decide)
    obtain ⟨p, a2, n2, hp, hlen, hq, p2⟩ := drawsigns_loop hl d (i + 1) m (acc ++ [48 + v]) a' n' (by omega) hm (by simp; omega) p1 (fun x h => by
      rcases List.mem_append.1 h with h | h
      · exact hx x h
      · rw [List.mem_singleton.1 h]
        omega)
    refine ⟨p, a2, n2, Ev.step (fun k => ?_) hp, hlen, hq, p2⟩
    simp only [spec_l02Signs.l0]
    rw [if_pos (by omega), e]
    simp only [Option.bind_some, if_pos (show acc.length < 140737488355328 by omega)]
    rw [w64 (x := (i : Int) + 1) (by omega) (by omega), w64 (x := 48 + v) (by omega) (by omega), Int.emod_eq_of_lt (by omega) (by omega)]
    rfl
theorem row_ev {l : List Int} (hl : l.length ≤ maxLen) : ∃ p, Ev (fun k => spec_DrawRow.f k l) (strOfNums p) ∧ p.length ≤ 60 ∧ ∀ x, x ∈ p → x = 48 ∨ x = 49 := by
  obtain ⟨s, hs⟩ := new_ev hl
  obtain ⟨v, a', n', e, v0, v1, p1⟩ := below_ev (a := 0) s (by decide) hl (show (0 : Int) < 61 by decide)
  obtain ⟨m, rfl⟩ := Int.eq_ofNat_of_zero_le v0
  obtain ⟨p, a2, n2, hp, hlen, hq, _⟩ := drawsigns_loop hl m 0 m [] a' n' (by omega) (by omega) rfl p1 (fun x h => by cases h)
  refine ⟨p, ?_, by omega, hq⟩
  unfold spec_DrawRow.f
  refine Ev.bind hs ?_
  simp only [e, Option.bind_some]
  unfold spec_l02Signs.f
  exact Ev.bind hp (Ev.now _)
theorem Bys.signs {p : List Int} (h : ∀ x, x ∈ p → x = 48 ∨ x = 49) : Bys p := fun x hx => by
  rcases h x hx with h | h <;> omega
/-- The signs of a number, so many. -/
def sg : Nat → Int → List Int
  | 0, _ => []
  | w + 1, n => sg w (n / 2) ++ [48 + n % 2]
theorem sg_len : ∀ (w : Nat) (n : Int), (sg w n).length = w
  | 0, _ => rfl
  | w + 1, n => by simp [sg, sg_len w]
theorem sg_row : ∀ (w : Nat) (n : Int), ∀ x, x ∈ sg w n → x = 48 ∨ x = 49
  | 0, _ => fun _ h => by cases h
  | w + 1, n => fun x hx => by
    rcases List.mem_append.1 hx with h | h
    · exact sg_row w _ x h
    · have : x = 48 + n % 2 := by simpa using h
      omega
theorem sg_bys (w : Nat) (n : Int) : Bys (sg w n) := fun x hx => by
  rcases sg_row w n x hx with h | h <;> omega
theorem set_rep (j : Nat) (v : Int) (tl : List Int) : (List.replicate (j + 1) (0 : Int) ++ tl).set j v = List.replicate j 0 ++ v :: tl := by
  rw [List.replicate_succ', List.append_assoc, List.set_append_right _ _ (by simp)]
  simp
theorem str_toList (l : List Int) : (strOfNums l).toList = l.map fun n => UInt8.ofNat n.toNat := by
  rw [Go.ByteArray.toList_eq, strOfNums_data]
theorem str_toList_nil {l : List Int} : (strOfNums l).toList = ([] : List UInt8) ↔ l = [] := by
  rw [str_toList, List.map_eq_nil_iff]
theorem str_toList_inj {l m : List Int} (hl : Bys l) (hm : Bys m) : (strOfNums l).toList = (strOfNums m).toList ↔ l = m := by
  constructor
  · intro h
    apply str_inj hl hm
    apply ByteArray.ext
    apply Array.ext'
    rw [← Go.ByteArray.toList_eq, ← Go.ByteArray.toList_eq, h]
  · intro h
    rw [h]
theorem bytesOf_str {l : List Int} (h : Bys l) : bytesOf (strOfNums l) = l := by
  unfold bytesOf
  rw [strOfNums_data, List.map_map]
  have : ∀ m : List Int, Bys m → m.map ((fun b : UInt8 => (b.toNat : Int)) ∘ fun n : Int => UInt8.ofNat n.toNat) = m := by
    intro m
    induction m with
    | nil => intro _; rfl
    | cons x m ih =>
      intro hm
      have hx := hm x (List.mem_cons_self ..)
      rw [List.map_cons, ih (fun y hy => hm y (List.mem_cons_of_mem _ hy))]
      congr 1
      simp only [Function.comp, UInt8.toNat_ofNat']
      omega
  exact this l h
/-- The bits of bytes, the highest first. -/
def bitsL : List Int → List Int
  | [] => []
  | x :: l => sg 8 x ++ bitsL l
theorem bitsL_len : ∀ l : List Int, (bitsL l).length = 8 * l.length
  | [] => rfl
  | x :: l => by rw [bitsL, List.length_append, sg_len, bitsL_len l, List.length_cons]; omega
theorem bitsL_row : ∀ (l : List Int), ∀ x, x ∈ bitsL l → x = 48 ∨ x = 49
  | [] => fun _ h => by cases h
  | y :: l => fun x hx => by
    rcases List.mem_append.1 hx with h | h
    · exact sg_row 8 y x h
    · exact bitsL_row l x h
theorem bitsL_append : ∀ (l m : List Int), bitsL (l ++ m) = bitsL l ++ bitsL m
  | [], m => rfl
  | x :: l, m => by rw [List.cons_append, bitsL, bitsL, bitsL_append l m, List.append_assoc]
theorem has_one : ∀ m : Fin 256, (m : Nat) ≠ 0 → (49 : Int) ∈ sg 8 ((m : Nat) : Int) := by decide +kernel
/-- A row with a one in it: what stands ahead of its last one, and the noughts behind it. -/
theorem last_one : ∀ M : List Int, (∀ x, x ∈ M → x = 48 ∨ x = 49) → (49 : Int) ∈ M → ∃ A z, M = A ++ 49 :: List.replicate z 48
  | [], _, h => by cases h
  | x :: M, hm, h => by
    by_cases h1 : (49 : Int) ∈ M
    · obtain ⟨A, z, e⟩ := last_one M (fun y hy => hm y (List.mem_cons_of_mem _ hy)) h1
      exact ⟨x :: A, z, by rw [e]; rfl⟩
    · have hx : x = 49 := by
        rcases List.mem_cons.1 h with h2 | h2
        · exact h2.symm
        · exact absurd h2 h1
      refine ⟨[], M.length, ?_⟩
      rw [List.nil_append, hx]
      congr 1
      refine List.eq_replicate_iff.2 ⟨rfl, fun y hy => ?_⟩
      rcases hm y (List.mem_cons_of_mem _ hy) with h2 | h2
      · exact h2
      · exact absurd (h2 ▸ hy) h1
theorem bits_last {l : List Int} (hb : Bys l) (h0 : l ≠ []) (h1 : l.getD (l.length - 1) 0 ≠ 0) : ∃ A z, bitsL l = A ++ 49 :: List.replicate z 48 := by
  refine last_one _ (bitsL_row l) ?_
  obtain ⟨m, x, rfl⟩ : ∃ m x, l = m ++ [x] := ⟨l.dropLast, l.getLast h0, (List.dropLast_concat_getLast h0).symm⟩
  have hx := hb x (List.mem_append_right _ (List.mem_singleton.2 rfl))
  rw [bitsL_append, bitsL, bitsL, List.append_nil]
  refine List.mem_append_right _ ?_
  obtain ⟨n, rfl⟩ := Int.eq_ofNat_of_zero_le hx.1
  have hn : n ≠ 0 := by
    intro h
    apply h1
    subst h
    simp
  exact has_one ⟨n, by omega⟩ hn
/-- BytesRow, told over numbers. -/
def rowOfBytes (A : List Int) : ByteArray × Bool := if 400000 < A.length then (⟨#[]⟩, false) else (strOfNums A, true)
theorem rd_pad {A : List Int} {z j : Nat} (hj : j ≤ z) : rd (A ++ 49 :: List.replicate z 48) ((A.length + j : Nat) : Int) = if j = 0 then 49 else 48 := by
  unfold rd
  rw [Int.toNat_natCast, List.getD_eq_getElem?_getD, List.getElem?_append_right (by omega), show A.length + j - A.length = j by omega]
  cases j with
  | zero => rfl
  | succ j => rw [List.getElem?_cons_succ, List.getElem?_replicate_of_lt (by omega)]; rfl
theorem take_pad (A : List Int) (z : Nat) : (A ++ 49 :: List.replicate z 48).take A.length = A := by
  rw [List.take_append_of_le_length (Nat.le_refl _), List.take_length]
/-- BytesRow of any bytes. -/
def bytesRow (l : List Int) (v : ByteArray × Bool) : Prop := (l = [] ∨ 50001 < l.length ∨ l.getD (l.length - 1) 0 = 0) ∧ v = (⟨#[]⟩, false) ∨ (l ≠ [] ∧ l.length ≤ 50001 ∧ l.getD (l.length - 1) 0 ≠ 0) ∧ ∃ A z, bitsL l = A ++ 49 :: List.replicate z 48 ∧ v = rowOfBytes A
theorem bytesRow_some {l : List Int} (hb : Bys l) : ∃ v, bytesRow l v := by
  by_cases h : l = [] ∨ 50001 < l.length ∨ l.getD (l.length - 1) 0 = 0
  · exact ⟨_, Or.inl ⟨h, rfl⟩⟩
  · have h1 : l ≠ [] ∧ l.length ≤ 50001 ∧ l.getD (l.length - 1) 0 ≠ 0 := ⟨fun e => h (Or.inl e), by omega, fun e => h (Or.inr (Or.inr e))⟩
    obtain ⟨A, z, e⟩ := bits_last hb h1.1 h1.2.2
    exact ⟨_, Or.inr ⟨h1, A, z, e, rfl⟩⟩
/-- A row: signs alone, not too many. -/
def isRow (l : List Int) : Bool := l.all fun x => x == 48 || x == 49
def rowOk (l : List Int) : Bool := decide (l.length ≤ 400000) && isRow l
theorem impl_row_loop : ∀ (suf pre : List Int), Bys (pre ++ suf) → (pre ++ suf).length ≤ 1048576 → Ev (fun k => impl_RowOk.l0 k (strOfNums (pre ++ suf)) (pre.length : Int)) (isRow suf)
  | [], pre, hb, hl => by
    refine Ev.step (f := fun _ => some true) (fun k => ?_) (Ev.now _)
    simp only [impl_RowOk.l0, List.append_nil]
    rw [if_neg (ge_end pre)]
  | x :: suf, pre, hb, hl => by
    have hl' : pre.length + (suf.length + 1) ≤ 1048576 := by simpa using hl
    have ih := impl_row_loop suf (pre ++ [x]) (by rw [← snoc_cons]; exact hb) (by rw [← snoc_cons]; exact hl)
    rw [← snoc_cons] at ih
    have hlt := lt_mid pre suf x
    have hn := next_len pre x (by omega)
    have e : isRow (x :: suf) = ((x == 48 || x == 49) && isRow suf) := rfl
    by_cases h0 : x = 48
    · rw [e, beq_iff_eq.2 h0, Bool.true_or, Bool.true_and]
      refine Ev.step (fun k => ?_) ih
      simp only [impl_RowOk.l0]
      rw [if_pos hlt, if_pos (by omega), bt_mid hb, if_pos h0, hn]
    · by_cases h1 : x = 49
      · rw [e, beq_iff_eq.2 h1, Bool.or_true, Bool.true_and]
        refine Ev.step (fun k => ?_) ih
        simp only [impl_RowOk.l0]
        rw [if_pos hlt, if_pos (by omega), bt_mid hb, if_neg h0, if_pos h1, hn]
      · rw [e, beq_eq_false_iff_ne.2 h0, beq_eq_false_iff_ne.2 h1, Bool.or_false, Bool.false_and]
        refine Ev.step (f := fun _ => some false) (fun k => ?_) (Ev.now _)
        simp only [impl_RowOk.l0]
        rw [if_pos hlt, if_pos (by omega), bt_mid hb, if_neg h0, if_neg h1]
theorem impl_rowok_ev {l : List Int} (hb : Bys l) (hl : l.length ≤ 1048576) : Ev (fun k => impl_RowOk.f k (strOfNums l)) (rowOk l) := by
  unfold impl_RowOk.f rowOk
  by_cases h : l.length ≤ 400000
  · simp only [if_neg (show ¬ ((strOfNums l).size : Int) > 400000 by rw [str_size]; omega), decide_eq_true h, Bool.true_and]
    exact impl_row_loop l [] hb hl
  · simp only [if_pos (show ((strOfNums l).size : Int) > 400000 by rw [str_size]; omega), decide_eq_false h, Bool.false_and]
    exact Ev.now _
theorem rowOk_len {l : List Int} (h : rowOk l = true) : l.length ≤ 400000 := by
  unfold rowOk at h
  rw [Bool.and_eq_true] at h
  exact of_decide_eq_true h.1
theorem rowOk_mem {l : List Int} (h : rowOk l = true) : ∀ x, x ∈ l → x = 48 ∨ x = 49 := by
  unfold rowOk isRow at h
  rw [Bool.and_eq_true, List.all_eq_true] at h
  intro x hx
  have := h.2 x hx
  rw [Bool.or_eq_true, beq_iff_eq, beq_iff_eq] at this
  exact this
theorem rowOk_mk {l : List Int} (h : l.length ≤ 400000) (hm : ∀ x, x ∈ l → x = 48 ∨ x = 49) : rowOk l = true := by
  unfold rowOk isRow
  rw [decide_eq_true h, Bool.true_and, List.all_eq_true]
  intro x hx
  rw [Bool.or_eq_true, beq_iff_eq, beq_iff_eq]
  exact hm x hx
theorem or_bits : ∀ (m : Fin 256) (r : Fin 8), sg 8 (Go.bits .or .u8 ((m : Nat) : Int) (shr .u8 128 ((r : Nat) : Int))) = (sg 8 ((m : Nat) : Int)).set (r : Nat) 49 ∧ 0 ≤ Go.bits .or .u8 ((m : Nat) : Int) (shr .u8 128 ((r : Nat) : Int)) ∧ Go.bits .or .u8 ((m : Nat) : Int) (shr .u8 128 ((r : Nat) : Int)) < 256 := by decide +kernel
theorem shr_pow : ∀ r : Fin 8, (128 : Int) / 2 ^ (r : Nat) = shr .u8 128 ((r : Nat) : Int) := by decide +kernel
theorem or_sg {x : Int} {r : Nat} (h0 : 0 ≤ x) (h1 : x < 256) (hr : r < 8) : sg 8 (Go.bits .or .u8 x (shr .u8 128 (r : Int))) = (sg 8 x).set r 49 ∧ 0 ≤ Go.bits .or .u8 x (shr .u8 128 (r : Int)) ∧ Go.bits .or .u8 x (shr .u8 128 (r : Int)) < 256 := by
  obtain ⟨n, rfl⟩ := Int.eq_ofNat_of_zero_le h0
  exact or_bits ⟨n, by omega⟩ ⟨r, hr⟩
/-- A bit is set. -/
theorem set_bit : ∀ (B : List Int) (q r : Nat), Bys B → q < B.length → r < 8 → bitsL (B.set q (Go.bits .or .u8 (rd B (q : Int)) (shr .u8 128 (r : Int)))) = (bitsL B).set (8 * q + r) 49 ∧ Bys (B.set q (Go.bits .or .u8 (rd B (q : Int)) (shr .u8 128 (r : Int))))
  | [], q, r, _, hq, _ => absurd hq (Nat.not_lt_zero _)
  | x :: B, 0, r, hb, _, hr => by
    have hx := hb x (List.mem_cons_self ..)
    have hs := sg_len 8 x
    have e : rd (x :: B) ((0 : Nat) : Int) = x := rfl
    obtain ⟨h1, h2, h3⟩ := or_sg hx.1 hx.2 hr
    rw [e, List.set_cons_zero, bitsL, h1, bitsL, Nat.mul_zero, Nat.zero_add, List.set_append_left _ _ (by omega)]
    exact ⟨rfl, Bys.cons h2 h3 (fun y hy => hb y (List.mem_cons_of_mem _ hy))⟩
  | x :: B, q + 1, r, hb, hq, hr => by
    have hx := hb x (List.mem_cons_self ..)
    have hs := sg_len 8 x
    have hb' : Bys B := fun y hy => hb y (List.mem_cons_of_mem _ hy)
    have e : rd (x :: B) ((q + 1 : Nat) : Int) = rd B (q : Int) := by
      unfold rd
      rw [Int.toNat_natCast, Int.toNat_natCast, List.getD_cons_succ]
    obtain ⟨i1, i2⟩ := set_bit B q r hb' (by simpa using hq) hr
    rw [e, List.set_cons_succ, bitsL, i1, bitsL, List.set_append_right _ _ (by omega), show 8 * (q + 1) + r - (sg 8 x).length = 8 * q + r by omega]
    exact ⟨rfl, Bys.cons hx.1 hx.2 i2⟩
theorem set_pad (p : List Int) (n : Nat) (h : 0 < n) : (p ++ List.replicate n (48 : Int)).set p.length 49 = p ++ 49 :: List.replicate (n - 1) 48 := by
  obtain ⟨n, rfl⟩ : ∃ j, n = j + 1 := ⟨n - 1, by omega⟩
  rw [List.set_append_right _ _ (Nat.le_refl _), Nat.sub_self, List.replicate_succ, List.set_cons_zero, Nat.add_sub_cancel]
/-- RowBytes: the bits of what it writes. -/
theorem rowbytes_loop {L : Nat} : ∀ (suf pre B : List Int), (∀ x, x ∈ pre ++ suf → x = 48 ∨ x = 49) → (pre ++ suf).length ≤ 400000 → L = (pre ++ suf).length / 8 + 1 → B.length = L → Bys B → bitsL B = pre ++ List.replicate (8 * L - pre.length) 48 →
    ∃ B', Ev (fun k => impl_RowBytes.l0 k (strOfNums (pre ++ suf)) B (pre.length : Int)) (strOfNums B', true) ∧ bitsL B' = (pre ++ suf) ++ 49 :: List.replicate (8 * L - (pre ++ suf).length - 1) 48 ∧ Bys B' ∧ B'.length = L
  | [], pre, B, hm, hl, hL, hB, hbb, he => by
    rw [List.append_nil] at hm hl hL ⊢
    have hq : pre.length / 8 < B.length := by omega
    obtain ⟨s1, s2⟩ := set_bit B (pre.length / 8) (pre.length % 8) hbb hq (by omega)
    rw [he, show 8 * (pre.length / 8) + pre.length % 8 = pre.length by omega, set_pad _ _ (by omega)] at s1
    refine ⟨_, Ev.step (f := fun _ => some (strOfNums (B.set (pre.length / 8) (Go.bits .or .u8 (rd B ((pre.length / 8 : Nat) : Int)) (shr .u8 128 ((pre.length % 8 : Nat) : Int)))), true)) (fun k => ?_) (Ev.now _), s1, s2, by rw [List.length_set, hB]⟩
    simp only [impl_RowBytes.l0, str_size]
    rw [if_neg (by omega), show (pre.length : Int) / 8 = ((pre.length / 8 : Nat) : Int) by omega, w64 (by omega) (by omega), if_pos (by omega), if_pos (by omega), show ((pre.length : Int) % 8).toNat = pre.length % 8 by omega, Int.toNat_natCast]
    have hs := shr_pow ⟨pre.length % 8, by omega⟩
    dsimp only at hs
    rw [hs]
  | x :: suf, pre, B, hm, hl, hL, hB, hbb, he => by
    have hb : Bys (pre ++ x :: suf) := fun y hy => by rcases hm y hy with h | h <;> omega
    have hx := hm x (List.mem_append_right _ (List.mem_cons_self ..))
    have hll : (pre ++ x :: suf).length = pre.length + (suf.length + 1) := by simp
    have hq : pre.length / 8 < B.length := by omega
    rcases hx with rfl | rfl
    · obtain ⟨B', h1, h2, h3, h4⟩ := rowbytes_loop (L := L) suf (pre ++ [48]) B (by rw [← snoc_cons]; exact hm) (by rw [← snoc_cons]; exact hl) (by rw [← snoc_cons]; exact hL) hB hbb (by
        rw [he, List.append_assoc, List.length_append, List.length_singleton, List.singleton_append, ← List.replicate_succ]
        congr 2
        omega)
      rw [← snoc_cons] at h1 h2
      refine ⟨B', Ev.step (fun k => ?_) h1, h2, h3, h4⟩
      simp only [impl_RowBytes.l0]
      rw [if_pos (lt_mid pre suf 48), if_pos (by omega), bt_mid hb, if_neg (by decide), next_len pre 48 (by omega)]
    · obtain ⟨s1, s2⟩ := set_bit B (pre.length / 8) (pre.length % 8) hbb hq (by omega)
      rw [he, show 8 * (pre.length / 8) + pre.length % 8 = pre.length by omega, set_pad _ _ (by omega)] at s1
      obtain ⟨B', h1, h2, h3, h4⟩ := rowbytes_loop (L := L) suf (pre ++ [49]) (B.set (pre.length / 8) (Go.bits .or .u8 (rd B ((pre.length / 8 : Nat) : Int)) (shr .u8 128 ((pre.length % 8 : Nat) : Int)))) (by rw [← snoc_cons]; exact hm) (by rw [← snoc_cons]; exact hl) (by rw [← snoc_cons]; exact hL) (by rw [List.length_set, hB]) s2 (by
        rw [s1, show (pre ++ [(49 : Int)]).length = pre.length + 1 by simp, Nat.sub_add_eq, List.append_assoc]
        rfl)
      rw [← snoc_cons] at h1 h2
      refine ⟨B', Ev.step (fun k => ?_) h1, h2, h3, h4⟩
      simp only [impl_RowBytes.l0]
      rw [if_pos (lt_mid pre suf 49), if_pos (by omega), bt_mid hb, if_pos rfl, Int.tdiv_eq_ediv_of_nonneg (by omega), Int.tmod_eq_emod_of_nonneg (by omega), show (pre.length : Int) / 8 = ((pre.length / 8 : Nat) : Int) by omega, show (pre.length : Int) % 8 = ((pre.length % 8 : Nat) : Int) by omega, w64 (x := ((pre.length / 8 : Nat) : Int)) (by omega) (by omega), if_pos (by omega), if_pos (by omega), if_pos (by omega), Int.toNat_natCast, next_len pre 49 (by omega)]
theorem bitsL_zeros : ∀ n : Nat, bitsL (List.replicate n 0) = List.replicate (8 * n) 48
  | 0 => rfl
  | n + 1 => by
    rw [List.replicate_succ, bitsL, bitsL_zeros n, show 8 * (n + 1) = 8 + 8 * n by omega, show sg 8 0 = List.replicate 8 48 from rfl, List.replicate_append_replicate]
theorem impl_rowbytes_ev {m : List Int} (hm : ∀ x, x ∈ m → x = 48 ∨ x = 49) (hl : m.length ≤ 400000) : ∃ B, Ev (fun k => impl_RowBytes.f k (strOfNums m)) (strOfNums B, true) ∧ bitsL B = m ++ 49 :: List.replicate (8 * (m.length / 8 + 1) - m.length - 1) 48 ∧ Bys B ∧ B.length = m.length / 8 + 1 := by
  have hb : Bys m := fun y hy => by rcases hm y hy with h | h <;> omega
  obtain ⟨B, h1, h2, h3, h4⟩ := rowbytes_loop (L := m.length / 8 + 1) m [] (List.replicate (m.length / 8 + 1) 0) hm hl rfl (by rw [List.length_replicate]) (fun y hy => by rw [List.eq_of_mem_replicate hy]; decide) (by rw [bitsL_zeros, List.nil_append]; rfl)
  refine ⟨B, ?_, h2, h3, h4⟩
  unfold impl_RowBytes.f
  refine Ev.bind (impl_rowok_ev hb (by omega)) ?_
  rw [rowOk_mk hl hm]
  have e : wrap64 (wrap64 (((strOfNums m).size : Int) / 8) + 1) = ((m.length / 8 + 1 : Nat) : Int) := by
    rw [str_size, w64 (x := (m.length : Int) / 8) (by omega) (by omega), w64 (by omega) (by omega)]
    omega
  simp only [if_true, e, if_pos (show (0 : Int) ≤ ((m.length / 8 + 1 : Nat) : Int) by omega), Int.toNat_natCast, if_pos (show m.length / 8 + 1 ≤ 281474976710656 by omega)]
  exact h1
/-- What RowBytes wrote is in BytesRow's reach. -/
theorem bytesRow_back {m B : List Int} (hl : m.length ≤ 400000) (hB : bitsL B = m ++ 49 :: List.replicate (8 * (m.length / 8 + 1) - m.length - 1) 48) (hlen : B.length = m.length / 8 + 1) : bytesRow B (strOfNums m, true) := by
  have hne : B ≠ [] := by
    intro h
    rw [h] at hlen
    simp at hlen
  refine Or.inr ⟨⟨hne, by omega, ?_⟩, m, _, hB, ?_⟩
  · obtain ⟨C, x, rfl⟩ : ∃ C x, B = C ++ [x] := ⟨B.dropLast, B.getLast hne, (List.dropLast_concat_getLast hne).symm⟩
    have hC : C.length = m.length / 8 := by simpa using hlen
    have hg : (C ++ [x]).getD ((C ++ [x]).length - 1) 0 = x := by simp
    rw [hg]
    rintro rfl
    have h1 := congrArg (fun l => l.getD m.length 0) hB
    rw [bitsL_append, bitsL, bitsL, List.append_nil] at h1
    have hbl := bitsL_len C
    rw [List.getD_eq_getElem?_getD, List.getD_eq_getElem?_getD, List.getElem?_append_right (by omega), List.getElem?_append_right (Nat.le_refl _), Nat.sub_self, show sg 8 0 = List.replicate 8 48 from rfl, List.getElem?_replicate_of_lt (by omega), List.getElem?_cons_zero] at h1
    exact absurd h1 (by decide)
  · unfold rowOfBytes
    rw [if_neg (by omega)]
theorem last_uniq : ∀ (A A' : List Int) (z z' : Nat), A ++ 49 :: List.replicate z 48 = A' ++ 49 :: List.replicate z' 48 → A = A'
  | [], [], _, _, _ => rfl
  | [], a :: A', z, z', h => by
    rw [List.nil_append, List.cons_append] at h
    injection h with h1 h2
    have : (49 : Int) ∈ List.replicate z (48 : Int) := by rw [h2]; simp
    exact absurd (List.eq_of_mem_replicate this) (by decide)
  | a :: A, [], z, z', h => by
    rw [List.nil_append, List.cons_append] at h
    injection h with h1 h2
    have : (49 : Int) ∈ List.replicate z' (48 : Int) := by rw [← h2]; simp
    exact absurd (List.eq_of_mem_replicate this) (by decide)
  | a :: A, a' :: A', z, z', h => by
    rw [List.cons_append, List.cons_append] at h
    injection h with h1 h2
    rw [h1, last_uniq A A' z z' h2]
theorem impl_strip {A : List Int} {z : Nat} (hl : A.length + z ≤ 1000000) : ∀ j : Nat, j ≤ z → Ev (fun k => impl_BytesRow.l1 k ((A.length + j + 1 : Nat) : Int) (A ++ 49 :: List.replicate z 48)) (rowOfBytes A)
  | 0, hj => by
    refine Ev.step (f := fun _ => some (rowOfBytes A)) (fun k => ?_) (Ev.now _)
    simp only [impl_BytesRow.l1]
    rw [w64 (by omega) (by omega), show ((A.length + 0 + 1 : Nat) : Int) - 1 = ((A.length + 0 : Nat) : Int) by omega, if_pos (by omega), if_pos (by rw [List.length_append, List.length_cons]; omega), rd_pad hj, if_pos rfl, if_neg (by decide)]
    unfold rowOfBytes
    by_cases h : 400000 < A.length
    · rw [if_pos (by omega), if_pos h]
    · rw [if_neg (by omega), if_neg h, if_pos (by rw [List.length_append, List.length_cons]; omega), Int.toNat_natCast, Nat.add_zero, take_pad]
  | j + 1, hj => by
    refine Ev.step (fun k => ?_) (impl_strip hl j (by omega))
    simp only [impl_BytesRow.l1]
    rw [w64 (by omega) (by omega), show ((A.length + (j + 1) + 1 : Nat) : Int) - 1 = ((A.length + (j + 1) : Nat) : Int) by omega, if_pos (by omega), if_pos (by rw [List.length_append, List.length_cons, List.length_replicate]; omega), rd_pad hj, show (if j + 1 = 0 then (49 : Int) else 48) = 48 from rfl, if_pos rfl]
    rfl
theorem bit_at : ∀ (m : Fin 256) (j : Fin 8), (48 + (Go.bits .and .u8 (shr .u8 ((m : Nat) : Int) (7 - ((j : Nat) : Int))) 1)) % 256 = (sg 8 ((m : Nat) : Int)).getD (j : Nat) 0 := by decide +kernel
theorem bit_val {x : Int} {j : Nat} (h0 : 0 ≤ x) (h1 : x < 256) (hj : j < 8) : (48 + (Go.bits .and .u8 (shr .u8 x (7 - (j : Int))) 1)) % 256 = (sg 8 x).getD j 0 := by
  obtain ⟨n, rfl⟩ := Int.eq_ofNat_of_zero_le h0
  exact bit_at ⟨n, by omega⟩ ⟨j, hj⟩
theorem impl_byte {x : Int} {pre suf : List Int} (hb : Bys (pre ++ x :: suf)) (hl : (pre ++ x :: suf).length ≤ 60000) {R : ByteArray × Bool} (h : Ev (fun k => impl_BytesRow.l0 k (strOfNums (pre ++ x :: suf)) ((8 * (pre ++ x :: suf).length : Nat) : Int) (bitsL pre ++ sg 8 x) ((8 * pre.length + 8 : Nat) : Int)) R) :
    ∀ d j : Nat, j + d = 8 → Ev (fun k => impl_BytesRow.l0 k (strOfNums (pre ++ x :: suf)) ((8 * (pre ++ x :: suf).length : Nat) : Int) (bitsL pre ++ (sg 8 x).take j) ((8 * pre.length + j : Nat) : Int)) R
  | 0, j, hj => by
    have : j = 8 := by omega
    subst this
    rw [List.take_of_length_le (by rw [sg_len]; exact Nat.le_refl _)]
    exact h
  | d + 1, j, hj => by
    have hx := mid_byte hb
    have hl' : pre.length + (suf.length + 1) ≤ 60000 := by simpa using hl
    have hll : (pre ++ x :: suf).length = pre.length + (suf.length + 1) := by simp
    have hp := bitsL_len pre
    have ih := impl_byte hb hl h d (j + 1) (by omega)
    have hs := sg_len 8 x
    have e : (sg 8 x).take (j + 1) = (sg 8 x).take j ++ [(sg 8 x).getD j 0] := by
      rw [List.take_add_one, List.getD_eq_getElem?_getD, List.getElem?_eq_getElem (by omega)]
      rfl
    rw [e, ← List.append_assoc] at ih
    have ht : ((sg 8 x).take j).length ≤ 8 := by rw [List.length_take]; omega
    refine Ev.step (fun k => ?_) ih
    simp only [impl_BytesRow.l0, str_size]
    have hd : Int.tdiv ((8 * pre.length + j : Nat) : Int) 8 = (pre.length : Int) := by rw [Int.tdiv_eq_ediv_of_nonneg (by omega)]; omega
    have hm : Int.tmod ((8 * pre.length + j : Nat) : Int) 8 = (j : Int) := by rw [Int.tmod_eq_emod_of_nonneg (by omega)]; omega
    rw [hd, hm, if_pos (by omega), w64 (x := (pre.length : Int)) (by omega) (by omega), if_pos (by omega), if_pos (by omega), w64 (x := 7 - (j : Int)) (by omega) (by omega), if_pos (by omega), if_pos (by rw [List.length_append]; omega), bt_mid hb, bit_val hx.1 hx.2 (by omega), w64 (by omega) (by omega)]
    rfl
theorem impl_bits {R : ByteArray × Bool} : ∀ (suf pre : List Int), Bys (pre ++ suf) → (pre ++ suf).length ≤ 60000 → Ev (fun k => impl_BytesRow.l1 k ((bitsL (pre ++ suf)).length : Int) (bitsL (pre ++ suf))) R → Ev (fun k => impl_BytesRow.l0 k (strOfNums (pre ++ suf)) ((8 * (pre ++ suf).length : Nat) : Int) (bitsL pre) ((8 * pre.length : Nat) : Int)) R
  | [], pre, hb, hl, h => by
    rw [List.append_nil] at h ⊢
    rw [bitsL_len] at h
    refine Ev.step (fun k => ?_) h
    simp only [impl_BytesRow.l0]
    rw [if_neg (by omega)]
  | x :: suf, pre, hb, hl, h => by
    have ih := impl_bits suf (pre ++ [x]) (by rw [← snoc_cons]; exact hb) (by rw [← snoc_cons]; exact hl) (by rw [← snoc_cons]; exact h)
    rw [← snoc_cons, bitsL_append, bitsL, bitsL, List.append_nil, show (pre ++ [x]).length = pre.length + 1 by simp] at ih
    have := impl_byte hb hl ih 8 0 rfl
    rw [List.take_zero, List.append_nil] at this
    exact this
theorem impl_bytesrow_ev {l : List Int} (hb : Bys l) (hl : l.length ≤ 1048576) {v : ByteArray × Bool} (hv : bytesRow l v) : Ev (fun k => impl_BytesRow.f k (strOfNums l)) v := by
  have bad : ∀ n, Ev (fun k => impl_BytesRow.j0 k (strOfNums l) n true) (⟨#[]⟩, false) := by
    intro n
    refine Ev.step (f := fun _ => some (⟨#[]⟩, false)) (fun k => ?_) (Ev.now _)
    simp only [impl_BytesRow.j0, if_true]
  unfold impl_BytesRow.f
  simp only [str_size, w64 (x := 8 * (l.length : Int)) (by omega) (by omega)]
  by_cases h0 : l = []
  · have hv' : v = (⟨#[]⟩, false) := by
      rcases hv with ⟨_, e⟩ | ⟨⟨h, _⟩, _⟩
      · exact e
      · exact absurd h0 h
    subst h0 hv'
    simp only [List.length_nil, Int.ofNat_zero, Int.mul_zero, if_true]
    exact bad _
  · have hp := List.length_pos_iff.2 h0
    simp only [if_neg (show ¬ (8 * (l.length : Int) = 0) by omega), w64 (x := (l.length : Int) - 1) (by omega) (by omega), if_pos (show (0 : Int) ≤ (l.length : Int) - 1 by omega), if_pos (show (l.length : Int) - 1 < (l.length : Int) by omega)]
    rw [bt_get hb (n := l.length - 1) (by omega)]
    by_cases h2 : l.getD (l.length - 1) 0 = 0
    · have hv' : v = (⟨#[]⟩, false) := by
        rcases hv with ⟨_, e⟩ | ⟨⟨_, _, h⟩, _⟩
        · exact e
        · exact absurd h2 h
      subst hv'
      simp only [if_pos h2]
      exact bad _
    · simp only [if_neg h2]
      by_cases h1 : 50001 < l.length
      · have hv' : v = (⟨#[]⟩, false) := by
          rcases hv with ⟨_, e⟩ | ⟨⟨_, h, _⟩, _⟩
          · exact e
          · omega
        subst hv'
        rw [decide_eq_true (show 8 * (l.length : Int) > 400008 by omega)]
        exact bad _
      · rcases hv with ⟨h, _⟩ | ⟨_, A, z, e, rfl⟩
        · rcases h with h | h | h
          · exact absurd h h0
          · exact absurd h h1
          · exact absurd h h2
        · have hle := bitsL_len l
          rw [e] at hle
          rw [List.length_append, List.length_cons, List.length_replicate] at hle
          rw [decide_eq_false (show ¬ (8 * (l.length : Int) > 400008) by omega)]
          refine Ev.step (f := fun k => impl_BytesRow.l0 k (strOfNums ([] ++ l)) ((8 * ([] ++ l).length : Nat) : Int) (bitsL []) ((8 * ([] : List Int).length : Nat) : Int)) (fun k => ?_) (impl_bits l [] hb (by rw [List.nil_append]; omega) ?_)
          · simp only [impl_BytesRow.j0, Bool.false_eq_true, if_false]
            rw [if_pos (by omega), if_pos (by omega)]
            simp only [List.nil_append, bitsL, List.length_nil, Int.natCast_mul]
            rfl
          · rw [List.nil_append, e]
            have := impl_strip (A := A) (z := z) (by omega) z (Nat.le_refl _)
            have e2 : (A ++ 49 :: List.replicate z 48).length = A.length + z + 1 := by rw [List.length_append, List.length_cons, List.length_replicate]; omega
            rw [e2]
            exact this
theorem FnRows : laws_FnRows.Pure := by
  intro l hl hl2 _
  refine Ev.rounds ?_
  unfold laws_FnRows.f laws_big.f
  simp only [Option.bind_some]
  by_cases hbig : (l.length : Int) > 1048576
  · rw [decide_eq_true hbig]
    exact Ev.now _
  · rw [decide_eq_false hbig]
    have hlb : l.length ≤ 1048576 := by omega
    have hml : (1048577 : Nat) ≤ maxLen := by decide
    simp only [Bool.false_eq_true, if_false]
    obtain ⟨m1, hm1, h60, hmx1⟩ := row_ev hl
    obtain ⟨m2, hm2, h602, hmx2⟩ := row_ev (l := [7] ++ l) (by rw [List.length_append, List.length_singleton]; omega)
    refine Ev.bind hm1 ?_
    simp only [if_pos (show ([7] : List Int).length + l.length < 140737488355328 by rw [List.length_singleton]; omega)]
    refine Ev.bind hm2 ?_
    obtain ⟨B1, r1, b1, y1, n1⟩ := impl_rowbytes_ev hmx1 (by omega)
    have hback := impl_bytesrow_ev y1 (by omega) (bytesRow_back (by omega) b1 n1)
    by_cases e : m1 = m2
    · subst e
      refine Ev.bind r1 (Ev.bind r1 (Ev.bind hback ?_))
      simp only [if_true, str_size, n1]
      rw [w64 (x := (m1.length : Int) / 8) (by omega) (by omega), w64 (x := (m1.length : Int) / 8 + 1) (by omega) (by omega), if_pos (by omega)]
      simp only [beq_self_eq_true]
      exact Ev.now _
    · obtain ⟨B2, r2, b2, y2, n2⟩ := impl_rowbytes_ev hmx2 (by omega)
      refine Ev.bind r1 (Ev.bind r2 (Ev.bind hback ?_))
      simp only [if_true, str_size, n1]
      rw [w64 (x := (m1.length : Int) / 8) (by omega) (by omega), w64 (x := (m1.length : Int) / 8 + 1) (by omega) (by omega), if_pos (by omega)]
      have hB : ¬ B1 = B2 := by
        intro h
        rw [h, b2] at b1
        exact e (last_uniq _ _ _ _ b1).symm
      have e1 : ((strOfNums B1).toList == (strOfNums B2).toList) = false := by
        rw [beq_eq_false_iff_ne]
        exact fun h => hB ((str_toList_inj y1 y2).1 h)
      have e2 : ((strOfNums m1).toList == (strOfNums m2).toList) = false := by
        rw [beq_eq_false_iff_ne]
        exact fun h => e ((str_toList_inj (Bys.signs hmx1) (Bys.signs hmx2)).1 h)
      rw [e1, e2]
      exact Ev.now _

end Go.Proofs.Ytaohobbpbcecbaa.Pure
