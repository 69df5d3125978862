/- A row of bytes that a conversion of a text made (it bears the conversion's mark): what an append and a read of it do. -/
import Derived.Test.YtjcpapjochlndaaWWords
import Derived.Test.YtjcpapjochlndaaWLast
import Derived.Test.YtjcpapjochlndaaWMore
set_option linter.unusedVariables false
namespace Go.Proofs.YtjcpapjochlndaaY
open Go.RowKit Go.Proofs.YtjcpapjochlndaaW.PrintWords Go.Proofs.YtjcpapjochlndaaW.PrintLast Go.Proofs.YtjcpapjochlndaaW.PrintMore Go.Proofs.YtjcpapjochlndaaW.PrintWords.Kd
/-- A row of bytes of the call's own, with or without a conversion's mark. -/
def M (e : Nat) (w : World) (base : Nat) (ok : Nat → Prop) (v : Value) (xs : List Int) : Prop :=
  (∀ k, v.ownBlock = some k → ok k) ∧ ∃ (g cap : Nat) (cur : Array Value) (m : Nat × Nat), v = .slice (some ⟨g, 0, none⟩) xs.length cap ∧ base ≤ g ∧ w.heap[g]? = some (.cells cur e m) ∧ (m = (0, 0) ∨ m = (cur.size, cur.size + 1)) ∧ xs.length ≤ cap ∧ xs.length ≤ 9223372036854775807 ∧ cur.size = cap ∧ cur.toList.take xs.length = nums .u8 xs
section
variable {e : Nat} {w w1 W : World} {base : Nat} {ok ok' : Nat → Prop} {u v v1 : Value} {xs : List Int}
theorem M_mono (h : M e w base ok v xs) (hok : ∀ k, ok k → ok' k) : M e w base ok' v xs := ⟨fun k hk => hok k (h.1 k hk), h.2⟩
theorem M_lower {base' : Nat} (h : M e w base ok v xs) (hb : base' ≤ base) : M e w base' ok v xs := by
  obtain ⟨h0, g, cap, cur, m, h1, h2, h3⟩ := h
  exact ⟨h0, g, cap, cur, m, h1, Nat.le_trans hb h2, h3⟩
theorem M_lt (h : M e w base ok v xs) : ∀ k, v.ownBlock = some k → k < w.heap.size := by
  obtain ⟨h0, g, cap, cur, m, rfl, h2, h3, _⟩ := h
  intro k hk
  have : g = k := by simpa [Value.ownBlock] using hk
  subst this
  exact (Array.getElem?_eq_some_iff.1 h3).1
theorem M_base (h : M e w base ok v xs) : ∀ k, v.ownBlock = some k → base ≤ k := by
  obtain ⟨h0, g, cap, cur, m, rfl, h2, h3, _⟩ := h
  intro k hk
  have : g = k := by simpa [Value.ownBlock] using hk
  subst this
  exact h2
theorem M_move (h : M e w base ok v xs) (hm : ∀ k, v.ownBlock = some k → w1.heap[k]? = w.heap[k]?) : M e w1 base ok v xs := by
  obtain ⟨h0, g, cap, cur, m, rfl, h2, h3, h4⟩ := h
  exact ⟨h0, g, cap, cur, m, rfl, h2, (hm g (by simp [Value.ownBlock])).trans h3, h4⟩
theorem M_below (h : M e w base ok v xs) (hb : Below w.heap.size w w1) : M e w1 base ok v xs := M_move h (fun k hk => hb.block k (M_lt h k hk))
theorem M_alloc (h : M e w base ok v xs) (o : Obj) : M e (w.alloc o) base ok v xs := M_below h (below_alloc (Below.refl _ _) o)
theorem M_drew (h : M e w base ok v xs) : M e w.drew base ok v xs := M_below h (below_drew (Below.refl _ _))
theorem M_drewN (h : M e w base ok v xs) (m : Nat) : M e (w.drewN m) base ok v xs := M_below h (pw_below_drewN (Below.refl _ _) m)
theorem M_slice (h : M e w base ok v xs) : ∃ A c, v = .slice A xs.length c := by
  obtain ⟨h0, g, cap, cur, m, h1, _⟩ := h
  exact ⟨_, cap, h1⟩
theorem M_reads' {A : Option Addr} {n c : Nat} (h : M e w base ok (.slice A n c) xs) : n = xs.length ∧ n ≤ c ∧ (Kd.int .u8).C w A xs.length xs := by
  obtain ⟨h0, g, cap, cur, m, h1, h2, h3, h4, h5, h6, h7, h8⟩ := h
  injection h1 with ha hb hc
  subst ha
  subst hb
  subst hc
  refine ⟨rfl, h5, Kd.C_of_reads (d := (0 : Int)) (h1 := fun _ => rfl) ⟨rfl, h6, fun hp => ⟨_, rfl, fun j hj => ?_⟩⟩⟩
  have e1 : (⟨g, 0, none⟩ : Addr).add j = ⟨g, j, none⟩ := add_plain g j
  rw [e1, cell_of_row w g j cur e m h3]
  have h9 : (cur.toList.take xs.length)[j]? = (nums .u8 xs)[j]? := by rw [h8]
  rw [List.getElem?_take, if_pos hj] at h9
  rw [← Array.getElem?_toList, h9]
  simp [nums, List.getElem?_eq_getElem hj, List.getD_eq_getElem?_getD]
theorem M_elder' (hu : M e W base ok u xs) (hbase : ∀ k, v.ownBlock = some k → W.heap.size ≤ k) (hb : Below W.heap.size W w1) : M e w1 base (fun k => ok k ∧ some k ≠ v.ownBlock) u xs := by
  have h := M_below hu hb
  exact ⟨fun k hk => ⟨hu.1 k hk, fun he => by have := hbase k he.symm; have := M_lt hu k hk; omega⟩, h.2⟩
theorem M_after (h : M e W base (fun k => ok k ∧ some k ≠ v.ownBlock) u xs) (hg : W.grownBy w1 v.ownBlock) (hat : v1.ownBlock = v.ownBlock ∨ ∃ b, v1.ownBlock = some b ∧ W.heap.size ≤ b) : M e w1 base (fun k => ok k ∧ some k ≠ v1.ownBlock) u xs := by
  have h2 := M_move (w1 := w1) h (fun k hk => hg.block k (M_lt h k hk) (h.1 k hk).2)
  refine ⟨fun k hk => ⟨(h.1 k hk).1, ?_⟩, h2.2⟩
  rcases hat with hat | ⟨b, hb, hle⟩
  · rw [hat]
    exact (h.1 k hk).2
  · rw [hb]
    intro he
    injection he with he
    have := M_lt h k hk
    omega
end
section
variable {P : Program} {ops : Array Oper} {rest : List Oper} {o : Oper} {a : Act} {Q : Exit → Act → World → Prop}
theorem bytes_below (W : World) (e : TypeId) (s : ByteArray) : Below W.heap.size W (Lib.bytesWorld W e s) :=
  ⟨rfl, rfl, rfl, by rw [Lib.bytesWorld_size]; omega, fun k hk => Lib.bytesWorld_at_old W e s k hk⟩
theorem M_conv {W : World} (hgd : o.guard = none) {N : Tmp} (hd : o.dst = some N) (src dst e : TypeId) (x : Operand) (ho : o.op = .convert src dst x) (s : ByteArray)
    {u : TypeDesc} (hs : P.underlying src = some u) (hd' : P.underlying dst = some (.slice e)) (he : P.underlying e = some (.int .u8)) (hx : a.eval x = .string s) (hl : s.size ≤ 9223372036854775807)
    (h : ∀ v1 w1, M e w1 W.heap.size (fun _ => True) v1 (bytesOf s) → Below W.heap.size W w1 → W.grownBy w1 none → (∃ b, v1.ownBlock = some b ∧ W.heap.size ≤ b) → wpList P ops Q rest (a.put o.dst v1) w1) : wpList P ops Q (o :: rest) a W := by
  have hr := Lib.run_convert_string_bytes (P := P) W src dst e s hs hd' he
  have hrun : (execOp a.eval o).run P W = .ok (.value (.slice (some ⟨W.heap.size, 0, none⟩) s.size (grownCap W s.size 0 e))) (Lib.bytesWorld W e s) := by
    simp [execOp, ho, hx, hr]
  have hb := bytes_below W e s
  have hge := grownCap_ge W s.size 0 e
  have hsz : (Lib.bytesCells W e s).size = grownCap W s.size 0 e := by
    simp only [Lib.bytesCells, Array.size_append, Array.size_map, Array.size_replicate]
    have : s.data.size = s.size := rfl
    omega
  refine event_run hgd hrun (h _ _ ⟨fun _ _ => trivial, W.heap.size, grownCap W s.size 0 e, Lib.bytesCells W e s, _, by rw [bytesOf_length], Nat.le_refl _, Lib.bytesWorld_at_new W e s, .inr rfl, by rw [bytesOf_length]; exact hge, by rw [bytesOf_length]; exact hl, hsz, ?_⟩ hb (grown_of_below hb none) ⟨W.heap.size, by simp [Value.ownBlock], Nat.le_refl _⟩)
  rw [bytesOf_length]
  simp only [Lib.bytesCells, Array.toList_append, Array.toList_map]
  rw [List.take_left' (by simp)]
  simp [nums, bytesOf]
/-- One byte stored in a row that may bear the mark. -/
theorem run_store1 (w : World) (g n : Nat) (cur : Array Value) (e : TypeId) (m : Nat × Nat) (hg : w.heap[g]? = some (.cells cur e m)) (hm : m = (0, 0) ∨ m = (cur.size, cur.size + 1)) (hn : n < cur.size) (p : Int) :
    (storeCells ⟨g, n, none⟩ [.int .u8 p] 0).run P w = .ok () (w.setRow g (cur.setIfInBounds n (.int .u8 p))) := by
  have hcell : w.cell? ⟨g, n, none⟩ = some cur[n] := by simp [World.cell?, hg, hn]
  have hfro : w.frozen? ⟨g, n, none⟩ = false := by
    rcases hm with rfl | rfl
    · simp [World.frozen?, hg]
    · simp [World.frozen?, hg]
      omega
  have hst : (store ((⟨g, n, none⟩ : Addr).add 0) (.int .u8 p)).run P w = .ok () (w.setRow g (cur.setIfInBounds n (.int .u8 p))) := by
    have hadd : (⟨g, n, none⟩ : Addr).add 0 = ⟨g, n, none⟩ := by unfold Addr.add; split <;> simp_all
    rw [hadd, run_store P w _ _ _ rfl, hcell]
    simp [hfro, setCell_eq_setRow w g n cur e m _ hg]
  simp only [storeCells, Sem.run_bind, hst, Result.andThen_ok]
  rfl
theorem run_append1 (w : World) (base : Nat) (t ty e : TypeId) (i : TypeInfo) (ht : P.underlying t = some (.slice e)) (hi : P.info? e = some i) (hz : i.zero = some (.int .u8 0)) (hsize : i.size = 1) (hby : i.bytes = 1)
    (ok : Nat → Prop) (v : Value) (xs : List Int) (p : Int) (HO : M e w base ok v xs) (hfresh : ∀ k, w.heap.size ≤ k → ok k) (hbase : base ≤ w.heap.size) (ad : Addr) (hnews : ∀ j u, [Value.int .u8 p][j]? = some u → w.cell? (ad.add j) = some u) (hl : xs.length + 1 ≤ 140737488355328) :
    ∃ v' w', (Builtin.append_ #[t, t] ty #[v, .slice (some ad) 1 1]).run P w = .ok v' w' ∧ M e w' base ok v' (xs ++ [p]) ∧ w.grownBy w' v.ownBlock ∧ (v'.ownBlock = v.ownBlock ∨ v'.ownBlock = some w.heap.size) := by
  obtain ⟨h0, g, cap, cur, m, rfl, h2, h3, h4, h5, h6, h7, h8⟩ := HO
  have hlen : (xs ++ [p]).length = xs.length + 1 := by simp
  by_cases hroom : xs.length + 1 ≤ cap
  · have hf := run_firstCells_some (P := P) w 1 1 ad 1 1 [.int .u8 p] (by simp) hnews
    have hst := run_store1 (P := P) w g xs.length cur e m h3 h4 (by omega) p
    refine ⟨.slice (some ⟨g, 0, none⟩) (xs.length + 1) cap, w.setRow g (cur.setIfInBounds xs.length (.int .u8 p)), ?_, ⟨fun k hk => h0 k (by simpa [Value.ownBlock] using hk), g, cap, cur.setIfInBounds xs.length (.int .u8 p), m, by rw [hlen], h2, setRow_heap w g cur _ e m h3, by simpa using h4, by rw [hlen]; exact hroom, by rw [hlen]; omega, by simpa using h7, ?_⟩, ⟨rfl, rfl, rfl, by simp, fun k _ hk => setRow_other w g k _ (fun e => hk (by simp [Value.ownBlock, e]))⟩, .inl rfl⟩
    · simp [Builtin.append_, run_underlying ht, sizeOf, typeInfo, hi, hsize, Builtin.lenOf, hroom, hf, Addr.add_lit, hst]
    · rw [hlen, Array.toList_setIfInBounds, List.take_add_one, List.take_set_of_le (Nat.le_refl _), h8, List.getElem?_set_self (by simpa using (by omega : xs.length < cur.size)), nums_append]
      rfl
  · have holds : ∀ j u, (nums .u8 xs)[j]? = some u → w.cell? ((⟨g, 0, none⟩ : Addr).add j) = some u := by
      intro j u hj
      rw [add_plain g j, cell_of_row w g j cur e m h3]
      rw [← h8, List.getElem?_take] at hj
      split at hj
      · rw [← Array.getElem?_toList]
        exact hj
      · cases hj
    have hr := run_append_grow (P := P) w t ty e i (.int .u8 0) ht hi hz ⟨g, 0, none⟩ xs.length cap (nums .u8 xs) (by rw [hsize, nums_length]; omega) holds ad 1 1 [.int .u8 p] (by rw [hsize]; rfl) hnews (by omega) (by omega) (growslice_fits (by omega) (by rw [hby]; omega))
    have hge := grownCap_ge w (xs.length + 1) cap e
    refine ⟨_, _, hr, ⟨fun k hk => hfresh k ?_, w.heap.size, grownCap w (xs.length + 1) cap e, _, (0, 0), by rw [hlen], hbase, heap_alloc_new w.drew _, .inl rfl, by rw [hlen]; exact hge, by rw [hlen]; omega, ?_, ?_⟩, ⟨rfl, rfl, rfl, by simp, fun k hk _ => by first | exact heap_alloc_old w.drew _ k hk | exact heap_alloc_old w.drew _ hk⟩, .inr rfl⟩
    · have : w.heap.size = k := by simpa [Value.ownBlock] using hk
      omega
    · have hz1 : (Value.int IntKind.u8 0).cells.size = 1 := rfl
      simp only [Array.size_append, List.size_toArray, size_zeroCells, hz1, nums_length, List.length_cons, List.length_nil]
      omega
    · simp only [Array.toList_append, List.append_assoc]
      rw [← List.append_assoc, List.take_left' (by simp [nums])]
      simp [nums]
/-- append(v, x), behind 'at_builtin'; the goal's world is 'W.alloc' of the variadic's box. -/
theorem M_append {w0 W : World} (base : Nat) (hgd : o.guard = none) (s x : Operand) (t e : TypeId) (z : Value) (bytes : Nat)
    (ho : o.op = .call { callee := .builtin .append, args := #[s, x], argTypes := #[t, t] })
    (ht : P.underlying t = some (.slice e)) (hinfo : (P.info? e).map (fun i => (i.zero, i.size, i.bytes)) = some (some (.int .u8 0), 1, 1))
    (v : Value) (xs : List Int) (p : Int) (ok : Nat → Prop) (hs : a.eval s = v) (hx : a.eval x = .slice (some ⟨W.heap.size, 0, none⟩) 1 1) (hfresh : ∀ k, W.heap.size ≤ k → ok k)
    (HO : M e W base ok v xs) (HB : Below base w0 W) (hbase : base ≤ W.heap.size) (hl : xs.length + 1 ≤ 140737488355328)
    (h : ∀ v1 w1, M e w1 base ok v1 (xs ++ [p]) → Below base w0 w1 → W.grownBy w1 v.ownBlock → (v1.ownBlock = v.ownBlock ∨ ∃ b, v1.ownBlock = some b ∧ W.heap.size ≤ b) → wpList P ops Q rest (a.put o.dst v1) w1) :
    wpList P ops Q (o :: rest) a (W.alloc (.cells #[.int .u8 p] e)) := by
  obtain ⟨i0, hi, hzz⟩ := Option.map_eq_some_iff.1 hinfo
  simp only [Prod.mk.injEq] at hzz
  obtain ⟨hz0, hz1, hz2⟩ := hzz
  have hsz : (W.alloc (.cells #[.int .u8 p] e)).heap.size = W.heap.size + 1 := by simp
  obtain ⟨v1, w1, hr, h2, h3, h4⟩ := run_append1 (P := P) (W.alloc (.cells #[.int .u8 p] e)) base t o.type e i0 ht hi hz0 hz1 hz2 ok v xs p (M_alloc HO _) (fun k hk => hfresh k (by omega)) (by omega) ⟨W.heap.size, 0, none⟩ (World.news_of_block (cs := #[.int .u8 p]) (t := e) (fr := (0, 0)) (heap_alloc_new W _)) hl
  refine wpList_plain hgd fun K hK => ?_
  unfold Oper.wp execOp
  simp only [ho, resolve, invoke, builtin, Sem.run_bind, Sem.run_pure, Result.andThen_ok, List.map_toArray, List.map_cons, List.map_nil, hs, hx, hr]
  refine hK _ _ (h v1 w1 h2 ((HB.alloc hbase _).grown h3 (by omega) (M_base HO)) (World.grownBy.trans (World.grownBy_alloc W _ _) h3) ?_)
  rcases h4 with h4 | h4
  · exact .inl h4
  · exact .inr ⟨_, h4, by omega⟩
end
end Go.Proofs.YtjcpapjochlndaaY
