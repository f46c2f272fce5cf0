/- A row of bytes of the call's own that need not begin at its block's head (b = b[n:]; b = append(b, ..)). -/
import Derived.Deep.AppendSrc
import Derived.Lib.SlBytesRow
import Derived.Laws.IdiomCopy
import Derived.Test.YtjgelmfkoefclaaSignLaw
namespace Go.Proofs.Ytjgelmfkoefclaa.PAll
open Go.RowKit Go.Proofs.YtjgelmfkoefclaaW.PrintWords Go.Proofs.YtjgelmfkoefclaaW.PrintLast Go.Proofs.YtjgelmfkoefclaaW.PrintMore
set_option linter.unusedVariables false
set_option linter.unusedSimpArgs false

/-- The bytes t lie in a row of the call's own (from base on), wherever in it. -/
def Tx (w : World) (base : Nat) (v : Value) (t : ByteArray) (e : TypeId := 5) : Prop :=
  (v = .slice none 0 0 ∧ t.size = 0) ∨ ∃ g o cap, v = .slice (some ⟨g, o, none⟩) t.size cap ∧ base ≤ g ∧ t.size ≤ cap ∧ g < w.heap.size ∧ Lib.Bytes w g o t ∧ (∀ j, j < cap → (w.cell? ⟨g, o + j, none⟩).isSome = true ∧ w.frozen? ⟨g, o + j, none⟩ = false) ∧ ∃ cur, w.heap[g]? = some (.cells cur e (0, 0))
theorem Tx.slice {w : World} {base : Nat} {v : Value} {t : ByteArray} (h : Tx w base v t) : ∃ A c, v = .slice A t.size c ∧ t.size ≤ c := by
  rcases h with ⟨rfl, h⟩ | ⟨g, o, cap, rfl, _, h, _⟩
  · exact ⟨none, 0, by rw [h], by omega⟩
  · exact ⟨_, cap, rfl, h⟩
theorem Tx.lt {w : World} {base : Nat} {v : Value} {t : ByteArray} (h : Tx w base v t) : ∀ k, v.ownBlock = some k → base ≤ k ∧ k < w.heap.size := by
  rcases h with ⟨rfl, h⟩ | ⟨g, o, cap, rfl, h1, _, h2, _⟩
  · intro k hk; simp [Value.ownBlock] at hk
  · intro k hk
    have : g = k := by simpa [Value.ownBlock] using hk
    subst this; exact ⟨h1, h2⟩
/-- Frames. -/
theorem Tx.grown {w w' : World} {base : Nat} {v : Value} {t : ByteArray} {row : Option Nat} (h : Tx w base v t) (hg : w.grownBy w' row) (hne : ∀ k, v.ownBlock = some k → some k ≠ row) : Tx w' base v t := by
  rcases h with h | ⟨g, o, cap, rfl, h1, h2, h3, h4, h5⟩
  · exact .inl h
  · obtain ⟨h5, cur, h6⟩ := h5
    have hb := hg.block g h3 (hne g (by simp [Value.ownBlock]))
    refine .inr ⟨g, o, cap, rfl, h1, h2, Nat.lt_of_lt_of_le h3 hg.size, fun i hi => ?_, fun j hj => ?_, cur, hb.trans h6⟩
    · exact (World.cell?_of_block (a := ⟨g, o + i, none⟩) hb).trans (h4 i hi)
    · rw [World.cell?_of_block (a := ⟨g, o + j, none⟩) hb, World.frozen?_of_block (a := ⟨g, o + j, none⟩) hb]
      exact h5 j hj
theorem Tx.below {w w' : World} {base : Nat} {v : Value} {t : ByteArray} (h : Tx w base v t) (hb : Below w.heap.size w w') : Tx w' base v t := h.grown (gb_of hb none) (fun k _ e => by cases e)
theorem setCells_heap (b : Nat) : ∀ (vs : List Value) (o : Nat) (w : World), (∀ k, k ≠ b → (w.setCells b o vs).heap[k]? = w.heap[k]?) ∧ (w.setCells b o vs).heap.size = w.heap.size ∧ (w.setCells b o vs).os = w.os ∧ (w.setCells b o vs).tape = w.tape ∧ (w.setCells b o vs).output = w.output
  | [], _, _ => ⟨fun _ _ => rfl, rfl, rfl, rfl, rfl⟩
  | v :: r, o, w => by
    obtain ⟨h1, h2, h3, h4, h5⟩ := setCells_heap b r (o + 1) (w.setCell ⟨b, o, none⟩ v)
    refine ⟨fun k hk => (h1 k hk).trans (Below.heap_setCell w ⟨b, o, none⟩ v k hk), h2.trans (by simp [World.setCell]), h3, h4, h5⟩
theorem gb_setCells (w : World) (b o : Nat) (vs : List Value) : w.grownBy (w.setCells b o vs) (some b) := by
  obtain ⟨h1, h2, h3, h4, h5⟩ := setCells_heap b vs o w
  exact ⟨h3, h4, h5, Nat.le_of_eq h2.symm, fun k _ hn => h1 k (fun e => hn (by rw [e]))⟩
theorem setCells_block (b : Nat) {e : TypeId} : ∀ (vs : List Value) (o : Nat) (w : World) (cur : Array Value), w.heap[b]? = some (.cells cur e (0, 0)) → ∃ cur', (w.setCells b o vs).heap[b]? = some (.cells cur' e (0, 0))
  | [], _, _, cur, h => ⟨cur, h⟩
  | v :: r, o, w, cur, h => setCells_block b r (o + 1) (w.setCell ⟨b, o, none⟩ v) _ (blk_put h o v rfl)
theorem Tx.ne {w : World} {base g t' : Nat} {v : Value} {t : ByteArray} {e : TypeId} {cs : Array Value} (h : Tx w base v t e) (hb : w.heap[g]? = some (.cells cs t' (0, 0))) (hne : e ≠ t') : ∀ k, v.ownBlock = some k → k ≠ g := by
  rcases h with ⟨rfl, h⟩ | ⟨g', o, cap, rfl, h1, _, h2, _, _, cur, h6⟩
  · intro k hk; simp [Value.ownBlock] at hk
  · intro k hk hkg
    have : g' = k := by simpa [Value.ownBlock] using hk
    subst this; subst hkg
    rw [hb] at h6
    injection h6 with h6; injection h6 with _ h6
    exact hne h6.symm
theorem byteCells_get (y : ByteArray) (j : Nat) (h : j < y.size) : (byteCells y)[j]? = some (.int .u8 (y[j].toNat : Int)) := by
  unfold byteCells
  have hl : j < y.data.toList.length := by rw [Array.length_toList]; exact h
  rw [List.getElem?_map, List.getElem?_eq_getElem hl]
  rfl
theorem get_app (t y : ByteArray) (i : Nat) (h : i < (t ++ y).size) : (t ++ y)[i] = if hi : i < t.size then t[i] else y[i - t.size]'(by rw [ByteArray.size_append] at h; omega) := by
  by_cases hi : i < t.size
  · rw [dif_pos hi]
    exact ByteArray.getElem_append_left hi
  · rw [dif_neg hi]
    exact ByteArray.getElem_append_right (by omega)
theorem byteCells_append (t y : ByteArray) : byteCells t ++ byteCells y = byteCells (t ++ y) := by
  unfold byteCells
  rw [ByteArray.data_append, Array.toList_append, List.map_append]
/-- The law on append. -/
theorem run_append_tx {P : Program} (w : World) (base : Nat) (t tx ty e : TypeId) (i : TypeInfo) (ht : P.underlying t = some (.slice e)) (hi : P.info? e = some i) (hz : i.zero = some (.int .u8 0)) (h1 : i.size = 1) (hb1 : i.bytes = 1)
    (v : Value) (s : ByteArray) (hv : Tx w base v s e) (x : Value) (y : ByteArray) (hs : Src P 1 tx x y.size (byteCells y) w) (hl : s.size + y.size ≤ 1099511627776) (hbase : base ≤ w.heap.size) :
    ∃ v' w', (Builtin.append_ #[t, tx] ty #[v, x]).run P w = .ok v' w' ∧ Tx w' base v' (s ++ y) e ∧ w.grownBy w' v.ownBlock ∧ (v'.ownBlock = v.ownBlock ∨ v'.ownBlock = some w.heap.size) := by
  have hs1 : Src P i.size tx x y.size (byteCells y) w := by rw [h1]; exact hs
  have hbl : ∀ (u : ByteArray), (byteCells u).length = u.size := byteCells_length
  have grown : ∀ (bs : Option Addr) (old cap : Nat), old = s.size → cap < s.size + y.size → (Builtin.firstCells i.size old (.slice bs old cap)).run P w.drew = .ok (byteCells s).toArray w.drew → ∃ v' w', (Builtin.append_ #[t, tx] ty #[.slice bs old cap, x]).run P w = .ok v' w' ∧ Tx w' base v' (s ++ y) e ∧ (∀ row, w.grownBy w' row) ∧ v'.ownBlock = some w.heap.size := by
    intro bs old cap ho hc hold
    subst ho
    have hr := run_append_grow_src (P := P) w t tx ty e i (.int .u8 0) ht hi hz bs s.size cap (byteCells s) hold x y.size (byteCells y) hs1 hc (by omega) (growslice_fits hc (by rw [hb1]; omega))
    have hge := grownCap_ge w (s.size + y.size) cap e
    have hsz : (s ++ y).size = s.size + y.size := ByteArray.size_append
    refine ⟨_, _, hr, .inr ⟨w.heap.size, 0, grownCap w (s.size + y.size) cap e, by rw [hsz], hbase, by rw [hsz]; exact hge, by simp, ?_, ?_, _, heap_alloc_new w.drew _⟩, fun row => ⟨rfl, rfl, rfl, by simp, fun k hk _ => Below.heap_alloc w.drew _ k hk⟩, rfl⟩
    · intro j hj
      rw [byteCells_append, Nat.zero_add]
      have hb : (w.drew.alloc (.cells ((byteCells (s ++ y)).toArray ++ Builtin.zeroCells (Value.int .u8 0).cells (grownCap w (s.size + y.size) cap e - (s.size + y.size))) e)).heap[w.heap.size]? = some (.cells ((byteCells (s ++ y)).toArray ++ Builtin.zeroCells (Value.int .u8 0).cells (grownCap w (s.size + y.size) cap e - (s.size + y.size))) e (0, 0)) := heap_alloc_new w.drew _
      rw [blk_cell hb j, Array.getElem?_append_left (by rw [List.size_toArray, hbl]; exact hj)]
      simp only [List.getElem?_toArray]
      exact byteCells_get _ j hj
    · intro j hj
      rw [byteCells_append, Nat.zero_add]
      have hb : (w.drew.alloc (.cells ((byteCells (s ++ y)).toArray ++ Builtin.zeroCells (Value.int .u8 0).cells (grownCap w (s.size + y.size) cap e - (s.size + y.size))) e)).heap[w.heap.size]? = some (.cells ((byteCells (s ++ y)).toArray ++ Builtin.zeroCells (Value.int .u8 0).cells (grownCap w (s.size + y.size) cap e - (s.size + y.size))) e (0, 0)) := heap_alloc_new w.drew _
      refine ⟨?_, blk_frozen hb j⟩
      rw [blk_cell hb j]
      have hlen : j < ((byteCells (s ++ y)).toArray ++ Builtin.zeroCells (Value.int .u8 0).cells (grownCap w (s.size + y.size) cap e - (s.size + y.size))).size := by
        rw [Array.size_append, List.size_toArray, hbl, size_zeroCells, hsz]
        show j < s.size + y.size + (grownCap w (s.size + y.size) cap e - (s.size + y.size)) * 1
        omega
      rw [Array.getElem?_eq_getElem hlen]
      rfl
  rcases hv with ⟨rfl, h0⟩ | ⟨g, o, cap, rfl, g1, g2, g3, g4, g5, cur, g6⟩
  · have hold : (Builtin.firstCells i.size 0 (.slice none 0 0)).run P w.drew = .ok (byteCells s).toArray w.drew := by
      have e : byteCells s = [] := List.eq_nil_of_length_eq_zero (by rw [hbl]; exact h0)
      rw [e]; exact run_firstCells_none w.drew i.size 0 0 0
    rcases Nat.eq_zero_or_pos y.size with hy | hy
    · have ey : byteCells y = [] := List.eq_nil_of_length_eq_zero (by rw [hbl]; exact hy)
      have hc0 := hs1.cells
      rw [ey, hy] at hc0
      have hl0 := hs1.len
      rw [hy] at hl0
      refine ⟨.slice none 0 0, w, ?_, .inl ⟨rfl, by rw [ByteArray.size_append]; omega⟩, gb_refl _ _, .inl rfl⟩
      rcases hs1.kind with ⟨e', hk⟩ | hk <;> simp [Builtin.append_, run_underlying ht, run_underlying hk, sizeOf, typeInfo, hi, hl0, hc0]
    · obtain ⟨v', w', hr, h2, h3, h4⟩ := grown none 0 0 h0.symm (by omega) hold
      exact ⟨v', w', hr, h2, h3 _, .inr h4⟩
  · by_cases hroom : s.size + y.size ≤ cap
    · have hc : ∀ j, j < (byteCells y).length → (w.cell? ⟨g, o + s.size * i.size + j, none⟩).isSome = true := fun j hj => by
        rw [hbl] at hj; rw [h1, Nat.mul_one, Nat.add_assoc]; exact (g5 (s.size + j) (by omega)).1
      have hf : ∀ j, j < (byteCells y).length → w.frozen? ⟨g, o + s.size * i.size + j, none⟩ = false := fun j hj => by
        rw [hbl] at hj; rw [h1, Nat.mul_one, Nat.add_assoc]; exact (g5 (s.size + j) (by omega)).2
      have hr := run_append_room_src (P := P) w t tx ty e i ht hi g o s.size cap x y.size (byteCells y) hs1 hroom hc hf
      have hsz : (s ++ y).size = s.size + y.size := ByteArray.size_append
      rw [h1, Nat.mul_one] at hr hc
      refine ⟨_, _, hr, .inr ⟨g, o, cap, by rw [hsz], g1, by omega, by rw [(setCells_heap g _ _ _).2.1]; exact g3, fun j hj => ?_, fun j hj => ?_, setCells_block g _ _ _ _ g6⟩, gb_setCells _ _ _ _, .inl rfl⟩
      · rw [get_app s y j hj]
        by_cases hjs : j < s.size
        · rw [dif_pos hjs, World.cell?_setCells_out g _ _ _ _ (fun _ _ => .inl (by show o + j < o + s.size; omega))]
          exact g4 j hjs
        · rw [dif_neg hjs]
          have h9 := World.cell?_setCells_in g (byteCells y) (o + s.size) w hc (j - s.size) (by rw [hbl]; omega)
          rw [show o + j = o + s.size + (j - s.size) by omega, h9]
          have h8 := byteCells_get y (j - s.size) (by omega)
          rw [List.getElem?_eq_getElem (by rw [hbl]; omega)] at h8
          exact h8
      · rw [World.frozen?_setCells]
        refine ⟨?_, (g5 j hj).2⟩
        by_cases hin : s.size ≤ j ∧ j < s.size + y.size
        · have h9 := World.cell?_setCells_in g (byteCells y) (o + s.size) w hc (j - s.size) (by rw [hbl]; omega)
          rw [show o + j = o + s.size + (j - s.size) by omega, h9]; rfl
        · rw [World.cell?_setCells_out g _ _ _ _ (fun _ _ => by
            rw [hbl]; show o + j < o + s.size ∨ o + s.size + y.size ≤ o + j; omega)]
          exact (g5 j hj).1
    · have hold : (Builtin.firstCells i.size s.size (.slice (some ⟨g, o, none⟩) s.size cap)).run P w.drew = .ok (byteCells s).toArray w.drew :=
        run_firstCells_some w.drew i.size s.size ⟨g, o, none⟩ s.size cap (byteCells s) (by rw [hbl, h1, Nat.mul_one]) (fun j u hj => by
          have hjl : j < s.size := by have := (List.getElem?_eq_some_iff.1 hj).1; rw [hbl] at this; exact this
          rw [byteCells_get s j hjl] at hj
          rw [Addr.add_lit, ← hj]
          exact g4 j hjl)
      obtain ⟨v', w', hr, h2, h3, h4⟩ := grown (some ⟨g, o, none⟩) s.size cap rfl (by omega) hold
      exact ⟨v', w', hr, h2, h3 _, .inr h4⟩
/-- At the operation; for the walk; at a step of a region that draws. -/
theorem wp_append_tx {P : Program} (w : World) {o : Oper} {a : Act} {K : Act → World → Prop} {Q : Exit → Act → World → Prop} (base : Nat) (sl x : Operand) (t tx e : TypeId)
    (ho : o.op = .call { callee := .builtin .append, args := #[sl, x], argTypes := #[t, tx] }) (ht : P.underlying t = some (.slice e)) (hinfo : (P.info? e).map (fun i => (i.zero, i.size, i.bytes)) = some (some (.int .u8 0), 1, 1))
    (v : Value) (s : ByteArray) (hsv : a.eval sl = v) (hv : Tx w base v s e) (xv : Value) (y : ByteArray) (hx : a.eval x = xv) (hs : Src P 1 tx xv y.size (byteCells y) w) (hl : s.size + y.size ≤ 1099511627776) (hbase : base ≤ w.heap.size)
    (h : ∀ v' w', Tx w' base v' (s ++ y) e → w.grownBy w' v.ownBlock → (v'.ownBlock = v.ownBlock ∨ v'.ownBlock = some w.heap.size) → K (a.put o.dst v') w') : o.wp P a w K Q := by
  obtain ⟨i, hi, hzz⟩ := Option.map_eq_some_iff.1 hinfo
  simp only [Prod.mk.injEq] at hzz
  obtain ⟨hz0, hz1, hz2⟩ := hzz
  obtain ⟨v', w', hr, h2, h3, h4⟩ := run_append_tx (P := P) w base t tx o.type e i ht hi hz0 hz1 hz2 v s hv xv y hs hl hbase
  unfold Oper.wp execOp
  simp only [ho, resolve, invoke, builtin, Sem.run_bind, Sem.run_pure, Result.andThen_ok, List.map_toArray, List.map_cons, List.map_nil, hsv, hx, hr]
  exact h v' w' h2 h3 h4
theorem wpList_append_tx {P : Program} (w : World) {ops : Array Oper} {rest : List Oper} {o : Oper} {a : Act} {Q : Exit → Act → World → Prop} (base : Nat) (hgd : o.guard = none) (sl x : Operand) (t tx e : TypeId)
    (ho : o.op = .call { callee := .builtin .append, args := #[sl, x], argTypes := #[t, tx] }) (ht : P.underlying t = some (.slice e)) (hinfo : (P.info? e).map (fun i => (i.zero, i.size, i.bytes)) = some (some (.int .u8 0), 1, 1))
    (v : Value) (s : ByteArray) (hsv : a.eval sl = v) (hv : Tx w base v s e) (xv : Value) (y : ByteArray) (hx : a.eval x = xv) (hs : Src P 1 tx xv y.size (byteCells y) w) (hl : s.size + y.size ≤ 1099511627776) (hbase : base ≤ w.heap.size)
    (h : ∀ v' w', Tx w' base v' (s ++ y) e → w.grownBy w' v.ownBlock → (v'.ownBlock = v.ownBlock ∨ v'.ownBlock = some w.heap.size) → wpList P ops Q rest (a.put o.dst v') w') : wpList P ops Q (o :: rest) a w :=
  wpList_plain hgd fun _ hK => wp_append_tx w base sl x t tx e ho ht hinfo v s hsv hv xv y hx hs hl hbase fun v' w' h2 h3 h4 => hK _ _ (h v' w' h2 h3 h4)
theorem step_append_tx {P : Program} (w : World) {ops : Array Oper} {o : Oper} {a : Act} {K : Act → World → Prop} {Q : Exit → Act → World → Prop} {E : Prop} (base : Nat) (hw : Region.wanted o (yielded ops a.tmps) = true) (sl x : Operand) (t tx e : TypeId)
    (ho : o.op = .call { callee := .builtin .append, args := #[sl, x], argTypes := #[t, tx] }) (ht : P.underlying t = some (.slice e)) (hinfo : (P.info? e).map (fun i => (i.zero, i.size, i.bytes)) = some (some (.int .u8 0), 1, 1))
    (v : Value) (s : ByteArray) (hsv : a.eval sl = v) (hv : Tx w base v s e) (xv : Value) (y : ByteArray) (hx : a.eval x = xv) (hs : Src P 1 tx xv y.size (byteCells y) w) (hl : s.size + y.size ≤ 1099511627776) (hbase : base ≤ w.heap.size)
    (h : ∀ v' w', Tx w' base v' (s ++ y) e → w.grownBy w' v.ownBlock → (v'.ownBlock = v.ownBlock ∨ v'.ownBlock = some w.heap.size) → K (a.put o.dst v') w') :
    if Region.wanted o (yielded ops a.tmps) = true then Oper.wp P o a w K Q else E := by
  rw [if_pos hw]
  exact wp_append_tx w base sl x t tx e ho ht hinfo v s hsv hv xv y hx hs hl hbase h
/-- One byte, laid by the statement itself. -/
def b1 (c : UInt8) : ByteArray := ⟨#[c]⟩
theorem src_byte {P : Program} (W : World) {t e : TypeId} (ht : P.underlying t = some (.slice e)) (c : UInt8) : Src P 1 t (.slice (some ⟨W.heap.size, 0, none⟩) 1 1) (b1 c).size (byteCells (b1 c)) (W.alloc (.cells #[.int .u8 (c.toNat : Int)] e (0, 0))) := by
  refine Src.ofSlice _ ht ⟨W.heap.size, 0, none⟩ 1 1 (byteCells (b1 c)) rfl (fun j u hj => ?_) (fun u hu => ?_)
  · match j, hj with
    | 0, hj =>
      have : u = .int .u8 (c.toNat : Int) := (Option.some.inj hj).symm
      subst this
      rw [Addr.add_lit]
      exact (blk_cell (blk_new W _) 0).trans rfl
    | n + 1, hj => cases hj
  · have : u = .int .u8 (c.toNat : Int) := List.mem_singleton.mp hu
    subst this; rfl
/-- The row's beginning is dropped. -/
theorem Tx.drop {w : World} {base : Nat} {t : ByteArray} {A : Option Addr} {c m : Nat} (h : Tx w base (.slice A t.size c) t) (hm : m ≤ t.size) : Tx w base (.slice (if c = m then A else A.map (·.add m)) (t.size - m) (c - m)) (t.extract m t.size) := by
  have hsz : (t.extract m t.size).size = t.size - m := by rw [ByteArray.size_extract]; omega
  rcases h with ⟨h1, h2⟩ | ⟨g, o, cap, h1, g1, g2, g3, g4, g5, cur, g6⟩
  · injection h1 with h1 h1b h1c
    subst h1 h1c
    left
    have : m = 0 := by omega
    subst this
    exact ⟨by simp [h2], by omega⟩
  · injection h1 with h1 h1b h1c
    subst h1 h1c
    right
    by_cases hc : c = m
    · rw [if_pos hc]
      refine ⟨g, o, c - m, by rw [hsz], g1, by omega, g3, fun i hi => ?_, fun j hj => ?_, cur, g6⟩
      · omega
      · omega
    · rw [if_neg hc]
      refine ⟨g, o + m, c - m, by rw [hsz]; simp [Addr.add], g1, by omega, g3, fun i hi => ?_, fun j hj => ?_, cur, g6⟩
      · rw [Nat.add_assoc, g4 (m + i) (by omega)]
        rw [ByteArray.getElem_extract]
      · rw [Nat.add_assoc]; exact g5 (m + j) (by omega)
theorem Tx.pos {w : World} {base : Nat} {t : ByteArray} {A : Option Addr} {n c : Nat} (h : Tx w base (.slice A n c) t) (hp : 0 < t.size) : ∃ g o, A = some ⟨g, o, none⟩ ∧ Lib.Bytes w g o t := by
  rcases h with ⟨_, h2⟩ | ⟨g, o, cap, h1, g1, g2, g3, g4, g5⟩
  · omega
  · injection h1 with h1
    exact ⟨g, o, h1, g4⟩
theorem bytes_gb {w w' : World} {row : Option Nat} {g o : Nat} {t : ByteArray} (h : Lib.Bytes w g o t) (hg : w.grownBy w' row) (hne : some g ≠ row) : Lib.Bytes w' g o t := fun i hi =>
  (World.cell?_of_block (a := ⟨g, o + i, none⟩) (hg.block g (World.block_lt_of_cell? w ⟨g, o + i, none⟩ (h i hi)) hne)).trans (h i hi)
end Go.Proofs.Ytjgelmfkoefclaa.PAll
