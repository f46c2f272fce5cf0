/- Light texts of this session, joined by wip/tools/base.py. -/
import Derived.Test.YtjgelmfkoefclaaBase
import Derived.Test.YtjgelmfkoefclaaBasd
import Derived.Test.YtjgelmfkoefclaaPAllx44
-- from TableLaw
/- A table while it is made: its frames. -/
namespace Go.Proofs.Ytjgelmfkoefclaa.PAll
open Go.RowKit Go.Proofs.YtjgelmfkoefclaaW.PrintWords Go.Proofs.YtjgelmfkoefclaaW.PrintLast Go.Proofs.YtjgelmfkoefclaaW.PrintMore
set_option linter.unusedVariables false

theorem blk6 {w : World} {g : Nat} {t : TypeId} {c0 c1 c2 c3 c4 c5 : Value} (h : w.heap[g]? = some (.cells #[c0, c1, c2, c3, c4, c5] t (0, 0))) : w.cell? ⟨g, 0, none⟩ = some c0 ∧ w.cell? ⟨g, 1, none⟩ = some c1 ∧ w.cell? ⟨g, 2, none⟩ = some c2 ∧ w.cell? ⟨g, 3, none⟩ = some c3 ∧ w.cell? ⟨g, 4, none⟩ = some c4 ∧ w.cell? ⟨g, 5, none⟩ = some c5 :=
  ⟨(blk_cell h 0).trans rfl, (blk_cell h 1).trans rfl, (blk_cell h 2).trans rfl, (blk_cell h 3).trans rfl, (blk_cell h 4).trans rfl, (blk_cell h 5).trans rfl⟩
theorem blk6f {w : World} {g : Nat} {t : TypeId} {c0 c1 c2 c3 c4 c5 : Value} (h : w.heap[g]? = some (.cells #[c0, c1, c2, c3, c4, c5] t (0, 0))) : w.frozen? ⟨g, 4, none⟩ = false ∧ w.frozen? ⟨g, 5, none⟩ = false :=
  ⟨blk_frozen h 4, blk_frozen h 5⟩
/-- A row of numbers that grows in one of the table's cells. -/
structure Tl (W wr : World) (T : Nat) (bl size : Int) (vW vS vk vb v : Value) (xs : List Int) : Prop where
  gb : W.grownBy wr (some T)
  lt : T < W.heap.size
  t : wr.heap[T]? = some (.cells #[.int .i64 bl, .int .i64 size, vW, vS, vk, vb] 118 (0, 0))
  r : Kd.R (Kd.int .i64) 3 wr W.heap.size (fun _ => True) v xs
section
variable {W wr wx : World} {T : Nat} {bl size : Int} {vW vS vk vb v : Value} {xs : List Int}
theorem Tl.below (h : Tl W wr T bl size vW vS vk vb v xs) (hb : Below wr.heap.size wr wx) : Tl W wx T bl size vW vS vk vb v xs :=
  ⟨gb_below h.gb hb, h.lt, blk_below h.t hb, Kd.R_below h.r hb⟩
theorem Tl.put (h : Tl W wr T bl size vW vS vk vb v xs) {v1 : Value} {w1 : World} {xs1 : List Int} (hR : Kd.R (Kd.int .i64) 3 w1 W.heap.size (fun _ => True) v1 xs1) (hG : wr.grownBy w1 v.ownBlock) (j : Nat) {vk1 vb1 : Value}
    (he : (#[.int .i64 bl, .int .i64 size, vW, vS, vk, vb] : Array Value).setIfInBounds j v1 = #[.int .i64 bl, .int .i64 size, vW, vS, vk1, vb1]) :
    Tl W (w1.setCell ⟨T, j, none⟩ v1) T bl size vW vS vk1 vb1 v1 xs1 := by
  have hb : ∀ k, v.ownBlock = some k → W.heap.size ≤ k := fun k hk => Kd.R_base h.r k hk
  have hlt := h.lt
  refine ⟨gb_trans (gb_own h.gb hG (fun k hk => hb k hk)) (gb_setg _ _ _ _), h.lt, ?_, ?_⟩
  · exact blk_put (blk_grown h.t hG (fun e => by have := hb _ e.symm; omega)) j _ he
  · refine Kd.R_mono (Kd.R_far (p := ⟨T, j, none⟩) (Kd.R_mono (Kd.R_bound hR) (ok' := fun k => W.heap.size ≤ k) (fun k hk => hk.2.1)) (fun k hk => by show k ≠ T; omega) _) (fun _ _ => trivial)
end
/-- A table that is made. -/
structure Tb (w wr : World) (T : Nat) (bl size : Int) (ws : List Int) (ss : List ByteArray) (nb : Nat) : Prop where
  ge : w.heap.size ≤ T
  ex : ∃ vW vS A c vk ks, wr.heap[T]? = some (.cells #[.int .i64 bl, .int .i64 size, vW, vS, vk, .slice A nb c] 118 (0, 0)) ∧ Kd.R (Kd.int .i64) 3 wr w.heap.size (fun _ => True) vW ws ∧ Kd.R Kd.string 9 wr w.heap.size (fun _ => True) vS ss ∧ Kd.R (Kd.int .i64) 3 wr w.heap.size (fun _ => True) vk ks ∧ ks.length = nb ∧ (0 < nb → ∃ q, A = some ⟨q, 0, none⟩ ∧ w.heap.size ≤ q ∧ Ar wr q nb (fun x => 0 ≤ x ∧ x < nb))
theorem Ar.gb {w w' : World} {g n T : Nat} {P : Int → Prop} (h : Ar w g n P) (hg : w.grownBy w' (some T)) (hne : g ≠ T) : Ar w' g n P := fun i hi => by
  obtain ⟨⟨x, h1, h2⟩, h3⟩ := h i hi
  have hb := hg.block g (World.block_lt_of_cell? w ⟨g, i, none⟩ h1) (fun e => hne (by injection e))
  exact ⟨⟨x, (World.cell?_of_block (a := ⟨g, i, none⟩) hb).trans h1, h2⟩, (World.frozen?_of_block (a := ⟨g, i, none⟩) hb).trans h3⟩
theorem ar_iota {w : World} {base g n c : Nat} {ok : Nat → Prop} {xs : List Int} (h : Kd.R (Kd.int .i64) 3 w base ok (.slice (some ⟨g, 0, none⟩) n c) xs) (P : Int → Prop) (hP : ∀ i : Nat, i < n → P (rd xs i)) : Ar w g n P := fun i hi => by
  obtain ⟨h1, h2⟩ := Kd.R_celln (enc := Value.int .i64) (h1 := fun _ => rfl) (0 : Int) h (i : Int) (by omega) (by omega)
  exact ⟨⟨_, h1, hP i hi⟩, h2⟩
def iotaI (i : Nat) : List Int := (List.range i).map Int.ofNat
theorem iotaI_length (i : Nat) : (iotaI i).length = i := by simp [iotaI]
theorem iotaI_succ (i : Nat) : iotaI (i + 1) = iotaI i ++ [(i : Int)] := by unfold iotaI; rw [List.range_succ, List.map_append]; rfl
theorem iotaI_mem (i : Nat) (j : Nat) (h : j < i) : (iotaI i)[j]? = some (j : Int) := by unfold iotaI; simp [h]
theorem rightsig_loop (ws : List Int) (ss : List ByteArray) (hl : ss.length = ws.length) (hw : ∀ x ∈ ws, 0 ≤ x ∧ x ≤ 4294967295) (hs : ∀ s ∈ ss, s.size = 32) (hn : ws.length ≤ 1000000) (bl n : Int) (m : Nat) : ∀ (i k : Nat), ws.length - i = m → i ≤ ws.length → m + 1 ≤ k → sign_Right.l0 k ws (ws.length : Int) (i : Int) bl n ws ss = some true := by
  induction m with
  | zero =>
    intro i k h1 h2 h3
    obtain ⟨k, rfl⟩ : ∃ k', k = k' + 1 := ⟨k - 1, by omega⟩
    unfold sign_Right.l0
    rw [if_neg (by omega)]
  | succ m ih =>
    intro i k h1 h2 h3
    obtain ⟨k, rfl⟩ : ∃ k', k = k' + 1 := ⟨k - 1, by omega⟩
    have hi : i < ws.length := by omega
    have e1 : rd ws (i : Int) = ws[i] := by unfold rd; simp [hi]
    have e2 : rdOf ByteArray.empty ss (i : Int) = ss[i] := by unfold rdOf; simp [hl, hi]
    have b1 := hw _ (List.getElem_mem hi)
    have b2 := hs _ (List.getElem_mem (by omega : i < ss.length))
    unfold sign_Right.l0
    rw [if_pos (by omega), if_pos (by omega), if_pos (by omega), e1, if_neg (by omega), if_neg (by omega), if_pos (by omega), e2, b2, if_pos (by decide)]
    rw [show wrap64 ((i : Int) + 1) = ((i + 1 : Nat) : Int) by unfold wrap64; omega]
    exact ih (i + 1) k (by omega) (by omega) (by omega)
theorem rightsig_f (ws : List Int) (ss : List ByteArray) (bl n : Nat) (h0 : 16 ≤ bl) (h1 : bl ≤ 1024) (hn : n ≤ 524288) (hl : ws.length = nB n bl) (hls : ss.length = ws.length) (hw : ∀ x ∈ ws, 0 ≤ x ∧ x ≤ 4294967295) (hs : ∀ s ∈ ss, s.size = 32) : sign_Right.f 1000010 bl n ws ss = some true := by
  have hc := count_f n bl (by omega) (by omega) (by omega)
  have hb := nB_le n bl (by omega)
  unfold sign_Right.f
  rw [fits_yes bl (by omega) (by omega)]
  simp only [Option.bind_some, if_true]
  rw [if_neg (by omega), if_neg (by omega), hc]
  simp only [Option.bind_some]
  rw [if_pos (by rw [hl])]
  unfold sign_Right.j0
  rw [hls]
  simp only [bne_self_eq_false, Bool.false_eq_true, if_false]
  exact rightsig_loop ws ss hls hw hs (by omega) bl n (ws.length - 0) 0 1000009 rfl (Nat.zero_le _) (by omega)
theorem below_gb2 {a b c : World} {T : Nat} (h : Below a.heap.size a b) (k : b.grownBy c (some T)) (hT : a.heap.size ≤ T) : Below a.heap.size a c :=
  ⟨k.os.trans h.os, k.tape.trans h.tape, k.output.trans h.output, Nat.le_trans h.size k.size, fun g hg => (k.block g (Nat.lt_of_lt_of_le hg h.size) (fun e => by injection e with e; omega)).trans (h.block g hg)⟩
/-- The cells of a signature's row, wherever it is read from. -/
theorem row_cells {w wo wr : World} {T base q n c : Nat} {ok : Nat → Prop} {ws : List Int} (h : Kd.R (Kd.int .i64) 3 w base ok (.slice (some ⟨q, 0, none⟩) n c) ws) (h1 : Below w.heap.size w wo) (h2 : wo.grownBy wr (some T)) (hT : w.heap.size ≤ T) (hq : q < w.heap.size) : ∀ i : Nat, i < n → wr.cell? ⟨q, i, none⟩ = some (.int .i64 (rd ws i)) := fun i hi => by
  obtain ⟨e1, _⟩ := Kd.R_celln (enc := Value.int .i64) (h1 := fun _ => rfl) (0 : Int) h (i : Int) (by omega) (by omega)
  have hb1 := h1.block q hq
  have hb2 := h2.block q (Nat.lt_of_lt_of_le hq h1.size) (fun e => by injection e with e; omega)
  exact (World.cell?_of_block (a := ⟨q, i, none⟩) (hb2.trans hb1)).trans e1
end Go.Proofs.Ytjgelmfkoefclaa.PAll

-- from FindLaw
/- A table that is read: its frames; the binary search stays within its bounds. -/
namespace Go.Proofs.Ytjgelmfkoefclaa.PAll
open Go.RowKit Go.Proofs.YtjgelmfkoefclaaW.PrintWords Go.Proofs.YtjgelmfkoefclaaW.PrintLast Go.Proofs.YtjgelmfkoefclaaW.PrintMore
set_option linter.unusedVariables false

theorem Tb.below {w wr wx : World} {T : Nat} {bl size : Int} {ws : List Int} {ss : List ByteArray} {nb : Nat} (h : Tb w wr T bl size ws ss nb) (hb : Below wr.heap.size wr wx) : Tb w wx T bl size ws ss nb := by
  obtain ⟨h0, vW, vS, A, c, vk, ks, h1, h2, h3, h4, h5, h6⟩ := h
  refine ⟨h0, vW, vS, A, c, vk, ks, blk_below h1 hb, Kd.R_below h2 hb, Kd.R_below h3 hb, Kd.R_below h4 hb, h5, fun hp => ?_⟩
  obtain ⟨q, e1, e2, e3⟩ := h6 hp
  exact ⟨q, e1, e2, e3.below (e3.lt hp) hb⟩
theorem Tb.mark {w wr wx : World} {T M : Nat} {bl size : Int} {ws : List Int} {ss : List ByteArray} {nb : Nat} (h : Tb w wr T bl size ws ss nb) (hg : wr.grownBy wx (some M)) (hM : M < w.heap.size) : Tb w wx T bl size ws ss nb := by
  obtain ⟨h0, vW, vS, A, c, vk, ks, h1, h2, h3, h4, h5, h6⟩ := h
  refine ⟨h0, vW, vS, A, c, vk, ks, blk_gb hg h1 (by omega),
    Kd.R_grown2 h2 rfl hg (fun k hk e => by injection hk with hk; have := Kd.R_base h2 k e.symm; omega),
    Kd.R_grown2 h3 rfl hg (fun k hk e => by injection hk with hk; have := Kd.R_base h3 k e.symm; omega),
    Kd.R_grown2 h4 rfl hg (fun k hk e => by injection hk with hk; have := Kd.R_base h4 k e.symm; omega), h5, fun hp => ?_⟩
  obtain ⟨q, e1, e2, e3⟩ := h6 hp
  exact ⟨q, e1, e2, e3.gb hg (by omega)⟩
theorem Tb.own {w wr wx : World} {T : Nat} {row : Option Nat} {bl size : Int} {ws : List Int} {ss : List ByteArray} {nb H : Nat} (h : Tb w wr T bl size ws ss nb) (hg : wr.grownBy wx row) (hr : ∀ k, row = some k → H ≤ k) (hl : ∀ k, k < wr.heap.size → k < H) : Tb w wx T bl size ws ss nb :=
  h.below ⟨hg.os, hg.tape, hg.output, hg.size, fun k hk => hg.block k hk (fun e => by have := hr k e.symm; have := hl k hk; omega)⟩
theorem toL_inj {a b : ByteArray} (h : a.toList = b.toList) : a = b := by
  rw [ByteArray.toList_eq, ByteArray.toList_eq] at h
  exact ByteArray.ext (Array.toList_inj.mp h)
theorem wmid (x y : Nat) (h : x + y ≤ 2000000) : wrap64 ((IntKind.u64.wrap (wrap64 ((x : Int) + y))) / 2) = (((x + y) / 2 : Nat) : Int) := by
  have e1 : wrap64 ((x : Int) + y) = ((x + y : Nat) : Int) := by unfold wrap64; omega
  rw [e1]
  have e2 : IntKind.u64.wrap ((x + y : Nat) : Int) = ((x + y : Nat) : Int) := by
    simp only [IntKind.wrap, IntKind.signed, IntKind.bits, Bool.false_and, Bool.false_eq_true, if_false]
    omega
  rw [e2]
  unfold wrap64; omega
theorem bs_l0 (l : List Int) (a : Int) (hl : l.length ≤ 1000000) (m : Nat) : ∀ (i j k : Nat), j - i ≤ m → i ≤ j → j ≤ l.length → m + 1 ≤ k → ∃ (p : Nat) (b : Bool), slices_BinarySearch_int_int.l0 k l a (l.length : Int) (i : Int) (j : Int) = some ((p : Int), b) ∧ p ≤ l.length := by
  induction m with
  | zero =>
    intro i j k h1 h2 h3 h4
    obtain ⟨k, rfl⟩ : ∃ k', k = k' + 1 := ⟨k - 1, by omega⟩
    obtain rfl : i = j := by omega
    unfold slices_BinarySearch_int_int.l0
    rw [if_neg (by omega)]
    by_cases h : (i : Int) < (l.length : Int)
    · rw [if_pos h, if_pos (by omega), if_pos h]
      by_cases he : rd l (i : Int) = a
      · rw [if_pos he]; exact ⟨i, true, rfl, h3⟩
      · rw [if_neg he]
        simp only [slices_isNaN_int.f, bne_self_eq_false, Option.bind_some, Bool.false_eq_true, if_false]
        exact ⟨i, false, rfl, h3⟩
    · rw [if_neg h]; exact ⟨i, false, rfl, h3⟩
  | succ m ih =>
    intro i j k h1 h2 h3 h4
    obtain ⟨k, rfl⟩ : ∃ k', k = k' + 1 := ⟨k - 1, by omega⟩
    by_cases hij : i < j
    · unfold slices_BinarySearch_int_int.l0
      rw [wmid i j (by omega), if_pos (by omega), if_pos (by omega), if_pos (by omega)]
      simp only [cmp_Less_int.f, cmp_isNaN_int.f, bne_self_eq_false, Option.bind_some, Bool.false_eq_true, if_false]
      by_cases hd : rd l (((i + j) / 2 : Nat) : Int) < a
      · rw [decide_eq_true hd, if_pos rfl, show wrap64 ((((i + j) / 2 : Nat) : Int) + 1) = (((i + j) / 2 + 1 : Nat) : Int) by unfold wrap64; omega]
        exact ih _ _ _ (by omega) (by omega) h3 (by omega)
      · rw [decide_eq_false hd, if_neg (by simp)]
        exact ih _ _ _ (by omega) (by omega) (by omega) (by omega)
    · obtain rfl : i = j := by omega
      exact ih i i (k + 1) (by omega) (Nat.le_refl _) h3 (by omega)
theorem bs_f (l : List Int) (a : Int) (hl : l.length ≤ 1000000) : ∃ (p : Nat) (b : Bool), slices_BinarySearch_int_int.f 1000001 l a = some ((p : Int), b) ∧ p ≤ l.length := by
  unfold slices_BinarySearch_int_int.f
  exact bs_l0 l a hl l.length 0 l.length 1000001 (by omega) (Nat.zero_le _) (Nat.le_refl _) (by omega)
end Go.Proofs.Ytjgelmfkoefclaa.PAll

-- from MakerLaw
/- What gathers steps: its frames. -/
namespace Go.Proofs.Ytjgelmfkoefclaa.PAll
open Go.RowKit Go.Proofs.YtjgelmfkoefclaaW.PrintWords Go.Proofs.YtjgelmfkoefclaaW.PrintLast Go.Proofs.YtjgelmfkoefclaaW.PrintMore
set_option linter.unusedVariables false

/-- What a call of it keeps: all below base, and windows (roll.Roll) wherever they lie. -/
structure Fm (base : Nat) (w w' : World) : Prop where
  os : w'.os = w.os
  tape : w'.tape = w.tape
  output : w'.output = w.output
  size : w.heap.size ≤ w'.heap.size
  low : ∀ k : Nat, k < base → k < w.heap.size → w'.heap[k]? = w.heap[k]?
  win : ∀ (k : Nat) (cs : Array Value), w.heap[k]? = some (Obj.cells cs 121 (0, 0)) → w'.heap[k]? = some (Obj.cells cs 121 (0, 0))
theorem Fm.refl (base : Nat) (w : World) : Fm base w w := ⟨rfl, rfl, rfl, Nat.le_refl _, fun _ _ _ => rfl, fun _ _ h => h⟩
theorem Fm.trans {base : Nat} {a b c : World} (h : Fm base a b) (k : Fm base b c) : Fm base a c :=
  ⟨k.os.trans h.os, k.tape.trans h.tape, k.output.trans h.output, Nat.le_trans h.size k.size, fun i hi hs => (k.low i hi (Nat.lt_of_lt_of_le hs h.size)).trans (h.low i hi hs), fun i cs hc => k.win i cs (h.win i cs hc)⟩
theorem Fm.of {base : Nat} {a b : World} (h : Below a.heap.size a b) : Fm base a b :=
  ⟨h.os, h.tape, h.output, h.size, fun i _ hs => h.block i hs, fun i cs hc => blk_below hc h⟩
theorem Fm.row {base : Nat} {a b : World} {row : Option Nat} (h : a.grownBy b row) (h1 : ∀ k, row = some k → base ≤ k) (h2 : ∀ (k : Nat) (cs : Array Value), row = some k → a.heap[k]? ≠ some (Obj.cells cs 121 (0, 0))) : Fm base a b :=
  ⟨h.os, h.tape, h.output, h.size, fun i hi hs => h.block i hs (fun e => by have := h1 i e.symm; omega), fun i cs hc => blk_grown hc h (fun e => h2 i cs e.symm hc)⟩
/-- It holds the steps st, and the bytes tx that are in none yet. -/
structure Mk (w : World) (base m : Nat) (vs vt : Value) (st : List S54) (tx : ByteArray) : Prop where
  le : base ≤ m
  b : w.heap[m]? = some (.cells #[vs, vt] 96 (0, 0))
  r : Kd.R k54 54 w base (fun _ => True) vs st
  t : Tx w base vt tx
theorem blk2 {w : World} {g : Nat} {t : TypeId} {c0 c1 : Value} (h : w.heap[g]? = some (.cells #[c0, c1] t (0, 0))) : w.cell? ⟨g, 0, none⟩ = some c0 ∧ w.cell? ⟨g, 1, none⟩ = some c1 ∧ w.frozen? ⟨g, 0, none⟩ = false ∧ w.frozen? ⟨g, 1, none⟩ = false :=
  ⟨(blk_cell h 0).trans rfl, (blk_cell h 1).trans rfl, blk_frozen h 0, blk_frozen h 1⟩
section
variable {w w' : World} {base m : Nat} {vs vt : Value} {st : List S54} {tx : ByteArray}
theorem Mk.below (h : Mk w base m vs vt st tx) (hb : Below w.heap.size w w') : Mk w' base m vs vt st tx :=
  ⟨h.le, blk_below h.b hb, Kd.R_below h.r hb, h.t.below hb⟩
/-- The steps' row has been written. -/
theorem Mk.putS (h : Mk w base m vs vt st tx) {v1 : Value} {w1 : World} {st1 : List S54} (hR : Kd.R k54 54 w1 base (fun _ => True) v1 st1) (hG : w.grownBy w1 vs.ownBlock) :
    Mk (w1.setCell ⟨m, 0, none⟩ v1) base m v1 vt st1 tx ∧ Fm base w (w1.setCell ⟨m, 0, none⟩ v1) := by
  have hm1 : some m ≠ vs.ownBlock := Kd.R_ne h.r h.b (by decide)
  have hb1 := blk_grown h.b hG hm1
  have ht1 := h.t.grown hG (fun k hk e => h.t.ne (w := w) (g := k) (t' := 54) (Kd.R_typed h.r k e.symm).choose_spec (by decide) k hk rfl)
  have hgS : w1.grownBy (w1.setCell ⟨m, 0, none⟩ v1) (some m) := gb_setg _ _ _ _
  refine ⟨⟨h.le, blk_put hb1 0 _ rfl, ?_, ht1.grown hgS (fun k hk e => by
    injection e with e
    exact ht1.ne hb1 (by decide) k hk e)⟩, ?_⟩
  · exact Kd.R_set hR hb1 (by decide) 0 v1
  · refine (Fm.row hG (fun k hk => Kd.R_base h.r k hk) (fun k cs hk e => ?_)).trans (Fm.row hgS (fun k hk => by injection hk with hk; have := h.le; omega) (fun k cs hk e => ?_))
    · obtain ⟨cells, hc⟩ := Kd.R_typed h.r k hk
      rw [hc] at e; injection e with e; injection e with _ e; exact absurd e (by decide)
    · injection hk with hk; subst hk
      rw [hb1] at e; injection e with e; injection e with _ e; exact absurd e (by decide)
/-- The bytes' row has been written. -/
theorem Mk.putT (h : Mk w base m vs vt st tx) {v1 : Value} {w1 : World} {tx1 : ByteArray} (hR : Tx w1 base v1 tx1) (hG : w.grownBy w1 vt.ownBlock) :
    Mk (w1.setCell ⟨m, 1, none⟩ v1) base m vs v1 st tx1 ∧ Fm base w (w1.setCell ⟨m, 1, none⟩ v1) := by
  have hm1 : some m ≠ vt.ownBlock := fun e => h.t.ne h.b (by decide) m e.symm rfl
  have hb1 := blk_grown h.b hG hm1
  have hr1 : Kd.R k54 54 w1 base (fun _ => True) vs st := Kd.R_grown2 h.r rfl hG (fun k hk e => by
    exact h.t.ne (w := w) (g := k) (t' := 54) (Kd.R_typed h.r k e.symm).choose_spec (by decide) k hk rfl)
  have hgS : w1.grownBy (w1.setCell ⟨m, 1, none⟩ v1) (some m) := gb_setg _ _ _ _
  refine ⟨⟨h.le, blk_put hb1 1 _ rfl, Kd.R_set hr1 hb1 (by decide) 1 v1, hR.grown hgS (fun k hk e => by
    injection e with e
    exact hR.ne hb1 (by decide) k hk e)⟩, ?_⟩
  refine (Fm.row hG (fun k hk => (h.t.lt k hk).1) (fun k cs hk e => h.t.ne e (by decide) k hk rfl)).trans (Fm.row hgS (fun k hk => by injection hk with hk; have := h.le; omega) (fun k cs hk e => ?_))
  injection hk with hk; subst hk
  rw [hb1] at e; injection e with e; injection e with _ e; exact absurd e (by decide)
end
end Go.Proofs.Ytjgelmfkoefclaa.PAll

