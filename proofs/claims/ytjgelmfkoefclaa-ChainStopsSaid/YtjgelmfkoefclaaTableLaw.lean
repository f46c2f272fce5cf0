/- A table while it is made: its frames. -/
import Derived.Test.YtjgelmfkoefclaaSignLaw
import Derived.Test.YtjgelmfkoefclaaGivSort
import Derived.Test.YtjgelmfkoefclaaPAllx44
namespace Go.Proofs.Ytjgelmfkoefclaa.PAll
open Go.RowKit Go.Proofs.YtjgelmfkoefclaaW.PrintWords Go.Proofs.YtjgelmfkoefclaaW.PrintLast Go.Proofs.YtjgelmfkoefclaaW.PrintMore
set_option linter.unusedVariables false

theorem blk6 {w : World} {g : Nat} {t : TypeId} {c0 c1 c2 c3 c4 c5 : Value} (h : w.heap[g]? = some (.cells #[c0, c1, c2, c3, c4, c5] t (0, 0))) : w.cell? ⟨g, 0, none⟩ = some c0 ∧ w.cell? ⟨g, 1, none⟩ = some c1 ∧ w.cell? ⟨g, 2, none⟩ = some c2 ∧ w.cell? ⟨g, 3, none⟩ = some c3 ∧ w.cell? ⟨g, 4, none⟩ = some c4 ∧ w.cell? ⟨g, 5, none⟩ = some c5 :=
  ⟨(blk_cell h 0).trans rfl, (blk_cell h 1).trans rfl, (blk_cell h 2).trans rfl, (blk_cell h 3).trans rfl, (blk_cell h 4).trans rfl, (blk_cell h 5).trans rfl⟩
theorem blk6f {w : World} {g : Nat} {t : TypeId} {c0 c1 c2 c3 c4 c5 : Value} (h : w.heap[g]? = some (.cells #[c0, c1, c2, c3, c4, c5] t (0, 0))) : w.frozen? ⟨g, 4, none⟩ = false ∧ w.frozen? ⟨g, 5, none⟩ = false :=
  ⟨blk_frozen h 4, blk_frozen h 5⟩
/-- A row of numbers that grows in one of the table's cells. -/
structure Tl (W wr : World) (T : Nat) (bl size : Int) (vW vS vk vb v : Value) (xs : List Int) : Prop where
  gb : W.grownBy wr (some T)
  lt : T < W.heap.size
  t : wr.heap[T]? = some (.cells #[.int .i64 bl, .int .i64 size, vW, vS, vk, vb] 118 (0, 0))
  r : Kd.R (Kd.int .i64) 3 wr W.heap.size (fun _ => True) v xs
section
variable {W wr wx : World} {T : Nat} {bl size : Int} {vW vS vk vb v : Value} {xs : List Int}
theorem Tl.below (h : Tl W wr T bl size vW vS vk vb v xs) (hb : Below wr.heap.size wr wx) : Tl W wx T bl size vW vS vk vb v xs :=
  ⟨gb_below h.gb hb, h.lt, blk_below h.t hb, Kd.R_below h.r hb⟩
theorem Tl.put (h : Tl W wr T bl size vW vS vk vb v xs) {v1 : Value} {w1 : World} {xs1 : List Int} (hR : Kd.R (Kd.int .i64) 3 w1 W.heap.size (fun _ => True) v1 xs1) (hG : wr.grownBy w1 v.ownBlock) (j : Nat) {vk1 vb1 : Value}
    (he : (#[.int .i64 bl, .int .i64 size, vW, vS, vk, vb] : Array Value).setIfInBounds j v1 = #[.int .i64 bl, .int .i64 size, vW, vS, vk1, vb1]) :
    Tl W (w1.setCell ⟨T, j, none⟩ v1) T bl size vW vS vk1 vb1 v1 xs1 := by
  have hb : ∀ k, v.ownBlock = some k → W.heap.size ≤ k := fun k hk => Kd.R_base h.r k hk
  have hlt := h.lt
  refine ⟨gb_trans (gb_own h.gb hG (fun k hk => hb k hk)) (gb_setg _ _ _ _), h.lt, ?_, ?_⟩
  · exact blk_put (blk_grown h.t hG (fun e => by have := hb _ e.symm; omega)) j _ he
  · refine Kd.R_mono (Kd.R_far (p := ⟨T, j, none⟩) (Kd.R_mono (Kd.R_bound hR) (ok' := fun k => W.heap.size ≤ k) (fun k hk => hk.2.1)) (fun k hk => by show k ≠ T; omega) _) (fun _ _ => trivial)
end
/-- A table that is made. -/
structure Tb (w wr : World) (T : Nat) (bl size : Int) (ws : List Int) (ss : List ByteArray) (nb : Nat) : Prop where
  ge : w.heap.size ≤ T
  ex : ∃ vW vS A c vk ks, wr.heap[T]? = some (.cells #[.int .i64 bl, .int .i64 size, vW, vS, vk, .slice A nb c] 118 (0, 0)) ∧ Kd.R (Kd.int .i64) 3 wr w.heap.size (fun _ => True) vW ws ∧ Kd.R Kd.string 9 wr w.heap.size (fun _ => True) vS ss ∧ Kd.R (Kd.int .i64) 3 wr w.heap.size (fun _ => True) vk ks ∧ ks.length = nb ∧ (0 < nb → ∃ q, A = some ⟨q, 0, none⟩ ∧ w.heap.size ≤ q ∧ Ar wr q nb (fun x => 0 ≤ x ∧ x < nb))
theorem Ar.gb {w w' : World} {g n T : Nat} {P : Int → Prop} (h : Ar w g n P) (hg : w.grownBy w' (some T)) (hne : g ≠ T) : Ar w' g n P := fun i hi => by
  obtain ⟨⟨x, h1, h2⟩, h3⟩ := h i hi
  have hb := hg.block g (World.block_lt_of_cell? w ⟨g, i, none⟩ h1) (fun e => hne (by injection e))
  exact ⟨⟨x, (World.cell?_of_block (a := ⟨g, i, none⟩) hb).trans h1, h2⟩, (World.frozen?_of_block (a := ⟨g, i, none⟩) hb).trans h3⟩
theorem ar_iota {w : World} {base g n c : Nat} {ok : Nat → Prop} {xs : List Int} (h : Kd.R (Kd.int .i64) 3 w base ok (.slice (some ⟨g, 0, none⟩) n c) xs) (P : Int → Prop) (hP : ∀ i : Nat, i < n → P (rd xs i)) : Ar w g n P := fun i hi => by
  obtain ⟨h1, h2⟩ := Kd.R_celln (enc := Value.int .i64) (h1 := fun _ => rfl) (0 : Int) h (i : Int) (by omega) (by omega)
  exact ⟨⟨_, h1, hP i hi⟩, h2⟩
def iotaI (i : Nat) : List Int := (List.range i).map Int.ofNat
theorem iotaI_length (i : Nat) : (iotaI i).length = i := by simp [iotaI]
theorem iotaI_succ (i : Nat) : iotaI (i + 1) = iotaI i ++ [(i : Int)] := by unfold iotaI; rw [List.range_succ, List.map_append]; rfl
theorem iotaI_mem (i : Nat) (j : Nat) (h : j < i) : (iotaI i)[j]? = some (j : Int) := by unfold iotaI; simp [h]
theorem rightsig_loop (ws : List Int) (ss : List ByteArray) (hl : ss.length = ws.length) (hw : ∀ x ∈ ws, 0 ≤ x ∧ x ≤ 4294967295) (hs : ∀ s ∈ ss, s.size = 32) (hn : ws.length ≤ 1000000) (bl n : Int) (m : Nat) : ∀ (i k : Nat), ws.length - i = m → i ≤ ws.length → m + 1 ≤ k → sign_Right.l0 k ws (ws.length : Int) (i : Int) bl n ws ss = some true := by
  induction m with
  | zero =>
    intro i k h1 h2 h3
    obtain ⟨k, rfl⟩ : ∃ k', k = k' + 1 := ⟨k - 1, by omega⟩
    unfold sign_Right.l0
    rw [if_neg (by omega)]
  | succ m ih =>
    intro i k h1 h2 h3
    obtain ⟨k, rfl⟩ : ∃ k', k = k' + 1 := ⟨k - 1, by omega⟩
    have hi : i < ws.length := by omega
    have e1 : rd ws (i : Int) = ws[i] := by unfold rd; simp [hi]
    have e2 : rdOf ByteArray.empty ss (i : Int) = ss[i] := by unfold rdOf; simp [hl, hi]
    have b1 := hw _ (List.getElem_mem hi)
    have b2 := hs _ (List.getElem_mem (by omega : i < ss.length))
    unfold sign_Right.l0
    rw [if_pos (by omega), if_pos (by omega), if_pos (by omega), e1, if_neg (by omega), if_neg (by omega), if_pos (by omega), e2, b2, if_pos (by decide)]
    rw [show wrap64 ((i : Int) + 1) = ((i + 1 : Nat) : Int) by unfold wrap64; omega]
    exact ih (i + 1) k (by omega) (by omega) (by omega)
theorem rightsig_f (ws : List Int) (ss : List ByteArray) (bl n : Nat) (h0 : 16 ≤ bl) (h1 : bl ≤ 1024) (hn : n ≤ 524288) (hl : ws.length = nB n bl) (hls : ss.length = ws.length) (hw : ∀ x ∈ ws, 0 ≤ x ∧ x ≤ 4294967295) (hs : ∀ s ∈ ss, s.size = 32) : sign_Right.f 1000010 bl n ws ss = some true := by
  have hc := count_f n bl (by omega) (by omega) (by omega)
  have hb := nB_le n bl (by omega)
  unfold sign_Right.f
  rw [fits_yes bl (by omega) (by omega)]
  simp only [Option.bind_some, if_true]
  rw [if_neg (by omega), if_neg (by omega), hc]
  simp only [Option.bind_some]
  rw [if_pos (by rw [hl])]
  unfold sign_Right.j0
  rw [hls]
  simp only [bne_self_eq_false, Bool.false_eq_true, if_false]
  exact rightsig_loop ws ss hls hw hs (by omega) bl n (ws.length - 0) 0 1000009 rfl (Nat.zero_le _) (by omega)
theorem below_gb2 {a b c : World} {T : Nat} (h : Below a.heap.size a b) (k : b.grownBy c (some T)) (hT : a.heap.size ≤ T) : Below a.heap.size a c :=
  ⟨k.os.trans h.os, k.tape.trans h.tape, k.output.trans h.output, Nat.le_trans h.size k.size, fun g hg => (k.block g (Nat.lt_of_lt_of_le hg h.size) (fun e => by injection e with e; omega)).trans (h.block g hg)⟩
/-- The cells of a signature's row, wherever it is read from. -/
theorem row_cells {w wo wr : World} {T base q n c : Nat} {ok : Nat → Prop} {ws : List Int} (h : Kd.R (Kd.int .i64) 3 w base ok (.slice (some ⟨q, 0, none⟩) n c) ws) (h1 : Below w.heap.size w wo) (h2 : wo.grownBy wr (some T)) (hT : w.heap.size ≤ T) (hq : q < w.heap.size) : ∀ i : Nat, i < n → wr.cell? ⟨q, i, none⟩ = some (.int .i64 (rd ws i)) := fun i hi => by
  obtain ⟨e1, _⟩ := Kd.R_celln (enc := Value.int .i64) (h1 := fun _ => rfl) (0 : Int) h (i : Int) (by omega) (by omega)
  have hb1 := h1.block q hq
  have hb2 := h2.block q (Nat.lt_of_lt_of_le hq h1.size) (fun e => by injection e with e; omega)
  exact (World.cell?_of_block (a := ⟨q, i, none⟩) (hb2.trans hb1)).trans e1
end Go.Proofs.Ytjgelmfkoefclaa.PAll
