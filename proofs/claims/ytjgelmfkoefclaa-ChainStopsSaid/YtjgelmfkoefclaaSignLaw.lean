/- Blocks of a text, their number and their weak sums. -/
import Derived.Test.YtjgelmfkoefclaaMarkLaw
import Derived.Test.YtjgelmfkoefclaaPAllx42
import Derived.Test.YtjgelmfkoefclaaPAllx41
import Derived.Test.YtjgelmfkoefclaaPAllx40
import Derived.Test.YtjgelmfkoefclaaPAllx39
namespace Go.Proofs.Ytjgelmfkoefclaa.PAll
open Go.RowKit Go.Proofs.YtjgelmfkoefclaaW.PrintWords Go.Proofs.YtjgelmfkoefclaaW.PrintLast Go.Proofs.YtjgelmfkoefclaaW.PrintMore
set_option linter.unusedVariables false
set_option linter.unusedSimpArgs false

theorem wN (m : Nat) (h : m ≤ 1000000000000000) : wrap64 (m : Int) = (m : Int) := by unfold wrap64; omega
theorem wA (a b : Nat) (h : a + b ≤ 1000000000000000) : wrap64 ((a : Int) + (b : Int)) = ((a + b : Nat) : Int) := by unfold wrap64; omega
theorem wM (a b : Nat) (h : a * b ≤ 1000000000000000) : wrap64 ((a : Int) * (b : Int)) = ((a * b : Nat) : Int) := by rw [← Int.natCast_mul]; exact wN _ h
theorem roll_l0 (s : ByteArray) (hs : s.size ≤ 524288) (d : Nat) : ∀ (k i a b : Nat), s.size - i = d → i ≤ s.size → a ≤ 255 * i → b ≤ 133693440 * i → d < k →
    ∃ r : Int, roll_Sum.l0 k s (a : Nat) (b : Nat) (s.size : Int) (i : Nat) = some r ∧ 0 ≤ r ∧ r ≤ 4294967295 := by
  induction d with
  | zero =>
    intro k i a b hd hi ha hb hk
    obtain ⟨k, rfl⟩ : ∃ m, k = m + 1 := ⟨k - 1, by omega⟩
    rw [roll_Sum.l0, if_neg (by omega)]
    refine ⟨_, rfl, ?_⟩
    have e1 : Int.tmod (a : Int) 65536 = ((a % 65536 : Nat) : Int) := rfl
    have e2 : Int.tmod (b : Int) 65536 = ((b % 65536 : Nat) : Int) := rfl
    rw [e1, e2, show (65536 : Int) = ((65536 : Nat) : Int) from rfl, wM (b % 65536) 65536 (by omega), wA (a % 65536) (b % 65536 * 65536) (by omega)]
    omega
  | succ d ih =>
    intro k i a b hd hi ha hb hk
    obtain ⟨k, rfl⟩ : ∃ m, k = m + 1 := ⟨k - 1, by omega⟩
    rw [roll_Sum.l0, if_pos (by omega), if_pos (by omega), if_pos (by omega)]
    obtain ⟨h0, h1⟩ := bt_range s (i : Nat)
    obtain ⟨c, hc⟩ := Int.eq_ofNat_of_zero_le h0
    rw [hc] at h1 ⊢
    rw [wN c (by omega), wA a c (by omega), wA b (a + c) (by omega), show wrap64 ((i : Int) + 1) = ((i + 1 : Nat) : Int) from wA i 1 (by omega)]
    exact ih k (i + 1) (a + c) (b + (a + c)) (by omega) (by omega) (by omega) (by omega) (by omega)
theorem roll_f (s : ByteArray) (hs : s.size ≤ 524288) (k : Nat) (hk : s.size < k) : ∃ r : Int, roll_Sum.f k s = some r ∧ 0 ≤ r ∧ r ≤ 4294967295 := by
  unfold roll_Sum.f
  exact roll_l0 s hs s.size k 0 0 0 (by omega) (by omega) (by omega) (by omega) hk
def nB (size bl : Nat) : Nat := (size + bl - 1) / bl
def blockV (s : ByteArray) (bl i : Nat) : ByteArray := s.extract (i * bl) (min ((i + 1) * bl) s.size)
def blocksV (s : ByteArray) (bl : Nat) : List ByteArray := (List.range (nB s.size bl)).map (blockV s bl)
theorem nB_lt {size bl i : Nat} (hb : 0 < bl) (h : i < nB size bl) : i * bl < size := by
  unfold nB at h
  have h1 := Nat.div_mul_le_self (size + bl - 1) bl
  have h2 : (i + 1) * bl ≤ (size + bl - 1) / bl * bl := Nat.mul_le_mul_right _ h
  rw [Nat.succ_mul] at h2
  omega
theorem nB_le (size bl : Nat) (hb : 0 < bl) : nB size bl ≤ size := by
  unfold nB
  rcases Nat.eq_zero_or_pos size with h | h
  · subst h
    rw [Nat.div_eq_of_lt (by omega)]; exact Nat.le_refl _
  · have : (size + bl - 1) / bl < size + 1 := by
      rw [Nat.div_lt_iff_lt_mul hb, Nat.succ_mul]
      have : size ≤ size * bl := Nat.le_mul_of_pos_right _ hb
      omega
    omega
theorem count_f (size bl : Nat) (h0 : 0 < bl) (h1 : size ≤ 1000000) (h2 : bl ≤ 1000000) : sign_count.f (size : Nat) (bl : Nat) = some ((nB size bl : Nat) : Int) := by
  unfold sign_count.f
  rw [if_neg (by omega)]
  have w2 : wrap64 (((size + bl : Nat) : Int) - 1) = ((size + bl - 1 : Nat) : Int) := by rw [show ((size + bl : Nat) : Int) - 1 = ((size + bl - 1 : Nat) : Int) by omega]; exact wN _ (by omega)
  rw [wA size bl (by omega), w2]
  clear w2
  have e : Int.tdiv ((size + bl - 1 : Nat) : Int) (bl : Int) = ((nB size bl : Nat) : Int) := rfl
  rw [e]
  have := nB_le size bl h0
  rw [wN _ (by omega)]
theorem piece_f (s : ByteArray) (bl i : Nat) (hs : s.size ≤ 1000000) (hb : bl ≤ 1000000) (hi : i * bl ≤ s.size) (hi2 : i ≤ 1000000) : sign_piece.f s (i : Nat) (bl : Nat) = some (blockV s bl i) := by
  unfold sign_piece.f blockV
  have hm : (i + 1) * bl ≤ 2000000 := by rw [Nat.succ_mul]; omega
  have hm2 : mn ((((i + 1) * bl : Nat)) : Int) (s.size : Int) = ((min ((i + 1) * bl) s.size : Nat) : Int) := by unfold mn; split <;> omega
  have hle : i * bl ≤ (i + 1) * bl := Nat.mul_le_mul_right _ (Nat.le_succ _)
  rw [wM i bl (by omega), show wrap64 ((i : Int) + 1) = ((i + 1 : Nat) : Int) from wA i 1 (by omega), wM (i + 1) bl (by omega), hm2, if_pos (by omega), if_pos (by omega), if_pos (by omega), Int.toNat_natCast, Int.toNat_natCast]
theorem fits_yes (bl : Int) (h0 : 16 ≤ bl) (h1 : bl ≤ 1024) : sign_fits.f bl = some true := by
  unfold sign_fits.f
  rw [if_pos h0, decide_eq_true h1]
theorem fits_no (bl : Int) (h : bl < 16 ∨ 1024 < bl) : sign_fits.f bl = some false := by
  unfold sign_fits.f
  by_cases h0 : bl ≥ 16
  · rw [if_pos h0, decide_eq_false (by omega)]
  · rw [if_neg h0]
theorem blockV_size (s : ByteArray) (bl i : Nat) : (blockV s bl i).size ≤ bl := by
  unfold blockV
  rw [ByteArray.size_extract, Nat.succ_mul]
  omega
theorem blockV_size2 (s : ByteArray) (bl i : Nat) : (blockV s bl i).size ≤ s.size := by
  unfold blockV
  rw [ByteArray.size_extract]
  omega

/-! ### the state of the signing loop -/
structure Sg (w wr : World) (b M : Nat) (l' : List ByteArray) (bl n : Int) (vW vS : Value) (ws : List Int) (ss : List ByteArray) : Prop where
  gb : w.grownBy wr (some M)
  bk : Bk wr b M l'
  bo : b < w.heap.size ∧ M < w.heap.size
  z : wr.heap[w.heap.size]? = some (.cells #[.int .i64 0, .int .i64 0, .slice none 0 0, .slice none 0 0] 71 (0, 0))
  g : wr.heap[w.heap.size + 1]? = some (.cells #[.int .i64 bl, .int .i64 n, vW, vS] 71 (0, 0))
  rw_ : Kd.R (Kd.int .i64) 3 wr (w.heap.size + 2) (fun _ => True) vW ws
  rs : Kd.R Kd.string 9 wr (w.heap.size + 2) (fun _ => True) vS ss
section
variable {w wr wx : World} {b M : Nat} {l' l2 : List ByteArray} {bl n : Int} {vW vS : Value} {ws : List Int} {ss : List ByteArray}
theorem Sg.below (h : Sg w wr b M l' bl n vW vS ws ss) (hb : Below wr.heap.size wr wx) : Sg w wx b M l' bl n vW vS ws ss :=
  ⟨gb_below h.gb hb, h.bk.below hb, h.bo, blk_below h.z hb, blk_below h.g hb, Kd.R_below h.rw_ hb, Kd.R_below h.rs hb⟩
theorem Sg.mark (h : Sg w wr b M l' bl n vW vS ws ss) (hg : wr.grownBy wx (some M)) (hk : Bk wx b M l2) : Sg w wx b M l2 bl n vW vS ws ss :=
  ⟨gb_trans h.gb hg, hk, h.bo, blk_gb hg h.z (by have := h.bo; omega), blk_gb hg h.g (by have := h.bo; omega),
    Kd.R_grown2 h.rw_ rfl hg (fun k hk e => by injection hk with hk; have := Kd.R_base h.rw_ k e.symm; have := h.bo; omega),
    Kd.R_grown2 h.rs rfl hg (fun k hk e => by injection hk with hk; have := Kd.R_base h.rs k e.symm; have := h.bo; omega)⟩
theorem Sg.putW (h : Sg w wr b M l' bl n vW vS ws ss) {v1 : Value} {w1 : World} {ws1 : List Int} (hR : Kd.R (Kd.int .i64) 3 w1 (w.heap.size + 2) (fun _ => True) v1 ws1) (hG : wr.grownBy w1 vW.ownBlock) (hO : v1.ownBlock = vW.ownBlock ∨ ∃ g, v1.ownBlock = some g ∧ wr.heap.size ≤ g) :
    Sg w (w1.setCell ⟨w.heap.size + 1, 2, none⟩ v1) b M l' bl n v1 vS ws1 ss := by
  have hb : ∀ k, vW.ownBlock = some k → w.heap.size + 2 ≤ k := fun k hk => Kd.R_base h.rw_ k hk
  have hsz : w.heap.size + 1 < wr.heap.size := blk_lt h.g
  refine ⟨gb_set (gb_own h.gb hG (fun k hk => by have := hb k hk; omega)) (by show w.heap.size ≤ w.heap.size + 1; omega) _, ?_, h.bo, ?_, ?_, ?_, ?_⟩
  · refine (h.bk.grown hG (fun e => by have := hb b e.symm; have := h.bo; omega) (fun e => by have := hb M e.symm; have := h.bo; omega)).set (by show b ≠ w.heap.size + 1; have := h.bo; omega) (by show M ≠ w.heap.size + 1; have := h.bo; omega) _
  · exact blk_far (blk_grown h.z hG (fun e => by have := hb _ e.symm; omega)) (by show w.heap.size ≠ w.heap.size + 1; omega) _
  · exact blk_put (blk_grown h.g hG (fun e => by have := hb _ e.symm; omega)) 2 _ rfl
  · refine Kd.R_mono (Kd.R_far (p := ⟨w.heap.size + 1, 2, none⟩) (Kd.R_mono (Kd.R_bound hR) (ok' := fun k => w.heap.size + 2 ≤ k) (fun k hk => hk.2.1)) (fun k hk => by show k ≠ w.heap.size + 1; omega) _) (fun _ _ => trivial)
  · refine Kd.R_mono (Kd.R_far (p := ⟨w.heap.size + 1, 2, none⟩) (Kd.R_mono (Kd.R_bound (Kd.R_grown2 h.rs rfl hG (fun k hk => R_apart h.rw_ h.rs (by decide) k hk))) (ok' := fun k => w.heap.size + 2 ≤ k) (fun k hk => hk.2.1)) (fun k hk => by show k ≠ w.heap.size + 1; omega) _) (fun _ _ => trivial)
theorem Sg.putS (h : Sg w wr b M l' bl n vW vS ws ss) {v1 : Value} {w1 : World} {ss1 : List ByteArray} (hR : Kd.R Kd.string 9 w1 (w.heap.size + 2) (fun _ => True) v1 ss1) (hG : wr.grownBy w1 vS.ownBlock) (hO : v1.ownBlock = vS.ownBlock ∨ ∃ g, v1.ownBlock = some g ∧ wr.heap.size ≤ g) :
    Sg w (w1.setCell ⟨w.heap.size + 1, 3, none⟩ v1) b M l' bl n vW v1 ws ss1 := by
  have hb : ∀ k, vS.ownBlock = some k → w.heap.size + 2 ≤ k := fun k hk => Kd.R_base h.rs k hk
  have hsz : w.heap.size + 1 < wr.heap.size := blk_lt h.g
  refine ⟨gb_set (gb_own h.gb hG (fun k hk => by have := hb k hk; omega)) (by show w.heap.size ≤ w.heap.size + 1; omega) _, ?_, h.bo, ?_, ?_, ?_, ?_⟩
  · refine (h.bk.grown hG (fun e => by have := hb b e.symm; have := h.bo; omega) (fun e => by have := hb M e.symm; have := h.bo; omega)).set (by show b ≠ w.heap.size + 1; have := h.bo; omega) (by show M ≠ w.heap.size + 1; have := h.bo; omega) _
  · exact blk_far (blk_grown h.z hG (fun e => by have := hb _ e.symm; omega)) (by show w.heap.size ≠ w.heap.size + 1; omega) _
  · exact blk_put (blk_grown h.g hG (fun e => by have := hb _ e.symm; omega)) 3 _ rfl
  · refine Kd.R_mono (Kd.R_far (p := ⟨w.heap.size + 1, 3, none⟩) (Kd.R_mono (Kd.R_bound (Kd.R_grown2 h.rw_ rfl hG (fun k hk => R_apart h.rs h.rw_ (by decide) k hk))) (ok' := fun k => w.heap.size + 2 ≤ k) (fun k hk => hk.2.1)) (fun k hk => by show k ≠ w.heap.size + 1; omega) _) (fun _ _ => trivial)
  · refine Kd.R_mono (Kd.R_far (p := ⟨w.heap.size + 1, 3, none⟩) (Kd.R_mono (Kd.R_bound hR) (ok' := fun k => w.heap.size + 2 ≤ k) (fun k hk => hk.2.1)) (fun k hk => by show k ≠ w.heap.size + 1; omega) _) (fun _ _ => trivial)
/-- What a signature leaves. -/
structure Sd (w wr : World) (b M : Nat) (l' : List ByteArray) (vW vS : Value) (ws : List Int) (ss : List ByteArray) : Prop where
  gb : w.grownBy wr (some M)
  bk : Bk wr b M l'
  bo : b < w.heap.size ∧ M < w.heap.size
  rw_ : Kd.R (Kd.int .i64) 3 wr (w.heap.size + 2) (fun _ => True) vW ws
  rs : Kd.R Kd.string 9 wr (w.heap.size + 2) (fun _ => True) vS ss
theorem Sg.done (h : Sg w wr b M l' bl n vW vS ws ss) : Sd w wr b M l' vW vS ws ss := ⟨h.gb, h.bk, h.bo, h.rw_, h.rs⟩
theorem Sd.set (h : Sd w wr b M l' vW vS ws ss) (j : Nat) (u : Value) : Sd w (wr.setCell ⟨w.heap.size, j, none⟩ u) b M l' vW vS ws ss :=
  ⟨gb_set h.gb (Nat.le_refl _) u, h.bk.set (by show b ≠ w.heap.size; have := h.bo; omega) (by show M ≠ w.heap.size; have := h.bo; omega) u, h.bo,
    Kd.R_mono (Kd.R_far (p := ⟨w.heap.size, j, none⟩) (Kd.R_mono (Kd.R_bound h.rw_) (ok' := fun k => w.heap.size + 2 ≤ k) (fun k hk => hk.2.1)) (fun k hk => by show k ≠ w.heap.size; omega) u) (fun _ _ => trivial),
    Kd.R_mono (Kd.R_far (p := ⟨w.heap.size, j, none⟩) (Kd.R_mono (Kd.R_bound h.rs) (ok' := fun k => w.heap.size + 2 ≤ k) (fun k hk => hk.2.1)) (fun k hk => by show k ≠ w.heap.size; omega) u) (fun _ _ => trivial)⟩
end
end Go.Proofs.Ytjgelmfkoefclaa.PAll
