/- A table that is read: its frames; the binary search stays within its bounds. -/
import Derived.Test.YtjgelmfkoefclaaTableLaw
import Derived.Test.YtjgelmfkoefclaaPAllx59
namespace Go.Proofs.Ytjgelmfkoefclaa.PAll
open Go.RowKit Go.Proofs.YtjgelmfkoefclaaW.PrintWords Go.Proofs.YtjgelmfkoefclaaW.PrintLast Go.Proofs.YtjgelmfkoefclaaW.PrintMore
set_option linter.unusedVariables false

theorem Tb.below {w wr wx : World} {T : Nat} {bl size : Int} {ws : List Int} {ss : List ByteArray} {nb : Nat} (h : Tb w wr T bl size ws ss nb) (hb : Below wr.heap.size wr wx) : Tb w wx T bl size ws ss nb := by
  obtain ⟨h0, vW, vS, A, c, vk, ks, h1, h2, h3, h4, h5, h6⟩ := h
  refine ⟨h0, vW, vS, A, c, vk, ks, blk_below h1 hb, Kd.R_below h2 hb, Kd.R_below h3 hb, Kd.R_below h4 hb, h5, fun hp => ?_⟩
  obtain ⟨q, e1, e2, e3⟩ := h6 hp
  exact ⟨q, e1, e2, e3.below (e3.lt hp) hb⟩
theorem Tb.mark {w wr wx : World} {T M : Nat} {bl size : Int} {ws : List Int} {ss : List ByteArray} {nb : Nat} (h : Tb w wr T bl size ws ss nb) (hg : wr.grownBy wx (some M)) (hM : M < w.heap.size) : Tb w wx T bl size ws ss nb := by
  obtain ⟨h0, vW, vS, A, c, vk, ks, h1, h2, h3, h4, h5, h6⟩ := h
  refine ⟨h0, vW, vS, A, c, vk, ks, blk_gb hg h1 (by omega),
    Kd.R_grown2 h2 rfl hg (fun k hk e => by injection hk with hk; have := Kd.R_base h2 k e.symm; omega),
    Kd.R_grown2 h3 rfl hg (fun k hk e => by injection hk with hk; have := Kd.R_base h3 k e.symm; omega),
    Kd.R_grown2 h4 rfl hg (fun k hk e => by injection hk with hk; have := Kd.R_base h4 k e.symm; omega), h5, fun hp => ?_⟩
  obtain ⟨q, e1, e2, e3⟩ := h6 hp
  exact ⟨q, e1, e2, e3.gb hg (by omega)⟩
theorem Tb.own {w wr wx : World} {T : Nat} {row : Option Nat} {bl size : Int} {ws : List Int} {ss : List ByteArray} {nb H : Nat} (h : Tb w wr T bl size ws ss nb) (hg : wr.grownBy wx row) (hr : ∀ k, row = some k → H ≤ k) (hl : ∀ k, k < wr.heap.size → k < H) : Tb w wx T bl size ws ss nb :=
  h.below ⟨hg.os, hg.tape, hg.output, hg.size, fun k hk => hg.block k hk (fun e => by have := hr k e.symm; have := hl k hk; omega)⟩
theorem toL_inj {a b : ByteArray} (h : a.toList = b.toList) : a = b := by
  rw [ByteArray.toList_eq, ByteArray.toList_eq] at h
  exact ByteArray.ext (Array.toList_inj.mp h)
theorem wmid (x y : Nat) (h : x + y ≤ 2000000) : wrap64 ((IntKind.u64.wrap (wrap64 ((x : Int) + y))) / 2) = (((x + y) / 2 : Nat) : Int) := by
  have e1 : wrap64 ((x : Int) + y) = ((x + y : Nat) : Int) := by unfold wrap64; omega
  rw [e1]
  have e2 : IntKind.u64.wrap ((x + y : Nat) : Int) = ((x + y : Nat) : Int) := by
    simp only [IntKind.wrap, IntKind.signed, IntKind.bits, Bool.false_and, Bool.false_eq_true, if_false]
    omega
  rw [e2]
  unfold wrap64; omega
theorem bs_l0 (l : List Int) (a : Int) (hl : l.length ≤ 1000000) (m : Nat) : ∀ (i j k : Nat), j - i ≤ m → i ≤ j → j ≤ l.length → m + 1 ≤ k → ∃ (p : Nat) (b : Bool), slices_BinarySearch_int_int.l0 k l a (l.length : Int) (i : Int) (j : Int) = some ((p : Int), b) ∧ p ≤ l.length := by
  induction m with
  | zero =>
    intro i j k h1 h2 h3 h4
    obtain ⟨k, rfl⟩ : ∃ k', k = k' + 1 := ⟨k - 1, by omega⟩
    obtain rfl : i = j := by omega
    unfold slices_BinarySearch_int_int.l0
    rw [if_neg (by omega)]
    by_cases h : (i : Int) < (l.length : Int)
    · rw [if_pos h, if_pos (by omega), if_pos h]
      by_cases he : rd l (i : Int) = a
      · rw [if_pos he]; exact ⟨i, true, rfl, h3⟩
      · rw [if_neg he]
        simp only [slices_isNaN_int.f, bne_self_eq_false, Option.bind_some, Bool.false_eq_true, if_false]
        exact ⟨i, false, rfl, h3⟩
    · rw [if_neg h]; exact ⟨i, false, rfl, h3⟩
  | succ m ih =>
    intro i j k h1 h2 h3 h4
    obtain ⟨k, rfl⟩ : ∃ k', k = k' + 1 := ⟨k - 1, by omega⟩
    by_cases hij : i < j
    · unfold slices_BinarySearch_int_int.l0
      rw [wmid i j (by omega), if_pos (by omega), if_pos (by omega), if_pos (by omega)]
      simp only [cmp_Less_int.f, cmp_isNaN_int.f, bne_self_eq_false, Option.bind_some, Bool.false_eq_true, if_false]
      by_cases hd : rd l (((i + j) / 2 : Nat) : Int) < a
      · rw [decide_eq_true hd, if_pos rfl, show wrap64 ((((i + j) / 2 : Nat) : Int) + 1) = (((i + j) / 2 + 1 : Nat) : Int) by unfold wrap64; omega]
        exact ih _ _ _ (by omega) (by omega) h3 (by omega)
      · rw [decide_eq_false hd, if_neg (by simp)]
        exact ih _ _ _ (by omega) (by omega) (by omega) (by omega)
    · obtain rfl : i = j := by omega
      exact ih i i (k + 1) (by omega) (Nat.le_refl _) h3 (by omega)
theorem bs_f (l : List Int) (a : Int) (hl : l.length ≤ 1000000) : ∃ (p : Nat) (b : Bool), slices_BinarySearch_int_int.f 1000001 l a = some ((p : Int), b) ∧ p ≤ l.length := by
  unfold slices_BinarySearch_int_int.f
  exact bs_l0 l a hl l.length 0 l.length 1000001 (by omega) (Nat.zero_le _) (Nat.le_refl _) (by omega)
end Go.Proofs.Ytjgelmfkoefclaa.PAll
