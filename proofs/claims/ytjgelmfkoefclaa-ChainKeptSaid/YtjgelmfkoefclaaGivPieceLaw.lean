import Derived.BigQuiet
import Derived.Outline
import Derived.Deep.DeepMust
import Derived.RegionTactic
import Derived.Test.YtjgelmfkoefclaaGivLaid
import Derived.Test.YtjgelmfkoefclaaGivSearch
import Derived.Test.YtjgelmfkoefclaaPAllx11
namespace Go.Proofs.Ytjgelmfkoefclaa.PAll
open Go.RowKit Go.Proofs.YtjgelmfkoefclaaW.PrintWords Go.Proofs.YtjgelmfkoefclaaW.PrintLast Go.Proofs.YtjgelmfkoefclaaW.PrintMore
set_option linter.unusedVariables false
set_option linter.unusedSimpArgs false
attribute [local go_sem] max2_int min2_int max_two min_two

/-- A step's length, as steps that may be have it. -/
def lenN (x : S54) : Nat := x.f1.toNat + x.f2.size
def sumN (l : List S54) : Nat := (l.map lenN).foldr (· + ·) 0
/-- A piece of a step. -/
def cutV (x : S54) (off n : Nat) : S54 := if x.f2.size = 0 then ⟨wrap64 (x.f0 + off), n, ⟨#[]⟩⟩ else ⟨0, 0, x.f2.extract off (off + n)⟩
/-- The steps that make n bytes, off bytes into the first. -/
def pieceN : List S54 → Nat → Nat → List S54
  | [], _, _ => []
  | x :: r, off, n => if n = 0 then [] else cutV x off (min n (lenN x - off)) :: pieceN r 0 (n - min n (lenN x - off))
/-- The same, from a place in the whole. -/
def pieceAt : List S54 → Nat → Nat → List S54
  | [], _, _ => []
  | x :: r, at_, n => if at_ < lenN x then pieceN (x :: r) at_ n else pieceAt r (at_ - lenN x) n
/-- Steps of which each has bytes, of one kind. -/
def StepsOk (l : List S54) : Prop := l.length ≤ 1000000 ∧ sumN l ≤ 1000000 ∧ ∀ x ∈ l, 0 < lenN x ∧ 0 ≤ x.f1 ∧ (x.f1 = 0 ∨ x.f2.size = 0)
theorem sumN_append (a b : List S54) : sumN (a ++ b) = sumN a + sumN b := by
  unfold sumN
  induction a with
  | nil => simp
  | cons x a ih => simp only [List.cons_append, List.map_cons, List.foldr_cons] at *; omega
theorem sumN_take_succ (l : List S54) (k : Nat) (h : k < l.length) : sumN (l.take (k + 1)) = sumN (l.take k) + lenN (rd_T54 l (k : Nat)) := by
  unfold rd_T54
  rw [List.take_add_one, sumN_append, Int.toNat_natCast, List.getD_eq_getElem?_getD, List.getElem?_eq_getElem h]
  simp [sumN]
theorem sumN_take_le (l : List S54) (k : Nat) : sumN (l.take k) ≤ sumN l := by
  have := sumN_append (l.take k) (l.drop k)
  rw [List.take_append_drop] at this
  omega
theorem rd68_mem (l : List S54) (k : Nat) (h : k < l.length) : rd_T54 l (k : Nat) ∈ l := by
  unfold rd_T54
  rw [Int.toNat_natCast, List.getD_eq_getElem?_getD, List.getElem?_eq_getElem h]
  exact List.getElem_mem h
theorem len_wrap (x : S54) (h1 : 0 ≤ x.f1) (h : lenN x ≤ 1000000) : wrap64 (x.f1 + (x.f2.size : Int)) = (lenN x : Nat) := by
  unfold lenN at *
  unfold wrap64
  omega
theorem sumT_eq (l : List S54) (h : StepsOk l) (k : Nat) (hk : k ≤ l.length) : sumT l k = (sumN (l.take k) : Nat) := by
  induction k with
  | zero => rfl
  | succ k ih =>
    have hx := h.2.2 _ (rd68_mem l k (by omega))
    have hs := sumN_take_le l (k + 1)
    have hs2 := h.2.1
    rw [sumN_take_succ l k (by omega)] at hs ⊢
    rw [sumT_succ l k (by omega), ih (by omega), len_wrap _ hx.2.1 (by omega)]
    unfold wrap64
    omega
theorem rd_from (l : List S54) (h : StepsOk l) (k : Nat) (hk : k < l.length) : rd (fromT l l.length) (k : Nat) = (sumN (l.take k) : Nat) := by
  rw [← sumT_eq l h k (by omega)]
  unfold rd fromT
  rw [Int.toNat_natCast, List.getD_eq_getElem?_getD, List.getElem?_map, List.getElem?_range hk]
  rfl
theorem sumN_take_mono (l : List S54) (a b : Nat) (h : a ≤ b) : sumN (l.take a) ≤ sumN (l.take b) := by
  have := sumN_take_le (l.take b) a
  rwa [List.take_take, Nat.min_eq_left h] at this

theorem pieceN_zero (l : List S54) (off : Nat) : pieceN l off 0 = [] := by cases l <;> simp [pieceN]
theorem sumN_cons (x : S54) (l : List S54) : sumN (x :: l) = lenN x + sumN l := rfl
theorem pieceAt_eq (l : List S54) (i a n : Nat) (hi : i < l.length) (h1 : sumN (l.take i) ≤ a) (h2 : a < sumN (l.take (i + 1))) : pieceAt l a n = pieceN (l.drop i) (a - sumN (l.take i)) n := by
  induction l generalizing i a with
  | nil => simp at hi
  | cons x l ih =>
    cases i with
    | zero =>
      simp only [List.take_succ_cons, List.take_zero, sumN_cons] at h2
      rw [pieceAt, if_pos (by simp [sumN] at h2; omega)]
      simp [sumN]
    | succ i =>
      simp only [List.take_succ_cons, sumN_cons] at h1 h2
      rw [pieceAt, if_neg (by omega), ih i (a - lenN x) (by simpa using hi) (by omega) (by omega), List.drop_succ_cons, List.take_succ_cons, sumN_cons]
      congr 1
      omega
theorem pieceN_step (l : List S54) (i : Nat) (h : i < l.length) (off m : Nat) (hm : 0 < m) : pieceN (l.drop i) off m = cutV (rd_T54 l (i : Nat)) off (min m (lenN (rd_T54 l (i : Nat)) - off)) :: pieceN (l.drop (i + 1)) 0 (m - min m (lenN (rd_T54 l (i : Nat)) - off)) := by
  have hd : l.drop i = rd_T54 l (i : Nat) :: l.drop (i + 1) := by
    unfold rd_T54
    rw [Int.toNat_natCast, List.getD_eq_getElem?_getD, List.getElem?_eq_getElem h]
    exact List.drop_eq_getElem_cons h
  rw [hd, pieceN, if_neg (by omega)]

end Go.Proofs.Ytjgelmfkoefclaa.PAll
