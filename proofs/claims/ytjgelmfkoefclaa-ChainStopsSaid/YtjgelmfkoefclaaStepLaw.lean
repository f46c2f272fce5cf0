/- Steps and their lengths. -/
import Derived.Test.YtjgelmfkoefclaaPAllx0
namespace Go.Proofs.Ytjgelmfkoefclaa.PAll
open Go.RowKit Go.Proofs.YtjgelmfkoefclaaW.PrintWords Go.Proofs.YtjgelmfkoefclaaW.PrintLast Go.Proofs.YtjgelmfkoefclaaW.PrintMore
set_option linter.unusedVariables false
set_option linter.unusedSimpArgs false

/-- A step's length, as steps that may be have it. -/
def lenN (x : S54) : Nat := x.f1.toNat + x.f2.size
def sumN (l : List S54) : Nat := (l.map lenN).foldr (· + ·) 0
/-- Steps of which each has bytes, of one kind. -/
def StepsOk (l : List S54) : Prop := l.length ≤ 1000000 ∧ sumN l ≤ 1000000 ∧ ∀ x ∈ l, 0 < lenN x ∧ 0 ≤ x.f1 ∧ (x.f1 = 0 ∨ x.f2.size = 0)
theorem sumN_append (a b : List S54) : sumN (a ++ b) = sumN a + sumN b := by
  unfold sumN
  induction a with
  | nil => simp
  | cons x a ih => simp only [List.cons_append, List.map_cons, List.foldr_cons] at *; omega
theorem sumN_take_succ (l : List S54) (k : Nat) (h : k < l.length) : sumN (l.take (k + 1)) = sumN (l.take k) + lenN (rd_T54 l (k : Nat)) := by
  unfold rd_T54
  rw [List.take_add_one, sumN_append, Int.toNat_natCast, List.getD_eq_getElem?_getD, List.getElem?_eq_getElem h]
  simp [sumN]
theorem sumN_take_le (l : List S54) (k : Nat) : sumN (l.take k) ≤ sumN l := by
  have := sumN_append (l.take k) (l.drop k)
  rw [List.take_append_drop] at this
  omega
theorem rd68_mem (l : List S54) (k : Nat) (h : k < l.length) : rd_T54 l (k : Nat) ∈ l := by
  unfold rd_T54
  rw [Int.toNat_natCast, List.getD_eq_getElem?_getD, List.getElem?_eq_getElem h]
  exact List.getElem_mem h
theorem len_wrap (x : S54) (h1 : 0 ≤ x.f1) (h : lenN x ≤ 1000000) : wrap64 (x.f1 + (x.f2.size : Int)) = (lenN x : Nat) := by
  unfold lenN at *
  unfold wrap64
  omega
theorem sumN_take_mono (l : List S54) (a b : Nat) (h : a ≤ b) : sumN (l.take a) ≤ sumN (l.take b) := by
  have := sumN_take_le (l.take b) a
  rwa [List.take_take, Nat.min_eq_left h] at this
theorem sumN_cons (x : S54) (l : List S54) : sumN (x :: l) = lenN x + sumN l := rfl
end Go.Proofs.Ytjgelmfkoefclaa.PAll
