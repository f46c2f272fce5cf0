/- A text as steps of at most 4096 bytes. -/
import Derived.Test.YtjgelmfkoefclaaPAllx0
namespace Go.Proofs.Ytjgelmfkoefclaa.PAll
open Go.RowKit Go.Proofs.YtjgelmfkoefclaaW.PrintWords Go.Proofs.YtjgelmfkoefclaaW.PrintLast Go.Proofs.YtjgelmfkoefclaaW.PrintMore
set_option linter.unusedVariables false
set_option linter.unusedSimpArgs false

/-- A text as steps of at most 4096 bytes (k: at least as many as there are bytes). -/
def flushN : Nat → ByteArray → List S54
  | 0, _ => []
  | k + 1, s => if s.size = 0 then [] else ⟨0, 0, s.extract 0 (min s.size 4096)⟩ :: flushN k (s.extract (min s.size 4096) s.size)
theorem flushN_succ (k : Nat) (s : ByteArray) (h : s.size ≤ k) : flushN (k + 1) s = flushN k s := by
  induction k generalizing s with
  | zero => have h0 : s.size = 0 := by omega
            simp [flushN, h0]
  | succ k ih =>
    rw [flushN]
    conv => rhs; rw [flushN]
    split
    · rfl
    · rw [ih]
      simp [ByteArray.size_extract]; omega
theorem flushN_more (k d : Nat) (s : ByteArray) (h : s.size ≤ k) : flushN (k + d) s = flushN k s := by
  induction d with
  | zero => rfl
  | succ d ih => rw [← Nat.add_assoc, flushN_succ _ _ (by omega), ih]
theorem flushN_step (t : ByteArray) (h : t.size ≠ 0) : flushN t.size t = ⟨0, 0, t.extract 0 (min t.size 4096)⟩ :: flushN (t.extract (min t.size 4096) t.size).size (t.extract (min t.size 4096) t.size) := by
  have e : t.size = (t.extract (min t.size 4096) t.size).size + (min t.size 4096 - 1) + 1 := by simp [ByteArray.size_extract]; omega
  rw [show flushN t.size t = flushN ((t.extract (min t.size 4096) t.size).size + (min t.size 4096 - 1) + 1) t from by rw [← e], flushN, if_neg h, flushN_more _ _ _ (Nat.le_refl _)]
theorem flushN_zero (t : ByteArray) (h : t.size = 0) : flushN t.size t = [] := by rw [h, flushN]
theorem flushN_length (k : Nat) (s : ByteArray) : (flushN k s).length ≤ s.size := by
  induction k generalizing s with
  | zero => simp [flushN]
  | succ k ih =>
    rw [flushN]
    split
    · simp
    · have := ih (s.extract (min s.size 4096) s.size)
      simp only [ByteArray.size_extract] at this
      simp only [List.length_cons]
      omega
end Go.Proofs.Ytjgelmfkoefclaa.PAll
