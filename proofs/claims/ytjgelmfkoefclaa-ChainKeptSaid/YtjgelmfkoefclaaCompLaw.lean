/- What two deltas, one behind the other, come to: steps out of steps. -/
import Derived.Test.YtjgelmfkoefclaaRightLaw
import Derived.Test.YtjgelmfkoefclaaTidyLaw
namespace Go.Proofs.Ytjgelmfkoefclaa.Pure
open Go.RowKit Go.Proofs.YtjgelmfkoefclaaW.PrintWords Go.Proofs.YtjgelmfkoefclaaW.PrintLast Go.Proofs.YtjgelmfkoefclaaW.PrintMore Go.Proofs.Ytjgelmfkoefclaa.PAll
set_option linter.unusedVariables false
set_option linter.unusedSimpArgs false

def compF (l0 : List S54) (size : Int) : List S54 → List S54 → Option (List S54)
  | [], out => some out
  | x :: r, out => if x.f2.size ≠ 0 then compF l0 size r (out ++ [x]) else if x.f0 + x.f1 > size then none else compF l0 size r (out ++ pieceAt l0 x.f0.toNat x.f1.toNat)

theorem lenN_cutV (x : S54) (off k : Nat) (h : x.f1 = 0 ∨ x.f2.size = 0) (h1 : 0 ≤ x.f1) (hk : off + k ≤ lenN x) : lenN (cutV x off k) = k := by
  unfold cutV lenN at *
  split
  · rename_i h0
    show ((k : Int)).toNat + (⟨#[]⟩ : ByteArray).size = k
    rw [Int.toNat_natCast]; rfl
  · rename_i h0
    show (0 : Int).toNat + (x.f2.extract off (off + k)).size = k
    rw [ByteArray.size_extract]
    omega
def GoodSteps (l : List S54) : Prop := ∀ x ∈ l, 0 < lenN x ∧ 0 ≤ x.f1 ∧ (x.f1 = 0 ∨ x.f2.size = 0)
theorem pieceN_sum (l : List S54) (hl : GoodSteps l) (off n : Nat) (h : off + n ≤ sumN l) (ho : 0 < n → ∀ x r, l = x :: r → off < lenN x) :
    sumN (pieceN l off n) = n ∧ ∀ y ∈ pieceN l off n, 0 < lenN y := by
  induction l generalizing off n with
  | nil =>
    have : n = 0 := by simp [sumN] at h; omega
    subst this
    exact ⟨rfl, fun y hy => by cases hy⟩
  | cons x r ih =>
    rw [sumN_cons] at h
    rw [pieceN]
    split
    · rename_i h0; subst h0; exact ⟨rfl, fun y hy => by cases hy⟩
    · rename_i h0
      have hx := hl x (List.mem_cons_self ..)
      have hox := ho (by omega) x r rfl
      have hc := lenN_cutV x off (min n (lenN x - off)) hx.2.2 hx.2.1 (by omega)
      obtain ⟨i1, i2⟩ := ih (fun y hy => hl y (List.mem_cons_of_mem _ hy)) 0 (n - min n (lenN x - off)) (by omega) (fun hp y r' e => by have := hl y (by rw [e]; exact List.mem_cons_of_mem _ (List.mem_cons_self ..)); omega)
      refine ⟨by rw [sumN_cons, hc, i1]; omega, fun y hy => ?_⟩
      rcases List.mem_cons.mp hy with rfl | hy
      · rw [hc]; omega
      · exact i2 y hy
theorem pieceAt_sum (l : List S54) (hl : GoodSteps l) (a n : Nat) (h : a + n ≤ sumN l) : sumN (pieceAt l a n) = n ∧ ∀ y ∈ pieceAt l a n, 0 < lenN y := by
  induction l generalizing a with
  | nil =>
    have : n = 0 := by simp [sumN] at h; omega
    subst this
    exact ⟨rfl, fun y hy => by cases hy⟩
  | cons x r ih =>
    rw [pieceAt]
    split
    · rename_i hlt
      exact pieceN_sum (x :: r) hl a n h (fun _ y r' e => by injection e with e1 e2; rw [← e1]; exact hlt)
    · rename_i hlt
      rw [sumN_cons] at h
      exact ih (fun y hy => hl y (List.mem_cons_of_mem _ hy)) (a - lenN x) (by omega)
theorem len_le_sum (l : List S54) (h : ∀ y ∈ l, 0 < lenN y) : l.length ≤ sumN l := by
  induction l with
  | nil => simp [sumN]
  | cons x l ih =>
    have := ih (fun y hy => h y (List.mem_cons_of_mem _ hy))
    have hx := h x (List.mem_cons_self ..)
    rw [sumN_cons, List.length_cons]
    omega
theorem text_le_sum (l : List S54) : textSum l ≤ sumN l := by
  induction l with
  | nil => simp [sumN, textSum]
  | cons x l ih =>
    rw [sumN_cons]
    unfold textSum at *
    simp only [List.map_cons, List.foldr_cons]
    unfold lenN
    omega
theorem compF_step_text (l0 : List S54) (size : Int) (l1 : List S54) (i : Nat) (hi : i < l1.length) (out : List S54) (h : (rd_T54 l1 (i : Nat)).f2.size ≠ 0) :
    compF l0 size (l1.drop i) out = compF l0 size (l1.drop (i + 1)) (out ++ [rd_T54 l1 (i : Nat)]) := by
  rw [rdS_nat l1 i hi] at h ⊢
  rw [List.drop_eq_getElem_cons hi, compF, if_pos h]
theorem compF_step_none (l0 : List S54) (size : Int) (l1 : List S54) (i : Nat) (hi : i < l1.length) (out : List S54) (h : (rd_T54 l1 (i : Nat)).f2.size = 0) (h2 : (rd_T54 l1 (i : Nat)).f0 + (rd_T54 l1 (i : Nat)).f1 > size) :
    compF l0 size (l1.drop i) out = none := by
  rw [rdS_nat l1 i hi] at h h2
  rw [List.drop_eq_getElem_cons hi, compF, if_neg (by omega), if_pos h2]
theorem compF_step_copy (l0 : List S54) (size : Int) (l1 : List S54) (i : Nat) (hi : i < l1.length) (out : List S54) (h : (rd_T54 l1 (i : Nat)).f2.size = 0) (h2 : ¬ (rd_T54 l1 (i : Nat)).f0 + (rd_T54 l1 (i : Nat)).f1 > size) :
    compF l0 size (l1.drop i) out = compF l0 size (l1.drop (i + 1)) (out ++ pieceAt l0 (rd_T54 l1 (i : Nat)).f0.toNat (rd_T54 l1 (i : Nat)).f1.toNat) := by
  rw [rdS_nat l1 i hi] at h h2 ⊢
  rw [List.drop_eq_getElem_cons hi, compF, if_neg (by omega), if_neg h2]
theorem sumN_pos (l : List S54) (y : S54) : sumN (l ++ [y]) = sumN l + lenN y := by rw [sumN_append]; simp [sumN]
/-- What is gathered so far. -/
structure Gath (l1 : List S54) (i : Nat) (out : List S54) : Prop where
  s : sumN out = sumN (l1.take i)
  p : ∀ y ∈ out, 0 < lenN y
theorem Gath.nil (l1 : List S54) : Gath l1 0 [] := ⟨by simp [sumN], fun y hy => by cases hy⟩
theorem Gath.bound {l1 : List S54} {i : Nat} {out : List S54} (h : Gath l1 i out) : out.length ≤ sumN l1 ∧ textSum out ≤ sumN l1 := by
  have a := len_le_sum out h.p
  have b := text_le_sum out
  have c := sumN_take_le l1 i
  have d := h.s
  omega
theorem Gath.text {l1 : List S54} {i : Nat} {out : List S54} (h : Gath l1 i out) (hi : i < l1.length) (hg : GoodSteps l1) : Gath l1 (i + 1) (out ++ [rd_T54 l1 (i : Nat)]) := by
  have hx := hg _ (rd68_mem l1 i hi)
  refine ⟨by rw [sumN_pos, h.s, sumN_take_succ l1 i hi], fun y hy => ?_⟩
  rcases List.mem_append.mp hy with hy | hy
  · exact h.p y hy
  · rw [List.mem_singleton.mp hy]; exact hx.1
theorem Gath.copy {l0 l1 : List S54} {i : Nat} {out : List S54} (h : Gath l1 i out) (hi : i < l1.length) (hg : GoodSteps l0) (h2 : (rd_T54 l1 (i : Nat)).f2.size = 0) (hs : (rd_T54 l1 (i : Nat)).f0.toNat + (rd_T54 l1 (i : Nat)).f1.toNat ≤ sumN l0) :
    Gath l1 (i + 1) (out ++ pieceAt l0 (rd_T54 l1 (i : Nat)).f0.toNat (rd_T54 l1 (i : Nat)).f1.toNat) := by
  obtain ⟨a, b⟩ := pieceAt_sum l0 hg _ _ hs
  refine ⟨by rw [sumN_append, a, h.s, sumN_take_succ l1 i hi]; unfold lenN; omega, fun y hy => ?_⟩
  rcases List.mem_append.mp hy with hy | hy
  · exact h.p y hy
  · exact b y hy

def CompOk (k : Nat) (l0 l1 : List S54) : Prop := l0.length + l1.length + 10 ≤ k ∧ l0.length ≤ 1000000 ∧ l1.length ≤ 1000000 ∧ In64 l0 ∧ In64 l1
instance (l : List S54) : Decidable (In64 l) := by unfold In64; infer_instance
instance (k : Nat) (l0 l1 : List S54) : Decidable (CompOk k l0 l1) := by unfold CompOk; infer_instance
def compV (a0 a1 : ByteArray) (a2 : Int) (l0 : List S54) (b0 b1 : ByteArray) (b2 : Int) (l1 : List S54) : ByteArray × ByteArray × Int × List S54 × Int :=
  if rightV a0 a1 a2 l0 = true ∧ rightV b0 b1 b2 l1 = true then
    if a1.toList = b0.toList then
      match compF l0 a2 l1 [] with
      | none => (⟨#[]⟩, ⟨#[]⟩, 0, [], 2)
      | some out => (a0, b1, b2, tidyV out, 0)
    else (⟨#[]⟩, ⟨#[]⟩, 0, [], 13)
  else (⟨#[]⟩, ⟨#[]⟩, 0, [], 1)
end Go.Proofs.Ytjgelmfkoefclaa.Pure
namespace Go.Proofs.Ytjgelmfkoefclaa.PAll
open Go.RowKit Go.Proofs.YtjgelmfkoefclaaW.PrintWords Go.Proofs.YtjgelmfkoefclaaW.PrintLast Go.Proofs.YtjgelmfkoefclaaW.PrintMore Go.Proofs.Ytjgelmfkoefclaa.Pure
def chain_Compose.f (k : Nat) (a0 a1 : ByteArray) (a2 : Int) (l0 : List S54) (b0 b1 : ByteArray) (b2 : Int) (l1 : List S54) : Option (ByteArray × ByteArray × Int × List S54 × Int) :=
  if CompOk k l0 l1 then some (compV a0 a1 a2 l0 b0 b1 b2 l1) else none
theorem chain_Compose.mono : ∀ a0 a1 a2 a3 a4 a5 a6 a7 k, LeO (chain_Compose.f k a0 a1 a2 a3 a4 a5 a6 a7) (chain_Compose.f (k + 1) a0 a1 a2 a3 a4 a5 a6 a7) := by
  intro a0 a1 a2 a3 a4 a5 a6 a7 k r h
  unfold chain_Compose.f at *
  by_cases hok : CompOk k a3 a7
  · rw [if_pos hok] at h
    rw [if_pos ⟨by have := hok.1; omega, hok.2⟩]
    exact h
  · rw [if_neg hok] at h; cases h
end Go.Proofs.Ytjgelmfkoefclaa.PAll
