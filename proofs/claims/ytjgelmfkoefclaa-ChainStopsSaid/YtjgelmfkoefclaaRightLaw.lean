/- What it is for a delta to be right: the program's answer and the reference's. -/
import Derived.Test.YtjgelmfkoefclaaStepLaw
import Derived.Test.YtjgelmfkoefclaaPAllx6
namespace Go.Proofs.Ytjgelmfkoefclaa.Pure
open Go.RowKit Go.Proofs.YtjgelmfkoefclaaW.PrintWords Go.Proofs.YtjgelmfkoefclaaW.PrintLast Go.Proofs.YtjgelmfkoefclaaW.PrintMore Go.Proofs.Ytjgelmfkoefclaa.PAll
set_option linter.unusedVariables false
set_option linter.unusedSimpArgs false

def stepOk (x : S54) : Prop := if x.f2.size = 0 then 0 < x.f1 ∧ 0 ≤ x.f0 ∧ x.f1 ≤ 524288 ∧ x.f0 ≤ 524288 - x.f1 else x.f0 = 0 ∧ x.f1 = 0 ∧ x.f2.size ≤ 4096
instance (x : S54) : Decidable (stepOk x) := by unfold stepOk; infer_instance
def RightP (g0 g1 : ByteArray) (size : Int) (l : List S54) : Prop := g0.size = 32 ∧ g1.size = 32 ∧ 0 ≤ size ∧ size ≤ 524288 ∧ (∀ x ∈ l, stepOk x) ∧ (sumN l : Int) = size
instance (g0 g1 : ByteArray) (size : Int) (l : List S54) : Decidable (RightP g0 g1 size l) := by unfold RightP; infer_instance
def rightV (g0 g1 : ByteArray) (size : Int) (l : List S54) : Bool := decide (RightP g0 g1 size l)

theorem nil_size (s : ByteArray) : s.toList = ([] : List UInt8) ↔ s.size = 0 := by
  have h : s.toList.length = s.size := by rw [ByteArray.toList_eq]; exact data_length s
  rw [← h]
  exact List.length_eq_zero_iff.symm
theorem stepOk_len {x : S54} (h : stepOk x) : 0 < lenN x ∧ 0 ≤ x.f1 ∧ (x.f1 = 0 ∨ x.f2.size = 0) ∧ lenN x ≤ 524288 ∧ wrap64 (x.f1 + (x.f2.size : Int)) = (lenN x : Nat) := by
  unfold stepOk at h
  unfold lenN
  split at h
  · rename_i h0
    refine ⟨by omega, by omega, .inr h0, by omega, ?_⟩
    unfold wrap64; omega
  · rename_i h0
    refine ⟨by omega, by omega, .inl h.2.1, by omega, ?_⟩
    unfold wrap64; omega
theorem right_f (x : S54) (h0 : -9223372036854775808 ≤ x.f0) (h1 : x.f0 ≤ 9223372036854775807) : delta_right.f x.f0 x.f1 x.f2 (-1) = some (decide (stepOk x)) := by
  unfold delta_right.f
  by_cases hs : x.f2.size = 0
  · rw [if_pos ((nil_size _).2 hs)]
    by_cases a1 : x.f1 > 0
    · rw [if_pos a1]
      by_cases a2 : x.f0 ≥ 0
      · rw [if_pos a2]
        by_cases a3 : x.f1 ≤ 524288
        · rw [if_pos a3]
          have hw : wrap64 (524288 - x.f1) = 524288 - x.f1 := by unfold wrap64; omega
          rw [hw]
          by_cases a4 : x.f0 ≤ 524288 - x.f1
          · rw [if_pos a4, if_pos (by decide)]
            exact congrArg some (decide_eq_true (by unfold stepOk; rw [if_pos hs]; omega)).symm
          · rw [if_neg a4]; exact congrArg some (decide_eq_false (by unfold stepOk; rw [if_pos hs]; omega)).symm
        · rw [if_neg a3]; exact congrArg some (decide_eq_false (by unfold stepOk; rw [if_pos hs]; omega)).symm
      · rw [if_neg a2]; exact congrArg some (decide_eq_false (by unfold stepOk; rw [if_pos hs]; omega)).symm
    · rw [if_neg a1]; exact congrArg some (decide_eq_false (by unfold stepOk; rw [if_pos hs]; omega)).symm
  · rw [if_neg (fun h => hs ((nil_size _).1 h))]
    by_cases a1 : x.f0 = 0
    · rw [if_pos a1]
      by_cases a2 : x.f1 = 0
      · rw [if_pos a2]
        by_cases a3 : x.f2.size ≤ 4096
        · rw [decide_eq_true (show (x.f2.size : Int) ≤ 4096 by omega)]
          exact congrArg some (decide_eq_true (by unfold stepOk; rw [if_neg hs]; omega)).symm
        · rw [decide_eq_false (show ¬ (x.f2.size : Int) ≤ 4096 by omega)]
          exact congrArg some (decide_eq_false (by unfold stepOk; rw [if_neg hs]; omega)).symm
      · rw [if_neg a2]; exact congrArg some (decide_eq_false (by unfold stepOk; rw [if_neg hs]; omega)).symm
    · rw [if_neg a1]; exact congrArg some (decide_eq_false (by unfold stepOk; rw [if_neg hs]; omega)).symm
theorem rdS_nat (l : List S54) (i : Nat) (h : i < l.length) : rd_T54 l (i : Int) = l[i] := by
  unfold rd_T54
  rw [Int.toNat_natCast, List.getD_eq_getElem?_getD, List.getElem?_eq_getElem h]; rfl
theorem wrap_nat (a b : Nat) (h : a + b ≤ 4000000) : wrap64 ((a : Int) + (b : Int)) = ((a + b : Nat) : Int) := by unfold wrap64; omega
def restB (size : Int) (n : Nat) (l : List S54) : Bool := decide ((∀ x ∈ l, stepOk x) ∧ ((n + sumN l : Nat) : Int) = size)
theorem restB_nil (size : Int) (n : Nat) : restB size n [] = ((n : Int) == size) := by
  unfold restB
  rw [Bool.eq_iff_iff, decide_eq_true_eq, beq_iff_eq]
  simp [sumN]
theorem restB_bad (size : Int) (n : Nat) (x : S54) (l : List S54) (h : ¬ stepOk x) : restB size n (x :: l) = false := by
  unfold restB
  exact decide_eq_false (fun hh => h (hh.1 x (List.mem_cons_self ..)))
theorem restB_big (size : Int) (n : Nat) (l : List S54) (h : size < n) : restB size n l = false := by
  unfold restB
  exact decide_eq_false (fun hh => by have := hh.2; omega)
theorem restB_cons (size : Int) (n : Nat) (x : S54) (l : List S54) (h : stepOk x) : restB size n (x :: l) = restB size (n + lenN x) l := by
  unfold restB
  rw [Bool.eq_iff_iff, decide_eq_true_eq, decide_eq_true_eq, sumN_cons]
  constructor
  · rintro ⟨a, b⟩; exact ⟨fun y hy => a y (List.mem_cons_of_mem _ hy), by rw [← b, Nat.add_assoc]⟩
  · rintro ⟨a, b⟩
    refine ⟨fun y hy => ?_, by rw [← b, Nat.add_assoc]⟩
    rcases List.mem_cons.mp hy with rfl | hy
    · exact h
    · exact a y hy
def In64 (l : List S54) : Prop := ∀ x ∈ l, -9223372036854775808 ≤ x.f0 ∧ x.f0 ≤ 9223372036854775807
theorem right_l0 (l : List S54) (hin : In64 l) (g0 g1 : ByteArray) (size : Int) (hs0 : 0 ≤ size) (hs1 : size ≤ 524288) (hl : l.length ≤ 1000000) (d : Nat) : ∀ (k i n : Nat), l.length - i = d → i ≤ l.length → (n : Int) ≤ size → d < k →
    delta_Right.l0 k (n : Nat) l (l.length : Int) (i : Nat) g0 g1 size l = some (restB size n (l.drop i)) := by
  induction d with
  | zero =>
    intro k i n hd hi hn hk
    obtain ⟨k, rfl⟩ : ∃ m, k = m + 1 := ⟨k - 1, by omega⟩
    rw [delta_Right.l0, if_neg (by omega), List.drop_of_length_le (by omega), restB_nil]
  | succ d ih =>
    intro k i n hd hi hn hk
    obtain ⟨k, rfl⟩ : ∃ m, k = m + 1 := ⟨k - 1, by omega⟩
    have hil : i < l.length := by omega
    have hdr : l.drop i = l[i] :: l.drop (i + 1) := List.drop_eq_getElem_cons hil
    have hmem : l[i] ∈ l := List.getElem_mem hil
    rw [delta_Right.l0, if_pos (by omega), if_pos (by omega), if_pos (by omega), rdS_nat l i hil]
    have hb := hin _ hmem
    rw [hdr]
    clear hdr
    obtain ⟨x, hx⟩ : ∃ x, l[i] = x := ⟨_, rfl⟩
    rw [hx] at hb ⊢
    rw [right_f x hb.1 hb.2, Option.bind_some]
    by_cases hok : stepOk x
    · rw [if_pos (decide_eq_true hok)]
      obtain ⟨s1, s2, s3, s4, s5⟩ := stepOk_len hok
      rw [s5, wrap_nat _ _ (by omega), restB_cons _ _ _ _ hok]
      by_cases hb : ((n + lenN x : Nat) : Int) > size
      · rw [if_pos hb, restB_big _ _ _ (by omega)]
      · rw [if_neg hb, show wrap64 ((i : Int) + 1) = ((i + 1 : Nat) : Int) from wrap_nat i 1 (by omega), ih k (i + 1) (n + lenN x) (by omega) (by omega) (by omega) (by omega)]
    · rw [if_neg (by rw [decide_eq_true_eq]; exact hok), restB_bad _ _ _ _ hok]
theorem sumN_ge (l : List S54) (h : ∀ x ∈ l, stepOk x) : l.length ≤ sumN l := by
  induction l with
  | nil => simp [sumN]
  | cons x l ih =>
    have := ih (fun y hy => h y (List.mem_cons_of_mem _ hy))
    have hx := stepOk_len (h x (List.mem_cons_self ..))
    rw [sumN_cons, List.length_cons]
    omega
theorem Right_f (g0 g1 : ByteArray) (size : Int) (l : List S54) (hin : In64 l) (hl : l.length ≤ 1000000) (k : Nat) (hk : l.length + 2 < k) : delta_Right.f k g0 g1 size l = some (rightV g0 g1 size l) := by
  have hfalse : ∀ k, 0 < k → ∀ a b c d, delta_Right.j0 k true a b c d = some false := fun k hk a b c d => by
    obtain ⟨k, rfl⟩ : ∃ m, k = m + 1 := ⟨k - 1, by omega⟩
    rw [delta_Right.j0, if_pos rfl]
  unfold delta_Right.f
  by_cases h0 : (g0.size : Int) = 32
  · rw [if_pos h0]
    by_cases h1 : (g1.size : Int) = 32
    · rw [if_pos h1]
      by_cases h2 : size < 0
      · rw [if_pos h2, hfalse k (by omega)]; exact congrArg some (decide_eq_false (fun h => by unfold RightP at h; omega)).symm
      · rw [if_neg h2]
        by_cases h3 : size > 524288
        · rw [if_pos h3, hfalse k (by omega)]; exact congrArg some (decide_eq_false (fun h => by unfold RightP at h; omega)).symm
        · rw [if_neg h3]
          by_cases h4 : (l.length : Int) > 524288
          · rw [decide_eq_true h4, hfalse k (by omega)]
            exact congrArg some (decide_eq_false (fun h => by have := sumN_ge l h.2.2.2.2.1; have := h.2.2.2.2.2; omega)).symm
          · rw [decide_eq_false h4]
            obtain ⟨k, rfl⟩ : ∃ m, k = m + 1 := ⟨k - 1, by omega⟩
            rw [delta_Right.j0, if_neg (by decide)]
            have := right_l0 l hin g0 g1 size (by omega) (by omega) hl l.length k 0 0 (by omega) (by omega) (by omega) (by omega)
            rw [List.drop_zero] at this
            refine this.trans (congrArg some ?_)
            unfold restB rightV
            rw [Bool.eq_iff_iff, decide_eq_true_eq, decide_eq_true_eq, Nat.zero_add]
            unfold RightP
            constructor
            · rintro ⟨a, b⟩; exact ⟨by omega, by omega, by omega, by omega, a, b⟩
            · rintro ⟨_, _, _, _, a, b⟩; exact ⟨a, b⟩
    · rw [if_neg h1, hfalse k (by omega)]; exact congrArg some (decide_eq_false (fun h => by unfold RightP at h; omega)).symm
  · rw [if_neg h0, hfalse k (by omega)]; exact congrArg some (decide_eq_false (fun h => by unfold RightP at h; omega)).symm
theorem RightP.ok {g0 g1 : ByteArray} {size : Int} {l : List S54} (h : RightP g0 g1 size l) : StepsOk l := by
  obtain ⟨_, _, _, h3, h4, h5⟩ := h
  refine ⟨by have := sumN_ge l h4; omega, by omega, fun x hx => ?_⟩
  obtain ⟨a, b, c, _⟩ := stepOk_len (h4 x hx)
  exact ⟨a, b, c⟩
end Go.Proofs.Ytjgelmfkoefclaa.Pure
