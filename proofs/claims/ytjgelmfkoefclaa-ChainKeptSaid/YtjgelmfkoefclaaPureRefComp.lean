/- Chapter 7: composing answers as the reference does. -/
import Derived.Test.YtjgelmfkoefclaaPureComp
import Derived.Test.YtjgelmfkoefclaaGivCompose
namespace Go.Proofs.Ytjgelmfkoefclaa.Pure
open Go.RowKit Go.Proofs.YtjgelmfkoefclaaW.PrintWords Go.Proofs.YtjgelmfkoefclaaW.PrintLast Go.Proofs.YtjgelmfkoefclaaW.PrintMore Go.Proofs.Ytjgelmfkoefclaa.PAll
set_option linter.unusedVariables false
set_option linter.unusedSimpArgs false

theorem refcomp_l0 (x y : List S59) (hx : x.length ≤ 1000000) (hy : y.length ≤ 1000000) (hn : ∀ b ∈ y, 0 ≤ b.f1) (a0 a1 : ByteArray) (a2 : Int) (l0 : List S54) (b0 b1 : ByteArray) (b2 : Int) (l1 : List S54) (d : Nat) :
    ∀ (k i : Nat) (out : List S59), y.length - i = d → i ≤ y.length → out.length ≤ i → 3 * y.length + d + 10 < k →
    barqueref07_Compose.l0 k x y out (i : Nat) a0 a1 a2 l0 b0 b1 b2 l1 = some (match bcomp x (y.drop i) out with | none => (⟨#[]⟩, ⟨#[]⟩, 0, [], 2) | some o => (a0, b1, b2, stepsV o, 0)) := by
  induction d with
  | zero =>
    intro k i out hd hi ho hk
    obtain ⟨k, rfl⟩ : ∃ m, k = m + 1 := ⟨k - 1, by omega⟩
    rw [barqueref07_Compose.l0, if_neg (by omega), List.drop_of_length_le (by omega), steps_f out (by omega) k (by omega), Option.bind_some, bcomp]
  | succ d ih =>
    intro k i out hd hi ho hk
    obtain ⟨k, rfl⟩ : ∃ m, k = m + 1 := ⟨k - 1, by omega⟩
    have hil : i < y.length := by omega
    rw [barqueref07_Compose.l0, if_pos (by omega), if_pos (by omega), rd70_nat y i hil, List.drop_eq_getElem_cons hil]
    have hb := hn _ (List.getElem_mem hil)
    obtain ⟨b, hbe⟩ : ∃ b, y[i] = b := ⟨_, rfl⟩
    rw [hbe] at hb ⊢
    have hw : wrap64 ((i : Int) + 1) = ((i + 1 : Nat) : Int) := wrap_nat i 1 (by omega)
    rw [bcomp]
    by_cases ht : b.f0 = true
    · rw [if_pos ht, if_pos ht, if_pos (by omega), hw]
      exact ih k (i + 1) (out ++ [b]) (by omega) (by omega) (by rw [List.length_append, List.length_singleton]; omega) (by omega)
    · rw [if_neg ht, if_neg ht]
      by_cases hg : b.f1 ≥ (x.length : Int)
      · rw [if_pos hg, if_pos hg]
      · rw [if_neg hg, if_neg hg, if_pos hb, if_pos (by omega), if_pos (by omega), hw]
        exact ih k (i + 1) (out ++ [rd_T59 x b.f1]) (by omega) (by omega) (by rw [List.length_append, List.length_singleton]; omega) (by omega)
theorem bytes_from (l : List S54) (h : AllOk l) : ∀ b ∈ bytesV l, 0 ≤ b.f1 := by
  intro b hb
  unfold bytesV at hb
  obtain ⟨x, hx, hbx⟩ := List.mem_flatMap.mp hb
  have hok := h x hx
  unfold bytes1 at hbx
  unfold stepOk at hok
  split at hbx
  · unfold told at hbx
    obtain ⟨i, _, rfl⟩ := List.mem_map.mp hbx
    exact Int.le_refl _
  · rename_i h0
    rw [if_pos (by omega)] at hok
    unfold froms at hbx
    obtain ⟨i, hi, rfl⟩ := List.mem_map.mp hbx
    rw [List.mem_range] at hi
    show 0 ≤ wrap64 (x.f0 + (i : Int))
    rw [wrap_in (by unfold in64; omega)]
    omega
theorem step_small (x : S54) (h : stepOk x) : x.f2.size ≤ 1000000 ∧ x.f1.toNat ≤ 1000000 := by
  unfold stepOk at h
  split at h
  · omega
  · omega
theorem refCompose_f (a0 a1 : ByteArray) (a2 : Int) (l0 : List S54) (b0 b1 : ByteArray) (b2 : Int) (l1 : List S54) (h0 : In64 l0) (h1 : In64 l1) (n0 : l0.length ≤ 1000000) (n1 : l1.length ≤ 1000000) (k : Nat) (hk : 4000000 < k) :
    barqueref07_Compose.f k a0 a1 a2 l0 b0 b1 b2 l1 = some (compV a0 a1 a2 l0 b0 b1 b2 l1) := by
  have hj : ∀ k, 0 < k → ∀ a b c d e f g h, barqueref07_Compose.j0 k true a b c d e f g h = some (⟨#[]⟩, ⟨#[]⟩, 0, [], 1) := fun k hk a b c d e f g h => by
    obtain ⟨k, rfl⟩ : ∃ m, k = m + 1 := ⟨k - 1, by omega⟩
    rw [barqueref07_Compose.j0, if_pos rfl]
  unfold barqueref07_Compose.f compV
  rw [refRight_f a0 a1 a2 l0 h0 n0 k (by omega), Option.bind_some]
  by_cases ra : rightV a0 a1 a2 l0 = true
  · rw [if_pos ra, refRight_f b0 b1 b2 l1 h1 n1 k (by omega), Option.bind_some]
    by_cases rb : rightV b0 b1 b2 l1 = true
    · rw [if_pos ⟨ra, rb⟩, rb]
      obtain ⟨k, rfl⟩ : ∃ m, k = m + 1 := ⟨k - 1, by omega⟩
      rw [Bool.not_true, barqueref07_Compose.j0, if_neg (by decide)]
      by_cases hm : a1.toList = b0.toList
      · rw [if_pos hm, if_pos hm]
        have pa : RightP a0 a1 a2 l0 := of_decide_eq_true ra
        have pb : RightP b0 b1 b2 l1 := of_decide_eq_true rb
        have ao : AllOk l0 := pa.2.2.2.2.1
        have bo : AllOk l1 := pb.2.2.2.2.1
        have sa : (sumN l0 : Int) = a2 := pa.2.2.2.2.2
        have sb : (sumN l1 : Int) = b2 := pb.2.2.2.2.2
        have sa2 : sumN l0 ≤ 524288 := by have := pa.2.2.2.1; omega
        have sb2 : sumN l1 ≤ 524288 := by have := pb.2.2.2.1; omega
        have la := bytesV_len l0 ao
        have lb := bytesV_len l1 bo
        have ga := sumN_ge l0 ao
        have gb := sumN_ge l1 bo
        rw [bytes_f l0 n0 (fun x hx => step_small x (ao x hx)) k (by omega) (by omega), Option.bind_some, bytes_f l1 n1 (fun x hx => step_small x (bo x hx)) k (by omega) (by omega), Option.bind_some]
        have hl := refcomp_l0 (bytesV l0) (bytesV l1) (by omega) (by omega) (bytes_from l1 bo) a0 a1 a2 l0 b0 b1 b2 l1 (bytesV l1).length k 0 [] (by omega) (by omega) (Nat.le_refl _) (by omega)
        rw [List.drop_zero] at hl
        refine hl.trans ?_
        obtain ⟨c1, c2⟩ := bcomp_steps l0 ao sa2 l1 bo [] (fun y hy => by cases hy)
        rw [← sa]
        cases hc : compF l0 (sumN l0) l1 [] with
        | none =>
          rw [show bcomp (bytesV l0) (bytesV l1) [] = none from c1 hc]
        | some o =>
          obtain ⟨c3, c4⟩ := c2 o hc
          rw [show bcomp (bytesV l0) (bytesV l1) [] = some (bytesV o) from c3]
          show some (a0, b1, b2, stepsV (bytesV o), (0 : Int)) = _
          rw [steps_bytes o c4]
      · rw [if_neg hm, if_neg hm]
    · rw [if_neg (fun h => rb h.2), show rightV b0 b1 b2 l1 = false from by simpa using rb]
      exact hj k (by omega) _ _ _ _ _ _ _ _
  · rw [if_neg ra, if_neg (fun h : _ ∧ _ => ra h.1)]
    exact hj k (by omega) _ _ _ _ _ _ _ _

/-! ### what two of them come to is small -/
theorem tidyV_len (l : List S54) : (tidyV l).length ≤ textSum l + l.length := by
  have h1 := tidyF_length l
  have h2 := flushN_length (tidyF l).1.size (tidyF l).1
  unfold tidyV
  rw [List.length_append]
  omega
theorem compF_gath (l0 : List S54) (h0 : AllOk l0) (l1 : List S54) (h1 : AllOk l1) : ∀ out o, FitS out → (∀ y ∈ out, 0 < lenN y) → sumN l1 ≤ 1000000 → compF l0 (sumN l0) l1 out = some o → FitS o ∧ (∀ y ∈ o, 0 < lenN y) ∧ sumN o = sumN out + sumN l1 := by
  induction l1 with
  | nil => intro out o hf hp hs h; rw [compF] at h; obtain rfl := Option.some.inj h; exact ⟨hf, hp, by simp [sumN]⟩
  | cons x r ih =>
    intro out o hf hp hs h
    have hx := h1 x (List.mem_cons_self ..)
    have hl := stepOk_len hx
    have hr : AllOk r := fun y hy => h1 y (List.mem_cons_of_mem _ hy)
    rw [sumN_cons] at hs ⊢
    rw [compF] at h
    by_cases ht : x.f2.size = 0
    · rw [if_neg (fun hh => hh ht)] at h
      have hx2 := hx
      unfold stepOk at hx2
      rw [if_pos ht] at hx2
      by_cases hg : x.f0 + x.f1 > (sumN l0 : Int)
      · rw [if_pos hg] at h; cases h
      · rw [if_neg hg] at h
        obtain ⟨p1, p2⟩ := pieceAt_sum l0 h0.good x.f0.toNat x.f1.toNat (by omega)
        obtain ⟨i1, i2, i3⟩ := ih hr _ o (fun y hy => by
          rcases List.mem_append.mp hy with hy | hy
          · exact hf y hy
          · exact pieceAt_fit l0 _ _ (by omega) y hy) (fun y hy => by
          rcases List.mem_append.mp hy with hy | hy
          · exact hp y hy
          · exact p2 y hy) (by omega) h
        refine ⟨i1, i2, ?_⟩
        rw [i3, sumN_append, p1]
        unfold lenN; omega
    · rw [if_pos ht] at h
      have hx2 := hx
      unfold stepOk at hx2
      rw [if_neg ht] at hx2
      obtain ⟨i1, i2, i3⟩ := ih hr _ o (fun y hy => by
          rcases List.mem_append.mp hy with hy | hy
          · exact hf y hy
          · rw [List.mem_singleton.mp hy, hx2.1, hx2.2.1]; exact ⟨by unfold in64; omega, by unfold in64; omega⟩) (fun y hy => by
          rcases List.mem_append.mp hy with hy | hy
          · exact hp y hy
          · rw [List.mem_singleton.mp hy]; exact hl.1) (by omega) h
      refine ⟨i1, i2, ?_⟩
      rw [i3, sumN_pos]; omega
theorem lenSum_le (l : List S54) : lenSum l ≤ sumN l := by
  induction l with
  | nil => simp [lenSum, sumN]
  | cons x l ih =>
    rw [sumN_cons]
    unfold lenSum at *
    simp only [List.map_cons, List.foldr_cons]
    unfold lenN
    omega
theorem tidyV_fit (l : List S54) (h : ∀ x ∈ l, in64 x.f0) (hs : lenSum l ≤ 1000000) : FitS (tidyV l) := fun y hy => by
  obtain ⟨b, t, n, f⟩ := tidy_bytes l h (by omega)
  have := f y hy
  have h2 := lenSum_mem _ y hy
  exact ⟨this.1, by unfold in64; omega⟩
/-- The steps of what two come to: few, and they fit. -/
theorem compV_small (a0 a1 : ByteArray) (a2 : Int) (l0 : List S54) (b0 b1 : ByteArray) (b2 : Int) (l1 : List S54) (n : Nat) (hn : n ≤ 500000) (hs : AllOk l1 → sumN l1 ≤ n) :
    (compV a0 a1 a2 l0 b0 b1 b2 l1).2.2.2.1.length ≤ 2 * n ∧ FitS (compV a0 a1 a2 l0 b0 b1 b2 l1).2.2.2.1 := by
  have hnil : ([] : List S54).length ≤ 2 * n ∧ FitS [] := ⟨by simp, fun y hy => by cases hy⟩
  unfold compV
  split
  · rename_i hr
    split
    · have pa : RightP a0 a1 a2 l0 := of_decide_eq_true hr.1
      have pb : RightP b0 b1 b2 l1 := of_decide_eq_true hr.2
      have sa : (sumN l0 : Int) = a2 := pa.2.2.2.2.2
      have hn1 := hs pb.2.2.2.2.1
      rw [← sa]
      cases hc : compF l0 (sumN l0) l1 [] with
      | none => exact hnil
      | some o =>
        obtain ⟨f, p, s⟩ := compF_gath l0 pa.2.2.2.2.1 l1 pb.2.2.2.2.1 [] o (fun y hy => by cases hy) (fun y hy => by cases hy) (by omega) hc
        have s2 : sumN o = sumN l1 := by rw [s]; simp [sumN]
        have h1 := len_le_sum o p
        have h2 := text_le_sum o
        have h3 := lenSum_le o
        have h4 := tidyV_len o
        exact ⟨by show (tidyV o).length ≤ 2 * n; omega, tidyV_fit o (fun x hx => (f x hx).1) (by omega)⟩
    · exact hnil
  · exact hnil
theorem FitS.in {l : List S54} (h : FitS l) : In64 l := fun x hx => (h x hx).1
theorem same_all (k : Nat) (a b : ByteArray) (c : Int) (l : List S54) (hl : l.length ≤ 1000000) (hk : l.length < k) : barqueref06_Same.f k a b c l a b c l = some true := by
  unfold barqueref06_Same.f
  rw [if_pos rfl, if_pos rfl, if_pos rfl, same_f l hl k hk, Option.bind_some]
theorem sum_split (l : List S54) : sumN l = textSum l + lenSum l := by
  induction l with
  | nil => rfl
  | cons x l ih =>
    rw [sumN_cons, ih]
    unfold textSum lenSum lenN
    simp only [List.map_cons, List.foldr_cons]
    omega
end Go.Proofs.Ytjgelmfkoefclaa.Pure
