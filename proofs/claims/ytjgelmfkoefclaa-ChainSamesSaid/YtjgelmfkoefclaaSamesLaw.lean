/- The delta that leaves all as it is changes nothing. -/
import Derived.Test.YtjgelmfkoefclaaLayLaw
import Derived.Test.YtjgelmfkoefclaaBasd
namespace Go.Proofs.Ytjgelmfkoefclaa.Pure
open Go.RowKit Go.Proofs.YtjgelmfkoefclaaW.PrintWords Go.Proofs.YtjgelmfkoefclaaW.PrintLast Go.Proofs.YtjgelmfkoefclaaW.PrintMore Go.Proofs.Ytjgelmfkoefclaa.PAll
set_option linter.unusedVariables false
set_option linter.unusedSimpArgs false

def sameL (n : Nat) : List S54 := if 0 < n then [⟨0, (n : Int), ⟨#[]⟩⟩] else []
theorem same_lay {n : Nat} (hn : n ≤ 524288) : Lay n n (sameL n) := by
  unfold sameL
  split
  · refine ⟨fun x hx => ?_, ?_⟩
    · rw [List.mem_singleton.1 hx]
      refine ⟨?_, fun _ => ?_⟩
      · unfold stepOk
        rw [if_pos (show (⟨#[]⟩ : ByteArray).size = 0 from rfl)]
        show (0 : Int) < (n : Int) ∧ (0 : Int) ≤ 0 ∧ (n : Int) ≤ 524288 ∧ (0 : Int) ≤ 524288 - (n : Int)
        omega
      · show (0 : Int) + (n : Int) ≤ n
        omega
    · rw [sumN_cons]
      show ((n : Int).toNat + (⟨#[]⟩ : ByteArray).size) + 0 = n
      rw [Int.toNat_natCast]
      rfl
  · exact ⟨fun x hx => (by cases hx), by show 0 = n; omega⟩
theorem same_bytes (n : Nat) : bytesV (sameL n) = froms (0 : Nat) n := by
  unfold sameL
  split
  · rw [bytesV_one]
    unfold bytes1
    rw [if_neg (fun h => h rfl)]
    rfl
  · have : n = 0 := by omega
    subst this
    rfl
theorem bytes1_in0 {m : Nat} (hm : m ≤ 524288) {x : S54} (h : okB m x) : ∀ b ∈ bytes1 x, b.f0 = true ∨ ∃ p : Nat, p < m ∧ b = ⟨false, (p : Int), 0⟩ := fun b hb => by
  obtain ⟨h1, h2⟩ := h
  unfold bytes1 at hb
  unfold stepOk at h1
  split at hb
  · exact .inl (told_told _ b hb)
  · rename_i h0
    have h0' : x.f2.size = 0 := by omega
    rw [if_pos h0'] at h1
    have h3 := h2 h0'
    unfold froms at hb
    obtain ⟨k, hk, rfl⟩ := List.mem_map.1 hb
    have hk := List.mem_range.1 hk
    obtain ⟨p, hp⟩ := Int.eq_ofNat_of_zero_le h1.2.1
    refine .inr ⟨p + k, by omega, ?_⟩
    rw [hp, wrap_in (by unfold in64; omega)]
    rfl
theorem cmp_id {m : Nat} (hm : m ≤ 524288) (Y : List S59) (h : ∀ b ∈ Y, b.f0 = true ∨ ∃ p : Nat, p < m ∧ b = ⟨false, (p : Int), 0⟩) : cmp (froms (0 : Nat) m) Y = Y := by
  unfold cmp
  conv => rhs; rw [← List.map_id Y]
  refine List.map_congr_left (fun b hb => ?_)
  rcases h b hb with ht | ⟨p, hp, rfl⟩
  · rw [if_pos ht]; rfl
  · rw [if_neg (by simp)]
    show rd_T59 (froms (0 : Nat) m) (p : Int) = _
    rw [rd70_nat _ p (by rw [froms_len]; exact hp), froms_get, wrap_in (by unfold in64; omega)]
    show (⟨false, ((0 : Nat) : Int) + (p : Nat), 0⟩ : S59) = ⟨false, (p : Int), 0⟩
    rw [show ((0 : Nat) : Int) + (p : Nat) = (p : Int) by omega]
theorem sames {m n : Nat} (hm : m ≤ 524288) (hn : n ≤ 524288) {l : List S54} (h : Lay m n l) : compL (sameL m) l = stepsV (bytesV l) ∧ compL l (sameL n) = stepsV (bytesV l) := by
  unfold compL
  rw [same_bytes, same_bytes, cmp_id hm _ (fun b hb => by
    unfold bytesV at hb
    obtain ⟨x, hx, hb⟩ := List.mem_flatMap.1 hb
    exact bytes1_in0 hm (h.1 x hx) b hb), cmp_froms _ 0 n (by rw [h.len]; omega) (by rw [h.len]; omega)]
  refine ⟨rfl, ?_⟩
  rw [List.drop_zero, List.take_of_length_le (by rw [h.len]; exact Nat.le_refl _)]
def sameOk (a0 : ByteArray) (a1 : Int) : Prop := a0.size = 32 ∧ 0 ≤ a1 ∧ a1 ≤ 524288
theorem few_len0 (l : List ByteArray) (hl : l.length ≤ 6) (d : Nat) : ∀ (k i : Nat) (acc r : List ByteArray), l.length - i = d → i ≤ l.length → acc.length = i → 2 * d + 2 ≤ k → barquelaw07_few.l0 k l acc (i : Nat) = some r → r.length = l.length := by
  induction d with
  | zero =>
    intro k i acc r h1 h2 h3 h4 h
    obtain ⟨k, rfl⟩ : ∃ m, k = m + 2 := ⟨k - 2, by omega⟩
    unfold barquelaw07_few.l0 at h
    rw [if_neg (by omega)] at h
    unfold barquelaw07_few.j1 at h
    rw [if_neg (by decide)] at h
    injection h with h
    rw [← h]
    omega
  | succ d ih =>
    intro k i acc r h1 h2 h3 h4 h
    obtain ⟨k, rfl⟩ : ∃ m, k = m + 2 := ⟨k - 2, by omega⟩
    have hi : decide ((i : Int) < 6) = true := decide_eq_true (by omega)
    have hw : wrap64 ((i : Int) + 1) = ((i + 1 : Nat) : Int) := by unfold wrap64; omega
    have hlt : (i : Int) < (l.length : Int) := by omega
    unfold barquelaw07_few.l0 at h
    rw [if_pos hlt, hi] at h
    unfold barquelaw07_few.j1 at h
    rw [if_pos rfl, if_pos (by omega), if_pos hlt] at h
    obtain ⟨x, hx⟩ : ∃ x, x = rdOf ByteArray.empty l (i : Int) := ⟨_, rfl⟩
    rw [← hx] at h
    by_cases hs : (x.size : Int) > 1000
    · rw [if_pos hs, if_pos (by decide), if_pos (by omega), if_pos (by omega), hw] at h
      exact ih k (i + 1) _ r (by omega) (by omega) (by rw [List.length_append, h3]; rfl) (by omega) h
    · rw [if_neg hs, if_pos (by omega), hw] at h
      exact ih k (i + 1) _ r (by omega) (by omega) (by rw [List.length_append, h3]; rfl) (by omega) h
theorem few_len (l r : List ByteArray) (hl : l.length ≤ 6) (h : barquelaw07_few.f 20 l = some r) : r.length = l.length := by
  unfold barquelaw07_few.f at h
  exact few_len0 l hl l.length 20 0 [] r (by omega) (by omega) rfl (by omega) h
end Go.Proofs.Ytjgelmfkoefclaa.Pure
