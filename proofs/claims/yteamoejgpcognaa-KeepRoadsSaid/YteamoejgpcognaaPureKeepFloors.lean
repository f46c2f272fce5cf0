import Derived.Test.YteamoejgpcognaaPAllx32
import Derived.Test.YteamoejgpcognaaPAllx31
import Derived.KernelRfl
namespace Go.Proofs.Yteamoejgpcognaa.Pure
open Go.RowKit Go.Proofs.YteamoejgpcognaaW.PrintWords Go.Proofs.YteamoejgpcognaaW.PrintLast Go.Proofs.YteamoejgpcognaaW.PrintMore Go.Proofs.Yteamoejgpcognaa.PAll
set_option linter.unusedVariables false
set_option linter.unusedSimpArgs false

theorem awake12 : barquelaw12_awake.f 40 = some true := by kernel_rfl
theorem awake12_more (d : Nat) : barquelaw12_awake.f (40 + d) = some true := by
  induction d with
  | zero => exact awake12
  | succ d ih => exact barquelaw12_awake.mono (40 + d) _ ih
theorem right_some (p0 p1 : Int) : ∃ b, keep_Right.f p0 p1 = some b ∧ barqueref12_Right.f p0 p1 = some b ∧ (b = true ↔ 1 ≤ p0 ∧ p0 ≤ 1048576 ∧ 0 ≤ p1 ∧ p1 ≤ 1048576) := by
  unfold keep_Right.f barqueref12_Right.f
  by_cases h1 : p0 ≥ 1
  · by_cases h2 : p0 ≤ 1048576
    · by_cases h3 : p1 ≥ 0
      · rw [if_pos h1, if_pos h2, if_pos h3]; exact ⟨_, rfl, rfl, by simp; omega⟩
      · rw [if_pos h1, if_pos h2, if_neg h3]; exact ⟨_, rfl, rfl, by simp; omega⟩
    · rw [if_pos h1, if_neg h2]; exact ⟨_, rfl, rfl, by simp; omega⟩
  · rw [if_neg h1]; exact ⟨_, rfl, rfl, by simp; omega⟩

theorem keeps_some (p0 p1 g t : Int) : ∃ b, keep_Keeps.f p0 p1 g t = some b ∧ barqueref12_Keeps.f p0 p1 g t = some b := by
  unfold keep_Keeps.f barqueref12_Keeps.f
  obtain ⟨b, h1, h2, hb⟩ := right_some p0 p1
  rw [h1, h2]
  cases b with
  | false => exact ⟨_, rfl, rfl⟩
  | true =>
    simp only [Option.bind_some, if_true]
    by_cases h5 : g ≥ 0
    · by_cases h6 : g ≤ t
      · rw [if_pos h5, if_pos h6, if_neg (show ¬ g < 0 by omega), if_neg (show ¬ g > t by omega)]
        by_cases h7 : wrap64 (t - g) < p0
        · rw [if_pos h7]; exact ⟨_, rfl, rfl⟩
        · rw [if_neg h7]
          by_cases h8 : p1 > 0
          · rw [if_pos h8, if_neg (show ¬ p1 = 0 by omega)]; exact ⟨_, rfl, rfl⟩
          · rw [if_neg h8]; exact ⟨_, rfl, rfl⟩
      · rw [if_pos h5, if_neg h6, if_neg (show ¬ g < 0 by omega), if_pos (show g > t by omega)]; exact ⟨_, rfl, rfl⟩
    · rw [if_neg h5, if_pos (show g < 0 by omega)]; exact ⟨_, rfl, rfl⟩

theorem KeepPolicies (p0 p1 g t : Int) : barquelaw12_KeepPolicies.f 40 p0 p1 g t = some true := by
  unfold barquelaw12_KeepPolicies.f
  obtain ⟨b, h1, h2, _⟩ := right_some p0 p1
  obtain ⟨c, h3, h4⟩ := keeps_some p0 p1 g t
  rw [h1, h2, h3, h4, awake12]
  simp

/-- The last ones are kept. -/
theorem keeps_last {p0 p1 g t : Int} (hr : keep_Right.f p0 p1 = some true) (h0 : 0 ≤ g) (h1 : g ≤ t) (ht : t ≤ 9223372036854775807) (h2 : t - g < p0) : keep_Keeps.f p0 p1 g t = some true := by
  unfold keep_Keeps.f
  rw [hr]
  simp only [Option.bind_some, if_true]
  rw [if_pos (by omega), if_pos (by omega), if_pos (by unfold wrap64; omega)]
theorem keeps_not {p0 p1 g t : Int} (hr : keep_Right.f p0 p1 = some true) (h0 : 0 ≤ g) (h1 : g ≤ t) (ht : t ≤ 9223372036854775807) (h2 : ¬ t - g < p0) (hp : ¬ p1 > 0) : keep_Keeps.f p0 p1 g t = some false := by
  unfold keep_Keeps.f
  rw [hr]
  simp only [Option.bind_some, if_true]
  rw [if_pos (by omega), if_pos (by omega), if_neg (by unfold wrap64; omega), if_neg hp]

theorem KeepFloors (p0 p1 t g : Int) (ht : t ≤ 9223372036854775807) : barquelaw12_KeepFloors.f 43 p0 p1 t g = some true := by
  unfold barquelaw12_KeepFloors.f keep_Floor.f
  obtain ⟨b, h1, h2, hb⟩ := right_some p0 p1
  have haw : ∀ n, 40 ≤ n → n ≤ 43 → barquelaw12_awake.f n = some true := by
    intro n hn hn2
    obtain ⟨d, rfl⟩ : ∃ d, n = 40 + d := ⟨n - 40, by omega⟩
    exact awake12_more d
  rw [h1, h2]
  cases b with
  | false =>
    simp only [Option.bind_some, Bool.false_eq_true, if_false]
    simp only [barquelaw12_KeepFloors.j0]
    rw [if_pos trivial, if_pos trivial, haw 42 (by omega) (by omega)]; rfl
  | true =>
    obtain ⟨b1, b2, b3, b4⟩ := hb.1 rfl
    simp only [Option.bind_some, if_true]
    by_cases hlt : t < p0
    · rw [if_pos hlt]
      simp only [Option.bind_some]
      simp only [barquelaw12_KeepFloors.j0]
      by_cases h0 : t < 0
      · rw [if_pos (by simpa using h0), if_pos trivial, haw 42 (by omega) (by omega)]; rfl
      · rw [if_neg (by simpa using h0), if_neg (by omega), if_neg (by omega), if_neg (by unfold wrap64; omega), if_neg (by omega)]
        simp only [barquelaw12_KeepFloors.j1]
        rw [if_neg (by decide)]
        by_cases hg : g ≥ 0
        · rw [if_pos hg]
          by_cases hgt : g ≤ t
          · rw [if_pos hgt, keeps_last h1 hg hgt ht (by omega)]
            simp only [Option.bind_some, barquelaw12_KeepFloors.j2]
            rw [if_neg (by decide), if_pos trivial, haw 40 (by omega) (by omega)]; rfl
          · rw [if_neg hgt]
            simp only [barquelaw12_KeepFloors.j2]
            rw [if_neg (by decide), if_pos trivial, haw 40 (by omega) (by omega)]; rfl
        · rw [if_neg hg]
          simp only [barquelaw12_KeepFloors.j2]
          rw [if_neg (by decide), if_pos trivial, haw 40 (by omega) (by omega)]; rfl
    · rw [if_neg hlt]
      have e1 : wrap64 (wrap64 (t - p0) + 1) = t - p0 + 1 := by unfold wrap64; omega
      rw [e1]
      simp only [Option.bind_some]
      simp only [barquelaw12_KeepFloors.j0]
      have e2 : wrap64 (t - (t - p0 + 1)) = p0 - 1 := by unfold wrap64; omega
      have e3 : wrap64 (p0 - 1) = p0 - 1 := by unfold wrap64; omega
      rw [if_neg (by simp; omega), if_neg (by omega), if_neg (by omega), e2, e3, if_neg (by omega), if_pos (by omega)]
      simp only [barquelaw12_KeepFloors.j1]
      rw [if_neg (by simp)]
      have hj2 : ∀ n, n = 40 → barquelaw12_KeepFloors.j2 (n + 1) t (t - p0 + 1) false p0 p1 = some true := by
        intro n hn
        simp only [barquelaw12_KeepFloors.j2]
        rw [if_neg (by decide), if_neg (by omega)]
        by_cases hp : p1 > 0
        · rw [if_pos hp, haw n (by omega) (by omega)]; rfl
        · have e4 : wrap64 (t - p0 + 1 - 1) = t - p0 := by unfold wrap64; omega
          rw [if_neg hp, e4, keeps_not h1 (by omega) (by omega) ht (by omega) hp]
          simp only [Option.bind_some, Bool.false_eq_true, if_false]
          rw [haw n (by omega) (by omega)]; rfl
      by_cases hg : g ≥ t - p0 + 1
      · rw [if_pos hg]
        by_cases hgt : g ≤ t
        · rw [if_pos hgt, keeps_last h1 (by omega) hgt ht (by omega)]
          simp only [Option.bind_some, Bool.not_true]
          exact hj2 40 rfl
        · rw [if_neg hgt]; exact hj2 40 rfl
      · rw [if_neg hg]; exact hj2 40 rfl
end Go.Proofs.Yteamoejgpcognaa.Pure
