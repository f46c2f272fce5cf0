import Derived.Test.YteamoejgpcognaaPAllx0
namespace Go.Proofs.Yteamoejgpcognaa.PAll
open Go.RowKit Go.Proofs.YteamoejgpcognaaW.PrintWords Go.Proofs.YteamoejgpcognaaW.PrintLast Go.Proofs.YteamoejgpcognaaW.PrintMore
set_option linter.unusedVariables false
set_option linter.unusedSimpArgs false
set_option maxHeartbeats 400000 in
/-- At most 60 generations. -/
theorem few_calls (A : Option Addr) (c : Nat) (l : List S50) (w : World) (hc : l.length ≤ c) :
    Calls Try.prog 20 #[.slice A l.length c] w fun e w' => e = .returned (.slice A (l.take 60).length c) ∧ w = w' := by
  obtain ⟨i0, hi0, _, _, _⟩ := info_parts info50
  by_cases h : 60 < l.length
  · have h1 : decide (60 < l.length) = true := decide_eq_true h
    have hl : (l.take 60).length = 60 := by rw [List.length_take]; omega
    rw [hl]
    have hcut := cut_to (P := Try.prog) 33 50 .i64 Try.underlying33 hi0 A l.length c 60 (by omega) (by omega) hc
    go_enter Try.func20, Try.ntmps20
    go_wp2
    go_ret
    exact ⟨rfl, rfl⟩
  · have hl : (l.take 60).length = l.length := by rw [List.length_take]; omega
    rw [hl]
    go_enter Try.func20, Try.ntmps20
    go_wp2
    go_ret
    exact ⟨rfl, rfl⟩
end Go.Proofs.Yteamoejgpcognaa.PAll
