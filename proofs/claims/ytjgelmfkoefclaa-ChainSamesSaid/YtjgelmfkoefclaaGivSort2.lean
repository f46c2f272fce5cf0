/- Go's stable sort, continued: a row's two parts changed about. -/
import Derived.BigQuiet
import Derived.Outline
import Derived.Deep.DeepMust
import Derived.RegionTactic
import Derived.Test.YtjgelmfkoefclaaBase
import Derived.Test.YtjgelmfkoefclaaBasd
namespace Go.Proofs.Ytjgelmfkoefclaa.PAll
open Go.RowKit Go.Proofs.YtjgelmfkoefclaaW.PrintWords Go.Proofs.YtjgelmfkoefclaaW.PrintLast Go.Proofs.YtjgelmfkoefclaaW.PrintMore
set_option linter.unusedVariables false
set_option linter.unusedSimpArgs false

set_option maxHeartbeats 2000000 in
set_option maxRecDepth 100000 in
theorem rotate_calls (g n c : Nat) (P : Int → Prop) (a m b : Nat) (cmp : Value) (w : World) (hA : Ar w g n P) (h1 : a < m) (h2 : m < b) (hb : b ≤ n) (hn : n ≤ 1000000) :
    Calls Try.prog 87 #[.slice (some ⟨g, 0, none⟩) n c, .int .i64 a, .int .i64 m, .int .i64 b, cmp] w fun e w' => e = .returned (.tuple #[]) ∧ Ar w' g n P ∧ w.grownBy w' (some g) := by
  have HA := Aside0.mk hA
  clear hA
  go_enter Try.func87, Try.ntmps87
  go_wp2_with fail
  go_loopw [10, 11] (fun v10 v11 wr => ∃ i j : Nat, v10 = .int .i64 i ∧ v11 = .int .i64 j ∧ 0 < i ∧ 0 < j ∧ i + a ≤ m ∧ m + j ≤ b ∧ Aside0 (Ar wr g n P) ∧ Aside0 (w.grownBy wr (some g))) (fun v10 v11 _ => (intOf v10).toNat + (intOf v11).toNat)
  case atStart => exact ⟨m - a, b - m, congrArg (Value.int .i64) (by omega), congrArg (Value.int .i64) (by omega), by omega, by omega, by omega, by omega, HA, ⟨gb_refl _ _⟩⟩
  case round =>
    obtain ⟨i, j, rfl, rfl, hi, hj, hia, hjb, HR, HG⟩ := hrel
    by_cases hij : i = j
    · have hb1 : ((i : Int) != (j : Int)) = false := bne_eq_false_iff_eq.mpr (by omega)
      have hb2 : ((i : Int) == (j : Int)) = true := beq_iff_eq.mpr (by omega)
      subst hij
      have HS := Aside0.mk (swapRange_any g n c P (m - i) m i ((m : Int) - (i : Int)) m i (by omega) rfl rfl cmp wr HR.out (by omega) (by omega) (by omega) hn)
      go_wp2_with (go_at_call 89; go_loud ((with_reducible refine HS.out.mono ?_); rintro _ wa ⟨rfl, ha, hg⟩; have HRA := Aside0.mk ha; have HGA := Aside0.mk hg; clear ha hg))
      go_end0
      exact ⟨rfl, HRA.out, gb_trans HG.out HGA.out⟩
    · have hb1 : ((i : Int) != (j : Int)) = true := bne_iff_ne.mpr (by omega)
      have hb2 : ((i : Int) == (j : Int)) = false := beq_eq_false_iff_ne.mpr (by omega)
      by_cases hgt : j < i
      · have hb3 : decide (j < i) = true := decide_eq_true hgt
        have HS := Aside0.mk (swapRange_any g n c P (m - i) m j ((m : Int) - (i : Int)) m j (by omega) rfl rfl cmp wr HR.out (by omega) (by omega) (by omega) hn)
        go_wp2_with (go_at_call 89; go_loud ((with_reducible refine HS.out.mono ?_); rintro _ wa ⟨rfl, ha, hg⟩; have HRA := Aside0.mk ha; have HGA := Aside0.mk hg; clear ha hg))
        go_roundw
        case rel => exact ⟨i - j, j, congrArg (Value.int .i64) (by omega), rfl, by omega, hj, by omega, hjb, HRA, ⟨gb_trans HG.out HGA.out⟩⟩
        case measure => simp [intOf]; omega
      · have hb3 : decide (j < i) = false := decide_eq_false hgt
        have HS := Aside0.mk (swapRange_any g n c P (m - i) (m + j - i) i ((m : Int) - (i : Int)) ((m : Int) + (j : Int) - (i : Int)) i (by omega) (by omega) rfl cmp wr HR.out (by omega) (by omega) (by omega) hn)
        go_wp2_with (go_at_call 89; go_loud ((with_reducible refine HS.out.mono ?_); rintro _ wa ⟨rfl, ha, hg⟩; have HRA := Aside0.mk ha; have HGA := Aside0.mk hg; clear ha hg))
        go_roundw
        case rel => exact ⟨i, j - i, rfl, congrArg (Value.int .i64) (by omega), hi, by omega, hia, by omega, HRA, ⟨gb_trans HG.out HGA.out⟩⟩
        case measure => simp [intOf]; omega
end Go.Proofs.Ytjgelmfkoefclaa.PAll
