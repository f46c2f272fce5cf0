/- Go's stable sort, whole: it ends, and the row holds what it held (by a predicate). -/
import Derived.BigQuiet
import Derived.Outline
import Derived.Deep.DeepMust
import Derived.RegionTactic
import Derived.Test.YtjgelmfkoefclaaGivSort4
namespace Go.Proofs.Ytjgelmfkoefclaa.PAll
open Go.RowKit Go.Proofs.YtjgelmfkoefclaaW.PrintWords Go.Proofs.YtjgelmfkoefclaaW.PrintLast Go.Proofs.YtjgelmfkoefclaaW.PrintMore
set_option linter.unusedVariables false
set_option linter.unusedSimpArgs false

theorem merge_calls (g n c : Nat) (P : Int → Prop) (w0 : World) (cap : Value) (zf : Int → Int → Int) (hC : Cmp 69 cap w0 g P zf) (hn : n ≤ 1000000) (N : Nat) :
    ∀ (a m b : Nat), b - a ≤ N → a < m → m < b → b ≤ n → ∀ w : World, w0.grownBy w (some g) → Ar w g n P → Calls Try.prog 83 #[.slice (some ⟨g, 0, none⟩) n c, .int .i64 a, .int .i64 m, .int .i64 b, .func (.func 69) #[] #[cap]] w fun e w' => e = .returned (.tuple #[]) ∧ Ar w' g n P ∧ w.grownBy w' (some g) := by
  induction N with
  | zero => intro a m b h1 h2 h3; omega
  | succ N ih =>
    intro a m b h1 h2 h3 h4 w hw hA
    by_cases e1 : m = a + 1
    · exact merge_one g n c P a m b w0 cap zf hC w hw hA e1 h3 h4 hn
    · by_cases e2 : b = m + 1
      · exact merge_two g n c P a m b w0 cap zf hC w hw hA e2 (by omega) h4 hn
      · by_cases e3 : (a + b) / 2 < m
        · exact merge_more g n c P w0 cap zf hC hn N ih a m b ((a + b) / 2) ((a + b) / 2 + m - b) ((a + b) / 2) w hw hA h1 (by omega) (by omega) h4 rfl (.inl ⟨e3, by omega, rfl⟩)
        · exact merge_more g n c P w0 cap zf hC hn N ih a m b ((a + b) / 2) a m w hw hA h1 (by omega) (by omega) h4 rfl (.inr ⟨by omega, rfl, rfl⟩)

theorem merge_any (g n c : Nat) (P : Int → Prop) (w0 : World) (cap : Value) (zf : Int → Int → Int) (hC : Cmp 69 cap w0 g P zf) (hn : n ≤ 1000000) (a m b : Nat) (a' m' b' : Int) (ea : a' = (a : Nat)) (em : m' = (m : Nat)) (eb : b' = (b : Nat)) (h1 : a < m) (h2 : m < b) (h3 : b ≤ n) (w : World) (hw : w0.grownBy w (some g)) (hA : Ar w g n P) :
    Calls Try.prog 83 #[.slice (some ⟨g, 0, none⟩) n c, .int .i64 a', .int .i64 m', .int .i64 b', .func (.func 69) #[] #[cap]] w fun e w' => e = .returned (.tuple #[]) ∧ Ar w' g n P ∧ w.grownBy w' (some g) := by
  subst ea em eb
  exact merge_calls g n c P w0 cap zf hC hn (b - a) a m b (Nat.le_refl _) h1 h2 h3 w hw hA

set_option maxHeartbeats 4000000 in
set_option maxRecDepth 100000 in
theorem stable_calls (g n c : Nat) (P : Int → Prop) (w0 : World) (cap : Value) (zf : Int → Int → Int) (hC : Cmp 69 cap w0 g P zf) (hn : n ≤ 1000000) (w : World) (hw : w0.grownBy w (some g)) (hA : Ar w g n P) :
    Calls Try.prog 77 #[.slice (some ⟨g, 0, none⟩) n c, .int .i64 n, .func (.func 69) #[] #[cap]] w fun e w' => e = .returned (.tuple #[]) ∧ Ar w' g n P ∧ w.grownBy w' (some g) := by
  have HA := Aside0.mk hA
  have HC := Aside0.mk hC
  have HW := Aside0.mk hw
  clear hA hC hw
  go_enter Try.func77, Try.ntmps77
  go_wp2_with fail
  go_loopw [7, 8] (fun v7 v8 wr => ∃ i j : Nat, v7 = .int .i64 i ∧ v8 = .int .i64 j ∧ i + 20 ≤ j ∧ j ≤ i + 20 ∧ i ≤ n ∧ Aside0 (Ar wr g n P) ∧ Aside0 (w.grownBy wr (some g))) (fun v7 _ _ => n - (intOf v7).toNat)
  case atStart => exact ⟨0, 20, rfl, rfl, by omega, by omega, by omega, HA, ⟨gb_refl _ _⟩⟩
  case round =>
    obtain ⟨i, j, rfl, rfl, hj1, hj2, hin, HR, HG⟩ := hrel
    by_cases hlt : j ≤ n
    · as_aux_lemma =>
        have hb1 : decide (j ≤ n) = true := decide_eq_true hlt
        have HS := Aside0.mk (insertion_calls g n c P i j w0 cap zf HC.out wr (gb_trans HW.out HG.out) HR.out hlt hn (by omega))
        go_wp2_with (go_at_call 82; go_loud ((with_reducible refine HS.out.mono ?_); rintro _ wa ⟨rfl, ha, hg⟩; have HRA := Aside0.mk ha; have HGA := Aside0.mk hg; clear ha hg))
        go_roundw
        case rel => exact ⟨j, j + 20, rfl, by go_num, by omega, by omega, by omega, HRA, ⟨gb_trans HG.out HGA.out⟩⟩
        case measure => simp [intOf]; omega
    · as_aux_lemma =>
        have hb1 : decide (j ≤ n) = false := decide_eq_false hlt
        have HS := Aside0.mk (insertion_calls g n c P i n w0 cap zf HC.out wr (gb_trans HW.out HG.out) HR.out (Nat.le_refl _) hn (by omega))
        obtain ⟨wo, rfl⟩ : ∃ wo : World, wo = wr := ⟨_, rfl⟩
        go_wp2_with (go_at_call 82; go_loud ((with_reducible refine HS.out.mono ?_); rintro _ wa ⟨rfl, ha, hg⟩; have HRA := Aside0.mk ha; have HGA := Aside0.mk (gb_trans HG.out hg); clear ha hg))
        clear HR HG HA
        go_loopw [6, 7, 8, 9] (fun v6 _ _ _ wr => ∃ k : Nat, v6 = .int .i64 k ∧ 1 ≤ k ∧ k ≤ 2000000 ∧ Aside0 (Ar wr g n P) ∧ Aside0 (w.grownBy wr (some g))) (fun v6 _ _ _ _ => n - (intOf v6).toNat)
        case atStart => exact ⟨20, rfl, by omega, by omega, HRA, HGA⟩
        case round =>
          obtain ⟨k, rfl, hk1, hk2, HRB, HGB⟩ := hrel
          clear HRA HGA HS
          obtain ⟨wp, rfl⟩ : ∃ wp : World, wp = wr := ⟨_, rfl⟩
          by_cases hkn : k < n
          · as_aux_lemma =>
              have hb2 : decide (k < n) = true := decide_eq_true hkn
              go_wp2_with fail
              go_loopw [7, 8] (fun v7 v8 wr => ∃ i j : Nat, v7 = .int .i64 i ∧ v8 = .int .i64 j ∧ i + 2 * k ≤ j ∧ j ≤ i + 2 * k ∧ i ≤ n ∧ Aside0 (Ar wr g n P) ∧ Aside0 (w.grownBy wr (some g))) (fun v7 _ _ => n - (intOf v7).toNat)
              case atStart => exact ⟨0, 2 * k, rfl, by go_num, by omega, by omega, by omega, HRB, HGB⟩
              case round =>
                obtain ⟨i, j, rfl, rfl, hj1, hj2, hin, HR, HG⟩ := hrel
                clear HRB HGB
                by_cases hlt : j ≤ n
                · as_aux_lemma =>
                    have hb1 : decide (j ≤ n) = true := decide_eq_true hlt
                    have HS := Aside0.mk (merge_any g n c P w0 cap zf HC.out hn i (i + k) j i ((i : Int) + (k : Int)) j rfl (by omega) rfl (by omega) (by omega) hlt wr (gb_trans HW.out HG.out) HR.out)
                    go_wp2_with (go_at_call 83; go_loud ((with_reducible refine HS.out.mono ?_); rintro _ wa ⟨rfl, ha, hg⟩; have HRA := Aside0.mk ha; have HGA := Aside0.mk hg; clear ha hg))
                    go_roundw
                    case rel => exact ⟨j, j + 2 * k, rfl, by go_num, by omega, by omega, by omega, HRA, ⟨gb_trans HG.out HGA.out⟩⟩
                    case measure => simp [intOf]; omega
                · as_aux_lemma =>
                    have hb1 : decide (j ≤ n) = false := decide_eq_false hlt
                    by_cases hm : i + k < n
                    · have hmb : decide ((i : Int) + (k : Int) < (n : Int)) = true := decide_eq_true (by omega)
                      have HS := Aside0.mk (merge_any g n c P w0 cap zf HC.out hn i (i + k) n i ((i : Int) + (k : Int)) n rfl (by omega) rfl (by omega) hm (Nat.le_refl _) wr (gb_trans HW.out HG.out) HR.out)
                      go_wp2_with (go_at_call 83; go_loud ((with_reducible refine HS.out.mono ?_); rintro _ wa ⟨rfl, ha, hg⟩; have HRA := Aside0.mk ha; have HGA := Aside0.mk hg; clear ha hg))
                      go_roundw
                      case rel => exact ⟨k * 2, by go_num, by omega, by omega, HRA, ⟨gb_trans HG.out HGA.out⟩⟩
                      case measure => simp [intOf]; omega
                    · have hmb : decide ((i : Int) + (k : Int) < (n : Int)) = false := decide_eq_false (by omega)
                      go_wp2_with fail
                      go_roundw
                      case rel => exact ⟨k * 2, by go_num, by omega, by omega, HR, HG⟩
                      case measure => simp [intOf]; omega
          · as_aux_lemma =>
              have hb2 : decide (k < n) = false := decide_eq_false hkn
              go_wp2_with fail
              go_end0
              exact ⟨rfl, HRB.out, HGB.out⟩

set_option maxHeartbeats 2000000 in
set_option maxRecDepth 100000 in
theorem sort_calls (g n c : Nat) (P : Int → Prop) (w0 : World) (cap : Value) (zf : Int → Int → Int) (hC : Cmp 69 cap w0 g P zf) (hn : n ≤ 1000000) (w : World) (hw : w0.grownBy w (some g)) (hA : Ar w g n P) :
    Calls Try.prog 68 #[.slice (some ⟨g, 0, none⟩) n c, .func (.func 69) #[] #[cap]] w fun e w' => e = .returned (.tuple #[]) ∧ Ar w' g n P ∧ w.grownBy w' (some g) := by
  have HS := Aside0.mk (stable_calls g n c P w0 cap zf hC hn w hw hA)
  clear hA hC hw
  go_enter Try.func68, Try.ntmps68
  go_wp2_with (go_at_call 77; go_loud ((with_reducible refine HS.out.mono ?_); rintro _ wa ⟨rfl, ha, hg⟩; have HRA := Aside0.mk ha; have HGA := Aside0.mk hg; clear ha hg))
  go_end0
  exact ⟨rfl, HRA.out, HGA.out⟩
end Go.Proofs.Ytjgelmfkoefclaa.PAll
