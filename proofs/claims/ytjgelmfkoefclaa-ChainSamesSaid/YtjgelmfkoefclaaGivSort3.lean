/- Go's stable sort, continued: two sorted parts made one. -/
import Derived.BigQuiet
import Derived.Outline
import Derived.Deep.DeepMust
import Derived.RegionTactic
import Derived.Test.YtjgelmfkoefclaaGivSort2
namespace Go.Proofs.Ytjgelmfkoefclaa.PAll
open Go.RowKit Go.Proofs.YtjgelmfkoefclaaW.PrintWords Go.Proofs.YtjgelmfkoefclaaW.PrintLast Go.Proofs.YtjgelmfkoefclaaW.PrintMore
set_option linter.unusedVariables false
set_option linter.unusedSimpArgs false


set_option maxHeartbeats 2000000 in
set_option maxRecDepth 100000 in
theorem merge_one (g n c : Nat) (P : Int → Prop) (a m b : Nat) (w0 : World) (cap : Value) (zf : Int → Int → Int) (hC : Cmp 69 cap w0 g P zf) (w : World) (hw : w0.grownBy w (some g)) (hA : Ar w g n P) (h1 : m = a + 1) (h2 : m < b) (hb : b ≤ n) (hn : n ≤ 1000000) :
    Calls Try.prog 83 #[.slice (some ⟨g, 0, none⟩) n c, .int .i64 a, .int .i64 m, .int .i64 b, .func (.func 69) #[] #[cap]] w fun e w' => e = .returned (.tuple #[]) ∧ Ar w' g n P ∧ w.grownBy w' (some g) := by
  have HA := Aside0.mk hA
  have HC := Aside0.mk hC
  have HW := Aside0.mk hw
  have hd : ((m : Int) - (a : Int) == 1) = true := beq_iff_eq.mpr (by omega)
  have H1 := Aside0.mk h1
  have hma : m ≤ a + 1 := by omega
  have ham : a < m := by omega
  clear hA hC hw h1
  go_enter Try.func83, Try.ntmps83
  go_wp2_with fail
  go_loopw [10, 11] (fun v10 v11 wr => ∃ i j : Nat, v10 = .int .i64 i ∧ v11 = .int .i64 j ∧ m ≤ i ∧ i ≤ j ∧ j ≤ b ∧ Aside0 (Ar wr g n P) ∧ Aside0 (w.grownBy wr (some g))) (fun v10 v11 _ => (intOf v11 - intOf v10).toNat)
  case atStart => exact ⟨m, b, rfl, rfl, Nat.le_refl _, by omega, Nat.le_refl _, HA, ⟨gb_refl _ _⟩⟩
  case round =>
    obtain ⟨i, j, rfl, rfl, him, hij, hjb, HR, HG⟩ := hrel
    by_cases hlt : i < j
    · have hb1 : decide (i < j) = true := decide_eq_true hlt
      obtain ⟨h, hh⟩ : ∃ h : Nat, (i + j) / 2 = h := ⟨_, rfl⟩
      have hhi : ((i : Int) + (j : Int)) / 2 = (h : Int) := by omega
      have hil : i ≤ h := by omega
      have hhj : h < j := by omega
      obtain ⟨x, hx, px, fx⟩ := HR.out.at h (by omega)
      obtain ⟨y, hy, py, fy⟩ := HR.out.at a (by omega)
      have q1 : (h : Int) < (n : Int) := by omega
      have q2 : (a : Int) < (n : Int) := by omega
      have q1b : decide (h < n) = true := decide_eq_true (by omega)
      have q2b : decide (a < n) = true := decide_eq_true (by omega)
      have HCX := Aside0.mk (fun k => HC.out (wr.drewN k) x y (gb_drewN (gb_trans HW.out HG.out) k) px py)
      have HHI := Aside0.mk hhi
      clear px py hhi hh
      by_cases hz : zf x y < 0
      all_goals
        first | (have hzb : decide (zf x y < 0) = true := decide_eq_true hz) | (have hzb : decide (zf x y < 0) = false := decide_eq_false hz)
        go_upto_region 5 with fail
        rw [HHI.out]
        go_quiet ((go_at_call 69; exact Calls.quiet_of (HCX.out _)))
        go_wp2_with fail
        go_roundw
        case rel => first | exact ⟨h + 1, j, by go_num, rfl, by omega, by omega, hjb, ⟨HR.out.drewN _⟩, ⟨gb_drewN HG.out _⟩⟩ | exact ⟨i, h, rfl, rfl, him, hil, by omega, ⟨HR.out.drewN _⟩, ⟨gb_drewN HG.out _⟩⟩
        case measure => simp [intOf]; omega
    · have hb1 : decide (i < j) = false := decide_eq_false hlt
      have hej : i = j := by omega
      subst hej
      obtain ⟨wo, rfl⟩ : ∃ wo : World, wo = wr := ⟨_, rfl⟩
      go_wp2_with fail
      go_loopw [13] (fun v13 wr => ∃ k : Nat, v13 = .int .i64 k ∧ a ≤ k ∧ k ≤ i ∧ Aside0 (Ar wr g n P) ∧ Aside0 (w.grownBy wr (some g))) (fun v13 _ => i - (intOf v13).toNat)
      case atStart => exact ⟨a, rfl, Nat.le_refl _, by omega, HR, HG⟩
      case round =>
        obtain ⟨k, rfl, hak, hki, HRI, HGI⟩ := hrel
        by_cases hkl : k + 1 < i
        · have hb2 : decide ((k : Int) < (i : Int) - 1) = true := decide_eq_true (by omega)
          obtain ⟨x, hx, px, fx⟩ := HRI.out.at k (by omega)
          obtain ⟨y, hy, py, fy⟩ := HRI.out.at (k + 1) (by omega)
          have q1 : (0 : Int) ≤ (k : Int) + 1 := by omega
          have q2 : (k : Int) + 1 < (n : Int) := by omega
          have q3 : (0 : Int) ≤ (k : Int) := by omega
          have q4 : (k : Int) < (n : Int) := by omega
          have hne1 : ¬ k + 1 = k := by omega
          have hne2 : ¬ k = k + 1 := by omega
          have HPX := Aside0.mk px
          have HPY := Aside0.mk py
          clear px py
          go_wp2_with fail
          go_region
          all_goals
            go_wp2_with fail
            go_roundw
            case rel => exact ⟨k + 1, by go_num, by omega, by omega, ⟨(HRI.out.drew.set k (by omega) y HPY.out).set (k + 1) (by omega) x HPX.out⟩, ⟨gb_trans (gb_trans (gb_drew HGI.out) (gb_setg _ _ _ _)) (gb_setg _ _ _ _)⟩⟩
            case measure => simp [intOf]; omega
        · have hb2 : decide ((k : Int) < (i : Int) - 1) = false := decide_eq_false (by omega)
          go_wp2_with fail
          refine bodyPost_ret (results_none rfl _ _ _) rfl ?_
          exact ⟨rfl, HRI.out, HGI.out⟩

set_option maxHeartbeats 2000000 in
set_option maxRecDepth 100000 in
theorem merge_two (g n c : Nat) (P : Int → Prop) (a m b : Nat) (w0 : World) (cap : Value) (zf : Int → Int → Int) (hC : Cmp 69 cap w0 g P zf) (w : World) (hw : w0.grownBy w (some g)) (hA : Ar w g n P) (h1 : b = m + 1) (h2 : a + 1 < m) (hb : b ≤ n) (hn : n ≤ 1000000) :
    Calls Try.prog 83 #[.slice (some ⟨g, 0, none⟩) n c, .int .i64 a, .int .i64 m, .int .i64 b, .func (.func 69) #[] #[cap]] w fun e w' => e = .returned (.tuple #[]) ∧ Ar w' g n P ∧ w.grownBy w' (some g) := by
  have HA := Aside0.mk hA
  have HC := Aside0.mk hC
  have HW := Aside0.mk hw
  have hd : ((m : Int) - (a : Int) == 1) = false := beq_eq_false_iff_ne.mpr (by omega)
  have hd2 : ((b : Int) - (m : Int) == 1) = true := beq_iff_eq.mpr (by omega)
  have H1 := Aside0.mk h1
  have hbm : b ≤ m + 1 := by omega
  have hmb : m < b := by omega
  have ham : a < m := by omega
  clear hA hC hw h1
  go_enter Try.func83, Try.ntmps83
  go_wp2_with fail
  go_loopw [14, 15] (fun v10 v11 wr => ∃ i j : Nat, v10 = .int .i64 i ∧ v11 = .int .i64 j ∧ a ≤ i ∧ i ≤ j ∧ j ≤ m ∧ Aside0 (Ar wr g n P) ∧ Aside0 (w.grownBy wr (some g))) (fun v10 v11 _ => (intOf v11 - intOf v10).toNat)
  case atStart => exact ⟨a, m, rfl, rfl, Nat.le_refl _, by omega, Nat.le_refl _, HA, ⟨gb_refl _ _⟩⟩
  case round =>
    obtain ⟨i, j, rfl, rfl, him, hij, hjb, HR, HG⟩ := hrel
    by_cases hlt : i < j
    · have hb1 : decide (i < j) = true := decide_eq_true hlt
      obtain ⟨h, hh⟩ : ∃ h : Nat, (i + j) / 2 = h := ⟨_, rfl⟩
      have hhi : ((i : Int) + (j : Int)) / 2 = (h : Int) := by omega
      have hil : i ≤ h := by omega
      have hhj : h < j := by omega
      obtain ⟨x, hx, px, fx⟩ := HR.out.at m (by omega)
      obtain ⟨y, hy, py, fy⟩ := HR.out.at h (by omega)
      have q1 : (h : Int) < (n : Int) := by omega
      have q2 : (m : Int) < (n : Int) := by omega
      have q1b : decide (h < n) = true := decide_eq_true (by omega)
      have q2b : decide (m < n) = true := decide_eq_true (by omega)
      have HCX := Aside0.mk (fun k => HC.out (wr.drewN k) x y (gb_drewN (gb_trans HW.out HG.out) k) px py)
      have HHI := Aside0.mk hhi
      clear px py hhi hh
      by_cases hz : zf x y < 0
      all_goals
        first | (have hzb : decide (zf x y < 0) = true := decide_eq_true hz) | (have hzb : decide (zf x y < 0) = false := decide_eq_false hz)
        go_upto_region 17 with fail
        rw [HHI.out]
        go_quiet ((go_at_call 69; exact Calls.quiet_of (HCX.out _)))
        go_wp2_with fail
        go_roundw
        case rel => first | exact ⟨h + 1, j, by go_num, rfl, by omega, by omega, hjb, ⟨HR.out.drewN _⟩, ⟨gb_drewN HG.out _⟩⟩ | exact ⟨i, h, rfl, rfl, him, hil, by omega, ⟨HR.out.drewN _⟩, ⟨gb_drewN HG.out _⟩⟩
        case measure => simp [intOf]; omega
    · have hb1 : decide (i < j) = false := decide_eq_false hlt
      have hej : i = j := by omega
      subst hej
      obtain ⟨wo, rfl⟩ : ∃ wo : World, wo = wr := ⟨_, rfl⟩
      go_wp2_with fail
      go_loopw [17] (fun v17 wr => ∃ k : Nat, v17 = .int .i64 k ∧ i ≤ k ∧ k ≤ m ∧ Aside0 (Ar wr g n P) ∧ Aside0 (w.grownBy wr (some g))) (fun v17 _ => (intOf v17).toNat)
      case atStart => exact ⟨m, rfl, hjb, Nat.le_refl _, HR, HG⟩
      case round =>
        obtain ⟨k, rfl, hik, hkm, HRI, HGI⟩ := hrel
        by_cases hkl : i < k
        · have hb2 : decide (i < k) = true := decide_eq_true hkl
          obtain ⟨k1, rfl⟩ : ∃ k1, k = k1 + 1 := ⟨k - 1, by omega⟩
          have hb3 : decide ((i : Int) < (k1 : Int) + 1) = true := decide_eq_true (by omega)
          obtain ⟨x, hx, px, fx⟩ := HRI.out.at (k1 + 1) (by omega)
          obtain ⟨y, hy, py, fy⟩ := HRI.out.at k1 (by omega)
          have q1 : (0 : Int) ≤ (k1 : Int) + 1 := by omega
          have q2 : (k1 : Int) + 1 < (n : Int) := by omega
          have q3 : (0 : Int) ≤ (k1 : Int) := by omega
          have q4 : (k1 : Int) < (n : Int) := by omega
          have hne1 : ¬ k1 + 1 = k1 := by omega
          have hne2 : ¬ k1 = k1 + 1 := by omega
          have HPX := Aside0.mk px
          have HPY := Aside0.mk py
          clear px py
          go_wp2_with fail
          go_region
          all_goals
            go_wp2_with fail
            go_roundw
            case rel => exact ⟨k1, rfl, by omega, by omega, ⟨(HRI.out.drew.set (k1 + 1) (by omega) y HPY.out).set k1 (by omega) x HPX.out⟩, ⟨gb_trans (gb_trans (gb_drew HGI.out) (gb_setg _ _ _ _)) (gb_setg _ _ _ _)⟩⟩
            case measure => simp [intOf]
        · have hb2 : decide (i < k) = false := decide_eq_false hkl
          go_wp2_with fail
          refine bodyPost_ret (results_none rfl _ _ _) rfl ?_
          exact ⟨rfl, HRI.out, HGI.out⟩
end Go.Proofs.Ytjgelmfkoefclaa.PAll
