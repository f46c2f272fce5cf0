/- Go's stable sort, continued: two sorted parts made one, at any length. -/
import Derived.BigQuiet
import Derived.Outline
import Derived.Deep.DeepMust
import Derived.RegionTactic
import Derived.Test.YtjgelmfkoefclaaGivSort3
namespace Go.Proofs.Ytjgelmfkoefclaa.PAll
open Go.RowKit Go.Proofs.YtjgelmfkoefclaaW.PrintWords Go.Proofs.YtjgelmfkoefclaaW.PrintLast Go.Proofs.YtjgelmfkoefclaaW.PrintMore
set_option linter.unusedVariables false
set_option linter.unusedSimpArgs false

theorem rotate_any (g n c : Nat) (P : Int → Prop) (a m b : Nat) (a' m' b' : Int) (ea : a' = (a : Nat)) (em : m' = (m : Nat)) (eb : b' = (b : Nat)) (cmp : Value) (w : World) (hA : Ar w g n P) (h1 : a < m) (h2 : m < b) (hb : b ≤ n) (hn : n ≤ 1000000) :
    Calls Try.prog 87 #[.slice (some ⟨g, 0, none⟩) n c, .int .i64 a', .int .i64 m', .int .i64 b', cmp] w fun e w' => e = .returned (.tuple #[]) ∧ Ar w' g n P ∧ w.grownBy w' (some g) := by
  subst ea em eb
  exact rotate_calls g n c P a m b cmp w hA h1 h2 hb hn

set_option maxHeartbeats 4000000 in
set_option maxRecDepth 100000 in
theorem merge_more (g n c : Nat) (P : Int → Prop) (w0 : World) (cap : Value) (zf : Int → Int → Int) (hC : Cmp 69 cap w0 g P zf) (hn : n ≤ 1000000) (N : Nat)
    (IH : ∀ (a m b : Nat), b - a ≤ N → a < m → m < b → b ≤ n → ∀ w : World, w0.grownBy w (some g) → Ar w g n P → Calls Try.prog 83 #[.slice (some ⟨g, 0, none⟩) n c, .int .i64 a, .int .i64 m, .int .i64 b, .func (.func 69) #[] #[cap]] w fun e w' => e = .returned (.tuple #[]) ∧ Ar w' g n P ∧ w.grownBy w' (some g))
    (a m b mid L R : Nat) (w : World) (hw : w0.grownBy w (some g)) (hA : Ar w g n P) (hN : b - a ≤ N + 1) (h1 : a + 1 < m) (h2 : m + 1 < b) (hb : b ≤ n)
    (hmid : mid = (a + b) / 2) (hd : (mid < m ∧ L + b = mid + m ∧ R = mid) ∨ (m ≤ mid ∧ L = a ∧ R = m)) :
    Calls Try.prog 83 #[.slice (some ⟨g, 0, none⟩) n c, .int .i64 a, .int .i64 m, .int .i64 b, .func (.func 69) #[] #[cap]] w fun e w' => e = .returned (.tuple #[]) ∧ Ar w' g n P ∧ w.grownBy w' (some g) := by
  have HA := Aside0.mk hA
  have HC := Aside0.mk hC
  have HW := Aside0.mk hw
  have HIH := Aside0.mk IH
  have hd1 : ((m : Int) - (a : Int) == 1) = false := beq_eq_false_iff_ne.mpr (by omega)
  have hd2 : ((b : Int) - (m : Int) == 1) = false := beq_eq_false_iff_ne.mpr (by omega)
  have hL1 : a ≤ L := by omega
  have hL2 : mid + m ≤ b + L := by omega
  have hLR : L ≤ R := by omega
  have hR1 : R ≤ mid := by omega
  have hR2 : R ≤ m := by omega
  have ham : a < mid := by omega
  have hmb : mid < b := by omega
  have HMID := Aside0.mk (show ((a : Int) + (b : Int)) / 2 = (mid : Int) by omega)
  have HS := Aside0.mk (show (mid < m ∧ ((mid : Int) + (m : Int) - (b : Int)) = (L : Int) ∧ mid = R) ∨ (m ≤ mid ∧ a = L ∧ m = R) by omega)
  clear hA hC hw IH hmid hd
  go_enter Try.func83, Try.ntmps83
  go_upto_region 25 with fail
  rw [HMID.out]
  go_upto_if 140 with (fail)
  go_cut [20, 21] (fun v20 v21 w1 => v20 = .int .i64 L ∧ v21 = .int .i64 R ∧ w = w1)
  case first => as_aux_lemma =>
    rcases HS.out with ⟨q1, q2, q3⟩ | ⟨q1, q2, q3⟩
    · have hb1 : decide (mid < m) = true := decide_eq_true q1
      subst q3
      go_wp2_with fail
      go_meet
      case rel => exact ⟨rfl, rfl, rfl⟩
    · have hb1 : decide (mid < m) = false := decide_eq_false (by omega)
      subst q2 q3
      go_wp2_with fail
      go_meet
      case rel => exact ⟨rfl, rfl, rfl⟩
  case rest => as_aux_lemma =>
    obtain ⟨rfl, rfl, rfl⟩ := hcut
    go_wp2_with fail
    go_loopw [20, 21, 23] (fun v20 v21 v23 wr => ∃ s r : Nat, v20 = .int .i64 s ∧ v21 = .int .i64 r ∧ L ≤ s ∧ s ≤ r ∧ r ≤ R ∧ Aside0 (Ar wr g n P) ∧ Aside0 (w.grownBy wr (some g))) (fun v20 v21 _ _ => (intOf v21 - intOf v20).toNat)
    case atStart => exact ⟨L, R, rfl, rfl, Nat.le_refl _, hLR, Nat.le_refl _, HA, ⟨gb_refl _ _⟩⟩
    case round =>
      obtain ⟨s, r, rfl, rfl, hLs, hsr, hrR, HR, HG⟩ := hrel
      by_cases hlt : s < r
      · as_aux_lemma =>
          have hb1 : decide (s < r) = true := decide_eq_true hlt
          obtain ⟨h, hh⟩ : ∃ h : Nat, (s + r) / 2 = h := ⟨_, rfl⟩
          have hhi : ((s : Int) + (r : Int)) / 2 = (h : Int) := by omega
          have hil : s ≤ h := by omega
          have hhj : h < r := by omega
          obtain ⟨k, hk⟩ : ∃ k : Nat, k = mid + m - 1 - h := ⟨_, rfl⟩
          have hki : (mid : Int) + (m : Int) - 1 - (h : Int) = (k : Int) := by omega
          have hkn : k < n := by omega
          obtain ⟨x, hx, px, fx⟩ := HR.out.at k hkn
          obtain ⟨y, hy, py, fy⟩ := HR.out.at h (by omega)
          have q1 : (k : Int) < (n : Int) := by omega
          have q1b : decide (k < n) = true := decide_eq_true (by omega)
          have q2 : (h : Int) < (n : Int) := by omega
          have q2b : decide (h < n) = true := decide_eq_true (by omega)
          have HCX := Aside0.mk (fun k => HC.out (wr.drewN k) x y (gb_drewN (gb_trans HW.out HG.out) k) px py)
          have HHI := Aside0.mk hhi
          clear px py hhi hh hk
          by_cases hz : zf x y < 0
          all_goals
            first | (have hzb : decide (zf x y < 0) = true := decide_eq_true hz) | (have hzb : decide (zf x y < 0) = false := decide_eq_false hz)
            go_upto_region 35 with fail
            rw [HHI.out]
            go_quiet ((go_at_call 69; exact Calls.quiet_of (HCX.out _)))
            go_wp2_with fail
            go_roundw
            case rel => first | exact ⟨h + 1, r, by go_num, rfl, by omega, by omega, hrR, ⟨HR.out.drewN _⟩, ⟨gb_drewN HG.out _⟩⟩ | exact ⟨s, h, rfl, rfl, hLs, hil, by omega, ⟨HR.out.drewN _⟩, ⟨gb_drewN HG.out _⟩⟩
            case measure => simp [intOf]; omega
      · as_aux_lemma =>
          have hb1 : decide (s < r) = false := decide_eq_false hlt
          obtain ⟨e, he⟩ : ∃ e : Nat, (mid : Int) + (m : Int) - (s : Int) = (e : Int) := ⟨mid + m - s, by omega⟩
          have heb : e ≤ b := by omega
          have HE := Aside0.mk he
          clear he
          go_upto_region 39 with fail
          rw [HE.out]
          obtain ⟨bb, hbb⟩ : ∃ bb : Bool, bb = (decide (s < m) && decide (m < e)) := ⟨_, rfl⟩
          have HBB := Aside0.mk hbb
          clear hbb
          go_cut [185] (fun v w1 => v = .bool bb ∧ wr = w1)
          case first => as_aux_lemma =>
            by_cases hx : s < m
            · have hxb : decide (s < m) = true := decide_eq_true hx
              by_cases hy : m < e
              · have hyb : decide (m < e) = true := decide_eq_true hy
                go_wp2_with fail
                go_meet
                case rel => exact ⟨congrArg Value.bool (by rw [HBB.out]; simp [hx, hy]), rfl⟩
              · have hyb : decide (m < e) = false := decide_eq_false hy
                go_wp2_with fail
                go_meet
                case rel => exact ⟨congrArg Value.bool (by rw [HBB.out]; simp [hx, hy]), rfl⟩
            · have hxb : decide (s < m) = false := decide_eq_false hx
              go_wp2_with fail
              go_meet
              case rel => exact ⟨congrArg Value.bool (by rw [HBB.out]; simp [hx]), rfl⟩
          case rest => as_aux_lemma =>
            obtain ⟨rfl, rfl⟩ := hcut
            go_upto_if 185 with (fail)
            go_cut [24] (fun v24 w1 => v24 = .int .i64 e ∧ Aside0 (Ar w1 g n P) ∧ Aside0 (w.grownBy w1 (some g)))
            case first => as_aux_lemma =>
              cases bb
              · go_wp2_with fail
                go_meet
                case rel => exact ⟨rfl, HR, HG⟩
              · have hq : s < m ∧ m < e := by have := HBB.out; simpa using this
                have HS2 := Aside0.mk (rotate_any g n c P s m e s m e rfl rfl rfl (.func (.func 69) #[] #[cap]) wr HR.out hq.1 hq.2 (by omega) hn)
                go_wp2_with (go_at_call 87; go_loud ((with_reducible refine HS2.out.mono ?_); rintro _ wa ⟨rfl, ha, hg⟩; have HRA := Aside0.mk ha; have HGA := Aside0.mk hg; clear ha hg))
                go_meet
                case rel => exact ⟨rfl, HRA, ⟨gb_trans HG.out HGA.out⟩⟩
            case rest => as_aux_lemma =>
              clear HR HG HBB
              obtain ⟨rfl, HR, HG⟩ := hcut
              obtain ⟨wo, rfl⟩ : ∃ wo : World, wo = wc := ⟨_, rfl⟩
              go_upto_region 41 with fail
              obtain ⟨bb, hbb⟩ : ∃ bb : Bool, bb = (decide (a < s) && decide (s < mid)) := ⟨_, rfl⟩
              have HBB := Aside0.mk hbb
              clear hbb
              go_cut [199] (fun v w1 => v = .bool bb ∧ wo = w1)
              case first => as_aux_lemma =>
                by_cases hx : a < s
                · have hxb : decide (a < s) = true := decide_eq_true hx
                  by_cases hy : s < mid
                  · have hyb : decide (s < mid) = true := decide_eq_true hy
                    go_wp2_with fail
                    go_meet
                    case rel => exact ⟨congrArg Value.bool (by rw [HBB.out]; simp [hx, hy]), rfl⟩
                  · have hyb : decide (s < mid) = false := decide_eq_false hy
                    go_wp2_with fail
                    go_meet
                    case rel => exact ⟨congrArg Value.bool (by rw [HBB.out]; simp [hx, hy]), rfl⟩
                · have hxb : decide (a < s) = false := decide_eq_false hx
                  go_wp2_with fail
                  go_meet
                  case rel => exact ⟨congrArg Value.bool (by rw [HBB.out]; simp [hx]), rfl⟩
              case rest => as_aux_lemma =>
                obtain ⟨rfl, rfl⟩ := hcut
                go_upto_if 199 with (fail)
                go_cut [24] (fun v24 w1 => v24 = .int .i64 e ∧ Aside0 (Ar w1 g n P) ∧ Aside0 (w.grownBy w1 (some g)))
                case first => as_aux_lemma =>
                  cases bb
                  · go_wp2_with fail
                    go_meet
                    case rel => exact ⟨rfl, HR, HG⟩
                  · have hq : a < s ∧ s < mid := by have := HBB.out; simpa using this
                    have HS2 := Aside0.mk (HIH.out a s mid (by omega) hq.1 hq.2 (by omega) wo (gb_trans HW.out HG.out) HR.out)
                    go_wp2_with (go_at_call 83; go_loud ((with_reducible refine HS2.out.mono ?_); rintro _ wa ⟨rfl, ha, hg⟩; have HRA := Aside0.mk ha; have HGA := Aside0.mk hg; clear ha hg))
                    go_meet
                    case rel => exact ⟨rfl, HRA, ⟨gb_trans HG.out HGA.out⟩⟩
                case rest => as_aux_lemma =>
                  clear HR HG HBB
                  obtain ⟨rfl, HR, HG⟩ := hcut
                  obtain ⟨wp, rfl⟩ : ∃ wp : World, wp = wc := ⟨_, rfl⟩
                  go_upto_region 43 with fail
                  obtain ⟨bb, hbb⟩ : ∃ bb : Bool, bb = (decide (mid < e) && decide (e < b)) := ⟨_, rfl⟩
                  have HBB := Aside0.mk hbb
                  clear hbb
                  go_cut [213] (fun v w1 => v = .bool bb ∧ wp = w1)
                  case first => as_aux_lemma =>
                    by_cases hx : mid < e
                    · have hxb : decide (mid < e) = true := decide_eq_true hx
                      by_cases hy : e < b
                      · have hyb : decide (e < b) = true := decide_eq_true hy
                        go_wp2_with fail
                        go_meet
                        case rel => exact ⟨congrArg Value.bool (by rw [HBB.out]; simp [hx, hy]), rfl⟩
                      · have hyb : decide (e < b) = false := decide_eq_false hy
                        go_wp2_with fail
                        go_meet
                        case rel => exact ⟨congrArg Value.bool (by rw [HBB.out]; simp [hx, hy]), rfl⟩
                    · have hxb : decide (mid < e) = false := decide_eq_false hx
                      go_wp2_with fail
                      go_meet
                      case rel => exact ⟨congrArg Value.bool (by rw [HBB.out]; simp [hx]), rfl⟩
                  case rest => as_aux_lemma =>
                    obtain ⟨rfl, rfl⟩ := hcut
                    cases bb
                    · go_wp2_with fail
                      go_end0
                      exact ⟨rfl, HR.out, HG.out⟩
                    · have hq : mid < e ∧ e < b := by have := HBB.out; simpa using this
                      have HS2 := Aside0.mk (HIH.out mid e b (by omega) hq.1 hq.2 (by omega) wp (gb_trans HW.out HG.out) HR.out)
                      go_wp2_with (go_at_call 83; go_loud ((with_reducible refine HS2.out.mono ?_); rintro _ wa ⟨rfl, ha, hg⟩; have HRA := Aside0.mk ha; have HGA := Aside0.mk hg; clear ha hg))
                      go_end0
                      exact ⟨rfl, HRA.out, gb_trans HG.out HGA.out⟩
end Go.Proofs.Ytjgelmfkoefclaa.PAll
