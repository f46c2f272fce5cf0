/- Light texts of this session, joined by wip/tools/base.py. -/
import Derived.Test.YtjgelmfkoefclaaBase
import Derived.Test.YtjgelmfkoefclaaPAllx0
import Derived.Test.YtjgelmfkoefclaaGivLaid
import Derived.Test.YtjgelmfkoefclaaGivSearch
import Derived.Test.YtjgelmfkoefclaaPAllx11
import Derived.Maps.OwnSet
import Derived.Maps.Ext
import Derived.StringKeys
import Derived.Deep.AppendSrc
import Derived.Lib.SlBytesRow
import Derived.Laws.IdiomCopy
import Derived.OrdersHeld
import Derived.Deep.RegionHeld
import Derived.StillTail
import Derived.Deep.RegionLaw
import Derived.Outline
import Derived.Deep.DeepMust
import Derived.RegionTactic
import Derived.ChangeAlike
import Derived.BigQuiet
-- from PAllx28
-- Written by a program of this session (wip/tools/hookprint.py, over the print); Lean checks it.
namespace Go.Proofs.Ytjgelmfkoefclaa.PAll
open Go.RowKit Go.Proofs.YtjgelmfkoefclaaW.PrintWords Go.Proofs.YtjgelmfkoefclaaW.PrintLast Go.Proofs.YtjgelmfkoefclaaW.PrintMore
attribute [local go_sem] max2_int min2_int max_two min_two max_three min_three max_four min_four   -- for this text's walks alone
set_option linter.unusedVariables false
set_option linter.unusedSimpArgs false

/-! ### barquelaw07_few: function 19 -/
mutual
def barquelaw07_few.l0 : Nat → List ByteArray → List ByteArray → Int → Option (List ByteArray)
  | 0, _, _, _ => none
  | k + 1, x0, x3, x4 => if x4 < (x0.length : Int) then (barquelaw07_few.j1 k x0 x3 x4 (decide (x4 < 6))) else (barquelaw07_few.j1 k x0 x3 x4 false)
def barquelaw07_few.j1 : Nat → List ByteArray → List ByteArray → Int → Bool → Option (List ByteArray)
  | 0, _, _, _, _ => none
  | k + 1, x0, x3, x4, x13 => if x13 = true then (if 0 ≤ x4 then (if x4 < (x0.length : Int) then (if ((rdOf ByteArray.empty x0 x4).size : Int) > 1000 then (if 0 ≤ 1000 then (if 1000 ≤ ((rdOf ByteArray.empty x0 x4).size : Int) then (if x3.length < 8796093022208 then (barquelaw07_few.l0 k x0 (x3 ++ [(rdOf ByteArray.empty x0 x4).extract 0 1000]) (wrap64 (x4 + 1))) else (none)) else (none)) else (none)) else (if x3.length < 8796093022208 then (barquelaw07_few.l0 k x0 (x3 ++ [rdOf ByteArray.empty x0 x4]) (wrap64 (x4 + 1))) else (none))) else (none)) else (none)) else (some x3)
end
def barquelaw07_few.f (k : Nat) (l0 : List ByteArray) : Option (List ByteArray) := barquelaw07_few.l0 k l0 ([] : List ByteArray) 0
theorem barquelaw07_few.mono_l : ∀ k, (∀ y0 y1 y2, LeO (barquelaw07_few.l0 k y0 y1 y2) (barquelaw07_few.l0 (k + 1) y0 y1 y2)) ∧ (∀ y0 y1 y2 y3, LeO (barquelaw07_few.j1 k y0 y1 y2 y3) (barquelaw07_few.j1 (k + 1) y0 y1 y2 y3))
  | 0 => ⟨fun _ _ _ r h => by simp [barquelaw07_few.l0] at h, fun _ _ _ _ r h => by simp [barquelaw07_few.j1] at h⟩
  | k + 1 => by
    obtain ⟨ih0, ih1⟩ := barquelaw07_few.mono_l k
    refine ⟨?_, ?_⟩
    · intro y0 y1 y2
      unfold barquelaw07_few.l0
      repeat' first
      | (with_reducible exact ih0 _ _ _)
      | (with_reducible exact ih1 _ _ _ _)
      | (with_reducible exact LeO.refl _)
      | (with_reducible exact LeO.none _)
      | (with_reducible refine LeO.ite ?_ ?_)
      | (with_reducible refine LeO.bind ?_ (fun _ => ?_))
      | exact ih0 _ _ _
      | exact ih1 _ _ _ _
      | exact LeO.none _
      | refine LeO.ite ?_ ?_
      | refine LeO.bind ?_ (fun _ => ?_)
    · intro y0 y1 y2 y3
      unfold barquelaw07_few.j1
      repeat' first
      | (with_reducible exact ih0 _ _ _)
      | (with_reducible exact ih1 _ _ _ _)
      | (with_reducible exact LeO.refl _)
      | (with_reducible exact LeO.none _)
      | (with_reducible refine LeO.ite ?_ ?_)
      | (with_reducible refine LeO.bind ?_ (fun _ => ?_))
      | exact ih0 _ _ _
      | exact ih1 _ _ _ _
      | exact LeO.none _
      | refine LeO.ite ?_ ?_
      | refine LeO.bind ?_ (fun _ => ?_)
theorem barquelaw07_few.mono : ∀ a0 k, LeO (barquelaw07_few.f k a0) (barquelaw07_few.f (k + 1) a0) := by
  intro a0 k
  obtain ⟨ih0, ih1⟩ := barquelaw07_few.mono_l k
  unfold barquelaw07_few.f
  repeat' first
      | (with_reducible exact ih0 _ _ _)
      | (with_reducible exact ih1 _ _ _ _)
      | (with_reducible exact LeO.refl _)
      | (with_reducible exact LeO.none _)
      | (with_reducible refine LeO.ite ?_ ?_)
      | (with_reducible refine LeO.bind ?_ (fun _ => ?_))
      | exact ih0 _ _ _
      | exact ih1 _ _ _ _
      | exact LeO.none _
      | refine LeO.ite ?_ ?_
      | refine LeO.bind ?_ (fun _ => ?_)
set_option maxHeartbeats 8000000 in
set_option maxRecDepth 100000 in
theorem barquelaw07_few.calls (k : Nat) (A0 : Option Addr) (c0 : Nat) (l0 : List ByteArray) (r : List ByteArray) (w : World) (hr0 : Kd.C Kd.string w A0 l0.length l0) (hc0 : l0.length ≤ c0) (h : barquelaw07_few.f k l0 = some r) :
    Calls Try.prog 19 #[.slice A0 l0.length c0] w fun e w' => ∃ v0_ : Value, e = .returned (v0_) ∧ Kd.R Kd.string 9 w' w.heap.size (fun _ => True) v0_ r ∧ Below w.heap.size w w' := by
  have HR0 := Aside0.mk hr0
  have HC0 := Aside0.mk hc0
  clear hr0 hc0
  have HB := Aside0.mk (Below.refl w.heap.size w)
  have H : (barquelaw07_few.l0 k l0 ([] : List ByteArray) 0) = some r := h
  clear h
  have H' := Aside0.mk H
  clear H
  go_enter Try.func19, Try.ntmps19
  go_wp2
  go_loopg [3, 4] k (fun kq v3 v4 w' => ∃ (x3_1 : List ByteArray) (x4_1 : Int), v4 = .int .i64 x4_1 ∧ Aside0 (barquelaw07_few.l0 kq l0 x3_1 x4_1 = some r) ∧ Aside0 (kq ≤ k) ∧ Aside0 (Kd.R Kd.string 9 w' w.heap.size (fun _ => True) v3 x3_1) ∧ Aside0 (Below w.heap.size w w'))
  case atStart => exact ⟨(([] : List ByteArray)), (0), (by first | rfl | (simp; done) | (simp [*]; done)), H', ⟨Nat.le_refl _⟩, ⟨by first | exact Kd.R_nil _ _ _ _ _ | exact Kd.N_nil _ _ _ _ _ | exact Kd.V_nil _ _ _ _ _ | exact Kd.Q_nil _ _ _ _ _ | exact Kd.S_nil _ _ _ _ _⟩, ⟨by repeat (first | (with_reducible first | exact HB.out | apply below_alloc | apply pw_below_drewN | apply below_drew1) | exact HB.out)⟩⟩
  case round =>
    clear H'
    try clear c1
    obtain ⟨x3_1, x4_1, rfl, HA, HK1, HO_3, HB⟩ := hrel
    cases gk with
    | zero => exact absurd HA.out (by simp [barquelaw07_few.l0])
    | succ k1 =>
      have H := HA.out
      clear HA
      simp only [barquelaw07_few.l0] at H
      have HC2 := Aside0.mk H
      clear H
      go_upto_region 3 with (fail)
      go_cut [13] (fun v13 wc => ∃ (kq : Nat) (x13_1 : Bool), v13 = .bool x13_1 ∧ Aside0 (barquelaw07_few.j1 kq l0 x3_1 x4_1 x13_1 = some r) ∧ Aside0 (kq ≤ k1) ∧ Aside0 (Kd.R Kd.string 9 wc w.heap.size (fun _ => True) u3 x3_1) ∧ Aside0 (Below w.heap.size w wc))
      case first =>
        have H := HC2.out
        clear HC2
        by_cases c3 : x4_1 < (l0.length : Int)
        · rw [if_pos c3] at H
          have c3b0 : decide (x4_1 < (l0.length : Int)) = true := decide_eq_true c3
          clear c3
          (first | rw [c3b0] | (simp only [i64_w, i32_w]; rw [c3b0]) | skip)
          have H' := Aside0.mk H
          clear H
          go_wp2
          go_meet
          case rel => exact ⟨_, (decide (x4_1 < 6)), (by first | rfl | (simp; done) | (simp [*]; done)), H', ⟨by have := HK1.out; first | omega | exact Nat.le_refl _⟩, ⟨by (with_reducible repeat (first | apply Kd.R_alloc | apply Kd.R_drewN | apply Kd.R_drew)); exact HO_3.out⟩, ⟨by repeat (first | (with_reducible first | exact HB.out | apply below_alloc | apply pw_below_drewN | apply below_drew1) | exact HB.out)⟩⟩
        · rw [if_neg c3] at H
          have c3b0 : decide (x4_1 < (l0.length : Int)) = false := decide_eq_false c3
          clear c3
          (first | rw [c3b0] | (simp only [i64_w, i32_w]; rw [c3b0]) | skip)
          have H' := Aside0.mk H
          clear H
          go_wp2
          go_meet
          case rel => exact ⟨_, (false), (by first | rfl | (simp; done) | (simp [*]; done)), H', ⟨by have := HK1.out; first | omega | exact Nat.le_refl _⟩, ⟨by (with_reducible repeat (first | apply Kd.R_alloc | apply Kd.R_drewN | apply Kd.R_drew)); exact HO_3.out⟩, ⟨by repeat (first | (with_reducible first | exact HB.out | apply below_alloc | apply pw_below_drewN | apply below_drew1) | exact HB.out)⟩⟩
      case rest =>
        clear HC2
        try clear c1
        try clear p2
        try clear c3
        try clear c3b0
        obtain ⟨kq, x13_1, rfl, HA, HJ1, HO_3, HB⟩ := hcut
        cases kq with
        | zero => exact absurd HA.out (by simp [barquelaw07_few.j1])
        | succ kj1 =>
          have H := HA.out
          clear HA
          simp only [barquelaw07_few.j1] at H
          by_cases c4 : x13_1 = true
          · subst c4
            have H1 : (if 0 ≤ x4_1 then (if x4_1 < (l0.length : Int) then (if ((rdOf ByteArray.empty l0 x4_1).size : Int) > 1000 then (if 0 ≤ 1000 then (if 1000 ≤ ((rdOf ByteArray.empty l0 x4_1).size : Int) then (if x3_1.length < 8796093022208 then (barquelaw07_few.l0 kj1 l0 (x3_1 ++ [(rdOf ByteArray.empty l0 x4_1).extract 0 1000]) (wrap64 (x4_1 + 1))) else (none)) else (none)) else (none)) else (if x3_1.length < 8796093022208 then (barquelaw07_few.l0 kj1 l0 (x3_1 ++ [rdOf ByteArray.empty l0 x4_1]) (wrap64 (x4_1 + 1))) else (none))) else (none)) else (none)) = some r := by rw [if_pos rfl] at H; exact H
            clear H
            have H := H1
            clear H1
            by_cases c5 : 0 ≤ x4_1
            · rw [if_pos c5] at H
              have c5b0 : decide (0 ≤ x4_1) = true := decide_eq_true c5
              clear c5
              by_cases c6 : x4_1 < (l0.length : Int)
              · rw [if_pos c6] at H
                have c6b0 : decide (x4_1 < (l0.length : Int)) = true := decide_eq_true c6
                clear c6
                by_cases c7 : ((rdOf ByteArray.empty l0 x4_1).size : Int) > 1000
                · rw [if_pos c7] at H
                  have c7b0 : decide (1000 < ((rdOf ByteArray.empty l0 x4_1).size : Int)) = true := decide_eq_true c7
                  have c7b1 : decide (1000 < (rdOf ByteArray.empty l0 x4_1).size) = true := decide_eq_true (by omega)
                  clear c7
                  by_cases c8 : 0 ≤ 1000
                  · rw [if_pos c8] at H
                    have c8b0 := eq_true c8
                    have c8b1 : decide (0 ≤ 1000) = true := decide_eq_true c8
                    clear c8
                    by_cases c9 : 1000 ≤ ((rdOf ByteArray.empty l0 x4_1).size : Int)
                    · rw [if_pos c9] at H
                      have c9b0 := eq_true c9
                      have c9b1 : decide (1000 ≤ ((rdOf ByteArray.empty l0 x4_1).size : Int)) = true := decide_eq_true c9
                      clear c9
                      by_cases c10 : x3_1.length < 8796093022208
                      · rw [if_pos c10] at H
                        have LMc10 := Aside0.mk c10
                        clear c10
                        obtain ⟨y323, hy323⟩ : ∃ y_ : List ByteArray, y_ = (x3_1 ++ [(rdOf ByteArray.empty l0 x4_1).extract 0 1000]) := ⟨_, rfl⟩
                        replace H : (barquelaw07_few.l0 kj1 l0 y323 (wrap64 (x4_1 + 1))) = some r := by first | (rw [hy323]; with_reducible exact H) | (have H2_ := (Option.bind_some _ _).symm.trans H; rw [hy323]; with_reducible exact H2_) | (have H2_ := (Option.bind_some _ _).symm.trans H; with_reducible exact H2_) | with_reducible exact H | (rw [hy323]; exact H) | exact H
                        have Ny323 := Aside0.mk hy323
                        clear hy323
                        have H' := Aside0.mk H
                        clear H
                        have p322 : 0 ≤ (x4_1 : Int) := of_decide_eq_true (by first | (with_reducible assumption) | assumption)
                        have q322 : x4_1 < (l0.length : Int) := of_decide_eq_true (by first | (with_reducible assumption) | assumption)
                        obtain ⟨ad322, e322, hx322_0⟩ := Kd.at_string HR0.out x4_1 p322 q322
                        cases e322
                        replace hx322_0 := (HB.out.cell (World.block_lt_of_cell? w _ hx322_0)).trans hx322_0
                        replace p322 := eq_true p322
                        replace q322 := eq_true q322
                        go_wp2_with (first | ((with_reducible refine gate_builtin (b := .append) (xs := #[.tmp 25, .tmp 27]) rfl ?_); at_builtin; refine Kd.R_append Kd.string (w0 := w) w.heap.size rfl (.tmp 25) (.tmp 27) 36 9 (.string ⟨#[]⟩) 16 rfl Try.underlying36 info9 rfl (by decide) (by omega) u3 x3_1 ((rdOf ByteArray.empty l0 x4_1).extract 0 1000) [.string ((rdOf ByteArray.empty l0 x4_1).extract 0 1000)] (fun _ => True) (fun _ => False) rfl rfl ?aP (fun _ hk => hk.elim) ?aF ?aO ?aB ?aS ?aL ?_; (case aP => exact rfl); (case aB => exact (by repeat (first | (with_reducible first | exact HB.out | apply below_alloc | apply pw_below_drewN | apply below_drew1) | exact HB.out))); (case aF => exact (fun _ _ => trivial)); (case aO => exact (by (with_reducible repeat (first | apply Kd.R_alloc | apply Kd.R_drewN | apply Kd.R_drew)); exact HO_3.out)); (case aS => exact (below_size (by repeat (first | (with_reducible first | exact HB.out | apply below_alloc | apply pw_below_drewN | apply below_drew1) | exact HB.out)))); (case aL => have := LMc10.out; omega); intro v324 w11 ho hb hg hat; rw [← Ny323.out] at ho; have n0_ := Aside0.mk (hb); have n1_ := Aside0.mk (ho); clear HB; clear HO_3; have HB := n0_; have HO325 := n1_; clear n0_ n1_; clear ho hb hg hat))
                        go_roundg kj1
                        case measure => have := HK1.out; have := HJ1.out; omega
                        case rel => exact ⟨(y323), (wrap64 (x4_1 + 1)), (by first | rfl | (simp; done) | (simp [*]; done)), H', ⟨by have := HK1.out; have := HJ1.out; omega⟩, ⟨by (with_reducible repeat (first | apply Kd.R_alloc | apply Kd.R_drewN | apply Kd.R_drew)); exact HO325.out⟩, ⟨by repeat (first | (with_reducible first | exact HB.out | apply below_alloc | apply pw_below_drewN | apply below_drew1) | exact HB.out)⟩⟩
                      · rw [if_neg c10] at H
                        exact absurd H (by simp)
                    · rw [if_neg c9] at H
                      exact absurd H (by simp)
                  · rw [if_neg c8] at H
                    exact absurd H (by simp)
                · rw [if_neg c7] at H
                  have c7b0 : decide (1000 < ((rdOf ByteArray.empty l0 x4_1).size : Int)) = false := decide_eq_false c7
                  have c7b1 : decide (1000 < (rdOf ByteArray.empty l0 x4_1).size) = false := decide_eq_false (by omega)
                  clear c7
                  by_cases c12 : x3_1.length < 8796093022208
                  · rw [if_pos c12] at H
                    have LMc12 := Aside0.mk c12
                    clear c12
                    obtain ⟨y326, hy326⟩ : ∃ y_ : List ByteArray, y_ = (x3_1 ++ [rdOf ByteArray.empty l0 x4_1]) := ⟨_, rfl⟩
                    replace H : (barquelaw07_few.l0 kj1 l0 y326 (wrap64 (x4_1 + 1))) = some r := by first | (rw [hy326]; with_reducible exact H) | (have H2_ := (Option.bind_some _ _).symm.trans H; rw [hy326]; with_reducible exact H2_) | (have H2_ := (Option.bind_some _ _).symm.trans H; with_reducible exact H2_) | with_reducible exact H | (rw [hy326]; exact H) | exact H
                    have Ny326 := Aside0.mk hy326
                    clear hy326
                    have H' := Aside0.mk H
                    clear H
                    have p322 : 0 ≤ (x4_1 : Int) := of_decide_eq_true (by first | (with_reducible assumption) | assumption)
                    have q322 : x4_1 < (l0.length : Int) := of_decide_eq_true (by first | (with_reducible assumption) | assumption)
                    obtain ⟨ad322, e322, hx322_0⟩ := Kd.at_string HR0.out x4_1 p322 q322
                    cases e322
                    replace hx322_0 := (HB.out.cell (World.block_lt_of_cell? w _ hx322_0)).trans hx322_0
                    replace p322 := eq_true p322
                    replace q322 := eq_true q322
                    go_wp2_with (first | ((with_reducible refine gate_builtin (b := .append) (xs := #[.tmp 25, .tmp 27]) rfl ?_); at_builtin; refine Kd.R_append Kd.string (w0 := w) w.heap.size rfl (.tmp 25) (.tmp 27) 36 9 (.string ⟨#[]⟩) 16 rfl Try.underlying36 info9 rfl (by decide) (by omega) u3 x3_1 (rdOf ByteArray.empty l0 x4_1) [.string (rdOf ByteArray.empty l0 x4_1)] (fun _ => True) (fun _ => False) rfl rfl ?aP (fun _ hk => hk.elim) ?aF ?aO ?aB ?aS ?aL ?_; (case aP => exact rfl); (case aB => exact (by repeat (first | (with_reducible first | exact HB.out | apply below_alloc | apply pw_below_drewN | apply below_drew1) | exact HB.out))); (case aF => exact (fun _ _ => trivial)); (case aO => exact (by (with_reducible repeat (first | apply Kd.R_alloc | apply Kd.R_drewN | apply Kd.R_drew)); exact HO_3.out)); (case aS => exact (below_size (by repeat (first | (with_reducible first | exact HB.out | apply below_alloc | apply pw_below_drewN | apply below_drew1) | exact HB.out)))); (case aL => have := LMc12.out; omega); intro v327 w13 ho hb hg hat; rw [← Ny326.out] at ho; have n0_ := Aside0.mk (hb); have n1_ := Aside0.mk (ho); clear HB; clear HO_3; have HB := n0_; have HO328 := n1_; clear n0_ n1_; clear ho hb hg hat))
                    go_roundg kj1
                    case measure => have := HK1.out; have := HJ1.out; omega
                    case rel => exact ⟨(y326), (wrap64 (x4_1 + 1)), (by first | rfl | (simp; done) | (simp [*]; done)), H', ⟨by have := HK1.out; have := HJ1.out; omega⟩, ⟨by (with_reducible repeat (first | apply Kd.R_alloc | apply Kd.R_drewN | apply Kd.R_drew)); exact HO328.out⟩, ⟨by repeat (first | (with_reducible first | exact HB.out | apply below_alloc | apply pw_below_drewN | apply below_drew1) | exact HB.out)⟩⟩
                  · rw [if_neg c12] at H
                    exact absurd H (by simp)
              · rw [if_neg c6] at H
                exact absurd H (by simp)
            · rw [if_neg c5] at H
              exact absurd H (by simp)
          · replace c4 := Bool.eq_false_iff.mpr c4
            subst c4
            have H1 : (some x3_1) = some r := by rw [if_neg (show ¬ (false = true) by decide)] at H; exact H
            clear H
            have H := H1
            clear H1
            obtain rfl := Option.some.inj H
            go_wp2
            go_ret
            exact ⟨_, by first | rfl | (simp [errW_none, errW_some] <;> rfl) | (simp [*, errW_none, errW_some] <;> rfl), by (with_reducible repeat (first | apply Kd.R_alloc | apply Kd.R_drewN | apply Kd.R_drew)); exact HO_3.out, by repeat (first | (with_reducible first | exact HB.out | apply below_alloc | apply pw_below_drewN | apply below_drew1) | exact HB.out)⟩

end Go.Proofs.Ytjgelmfkoefclaa.PAll


-- from FewLaw
/- At most six texts of at most 1000 bytes. -/
namespace Go.Proofs.Ytjgelmfkoefclaa.Pure
open Go.RowKit Go.Proofs.YtjgelmfkoefclaaW.PrintWords Go.Proofs.YtjgelmfkoefclaaW.PrintLast Go.Proofs.YtjgelmfkoefclaaW.PrintMore Go.Proofs.Ytjgelmfkoefclaa.PAll
set_option linter.unusedVariables false
theorem few_l0 (l : List ByteArray) (d : Nat) : ∀ (k i : Nat) (acc : List ByteArray), i + d = 6 → acc.length = i → (∀ x ∈ acc, x.size ≤ 1000) → 2 * d + 2 ≤ k → ∃ r, barquelaw07_few.l0 k l acc (i : Int) = some r ∧ r.length ≤ 6 ∧ ∀ x ∈ r, x.size ≤ 1000 := by
  induction d with
  | zero =>
    intro k i acc h1 h2 h3 h4
    obtain ⟨k, rfl⟩ : ∃ m, k = m + 2 := ⟨k - 2, by omega⟩
    have hi : decide ((i : Int) < 6) = false := decide_eq_false (by omega)
    refine ⟨acc, ?_, by omega, h3⟩
    unfold barquelaw07_few.l0
    rw [hi]
    unfold barquelaw07_few.j1
    split <;> rfl
  | succ d ih =>
    intro k i acc h1 h2 h3 h4
    obtain ⟨k, rfl⟩ : ∃ m, k = m + 2 := ⟨k - 2, by omega⟩
    have hi : decide ((i : Int) < 6) = true := decide_eq_true (by omega)
    have hw : wrap64 ((i : Int) + 1) = ((i + 1 : Nat) : Int) := by unfold wrap64; omega
    unfold barquelaw07_few.l0
    by_cases hl : (i : Int) < (l.length : Int)
    · rw [if_pos hl, hi]
      unfold barquelaw07_few.j1
      rw [if_pos rfl, if_pos (by omega), if_pos hl]
      obtain ⟨x, hx⟩ : ∃ x, x = rdOf ByteArray.empty l (i : Int) := ⟨_, rfl⟩
      rw [← hx]
      by_cases hs : (x.size : Int) > 1000
      · rw [if_pos hs, if_pos (by decide), if_pos (by omega), if_pos (by omega), hw]
        refine ih k (i + 1) _ (by omega) (by rw [List.length_append, h2]; rfl) (fun y hy => ?_) (by omega)
        rcases List.mem_append.mp hy with hy | hy
        · exact h3 y hy
        · rw [List.mem_singleton.mp hy, ByteArray.size_extract]; omega
      · rw [if_neg hs, if_pos (by omega), hw]
        refine ih k (i + 1) _ (by omega) (by rw [List.length_append, h2]; rfl) (fun y hy => ?_) (by omega)
        rcases List.mem_append.mp hy with hy | hy
        · exact h3 y hy
        · rw [List.mem_singleton.mp hy]; omega
    · rw [if_neg hl]
      unfold barquelaw07_few.j1
      rw [if_neg (by decide)]
      exact ⟨acc, rfl, by omega, h3⟩
theorem few_f (l : List ByteArray) : ∃ r, barquelaw07_few.f 20 l = some r ∧ r.length ≤ 6 ∧ ∀ x ∈ r, x.size ≤ 1000 := by
  unfold barquelaw07_few.f
  exact few_l0 l 6 20 0 [] rfl rfl (fun x hx => by cases hx) (by omega)
end Go.Proofs.Ytjgelmfkoefclaa.Pure


-- from GivCells
/- Blocks that are known whole: their cells. -/
namespace Go.Proofs.Ytjgelmfkoefclaa.PAll
open Go.RowKit Go.Proofs.YtjgelmfkoefclaaW.PrintWords
set_option linter.unusedVariables false
theorem blk4 {w : World} {g : Nat} {t : TypeId} {c0 c1 c2 c3 : Value} (h : w.heap[g]? = some (.cells #[c0, c1, c2, c3] t (0, 0))) : w.cell? ⟨g, 0, none⟩ = some c0 ∧ w.cell? ⟨g, 1, none⟩ = some c1 ∧ w.cell? ⟨g, 2, none⟩ = some c2 ∧ w.cell? ⟨g, 3, none⟩ = some c3 :=
  ⟨(blk_cell h 0).trans rfl, (blk_cell h 1).trans rfl, (blk_cell h 2).trans rfl, (blk_cell h 3).trans rfl⟩
theorem blk4f {w : World} {g : Nat} {t : TypeId} {c0 c1 c2 c3 : Value} (h : w.heap[g]? = some (.cells #[c0, c1, c2, c3] t (0, 0))) : w.frozen? ⟨g, 0, none⟩ = false ∧ w.frozen? ⟨g, 1, none⟩ = false ∧ w.frozen? ⟨g, 2, none⟩ = false ∧ w.frozen? ⟨g, 3, none⟩ = false :=
  ⟨blk_frozen h 0, blk_frozen h 1, blk_frozen h 2, blk_frozen h 3⟩
end Go.Proofs.Ytjgelmfkoefclaa.PAll


-- from Held
/- A region that draws its order: what only reads goes first, under a condition on the cells, though other operations that make memory may come up ahead of it; the last operations, which wait for all that, as they stand. -/
namespace Go.Proofs.Ytjgelmfkoefclaa.PAll
open Go.RowKit
set_option linter.unusedVariables false

section
variable {P : Program} {ops : Array Oper} {Q : Exit → Act → World → Prop} {md : Region.Mode} {S : World → Prop}

/-- Whatever order is picked, and S holds behind each operation ahead of number N. -/
def wpAnyE (P : Program) (md : Region.Mode) (ops : Array Oper) (Q : Exit → Act → World → Prop) (S : World → Prop) (N : Nat) : Nat → Array Bool → Act → World → Prop
  | 0, listed, a, w => Region.ready md ops listed = [] ∧ Q .normal a w
  | f + 1, listed, a, w => (Region.ready md ops listed = [] → Q .normal a w) ∧ ∀ i ∈ Region.ready md ops listed, wpOp P ops Q i (fun a' w' => (i < N → S w') ∧ wpAnyE P md ops Q S N f (listed.setIfInBounds i true) a' w') a w
theorem wpAny_of_E {N : Nat} : ∀ (f : Nat) (listed : Array Bool) (a : Act) (w : World), wpAnyE P md ops Q S N f listed a w → wpAny P md ops Q f listed a w
  | 0, _, _, _, h => h
  | f + 1, _, _, _, h => ⟨h.1, fun i hi => wpOp_mono (fun a' w' h' => wpAny_of_E f _ a' w' h'.2) (h.2 i hi)⟩
theorem wpAnyE_first {N i : Nat} {oi : Oper} {v : Value} (hi : ops[i]? = some oi) (hsel : ∀ (j : Nat) (o : Oper) cs b, ops[j]? = some o → o.op ≠ .select cs b)
    (hQ : ∀ c a w, Q (.panic c) (a.put oi.dst v) w → Q (.panic c) a w) (hs : Region.sinkB md ops N = true) (hc : Region.chainB md ops N = true) (hN : N < ops.size) (hin : i < N) :
    ∀ (f : Nat) (listed : Array Bool) (a : Act) (w : World), HeadInv md ops N listed →
      (∀ j oj, ops[j]? = some oj → j ≠ i → listed.getD j true = false → (∀ e ∈ oj.after, Region.binds md e = true → e.on ≠ i) → oi.apart ops oj = true) →
      i ∈ Region.ready md ops listed → YieldsIf P ops S oi v a → S w →
      wpAnyE P md ops Q S N f (listed.setIfInBounds i true) (a.put oi.dst v) w → wpAnyE P md ops Q S N (f + 1) listed a w := by
  intro f
  induction f with
  | zero =>
    intro listed a w _ _ hr hy hS H
    refine ⟨fun h => absurd hr (by rw [h]; simp), fun j hj => ?_⟩
    by_cases hji : j = i
    · subst hji; exact hy.wpOp hi hS ⟨fun _ => hS, H⟩
    · have h1 := ready_mono hj hji
      rw [H.1] at h1
      cases h1
  | succ f ih =>
    intro listed a w inv hfree hr hy hS H
    have hun := (mem_ready.1 hr).1
    refine ⟨fun h => absurd hr (by rw [h]; simp), fun j hj => ?_⟩
    by_cases hji : j = i
    · subst hji; exact hy.wpOp hi hS ⟨fun _ => hS, H⟩
    · have hjN : j < N := by
        rcases Nat.lt_or_ge j N with h | h
        · exact h
        · exact absurd hj (tail_waits hs hc hN inv _ i rfl hin hun j h)
      obtain ⟨hjun, oj, hoj, hall⟩ := mem_ready.1 hj
      have hnot : ∀ e ∈ oj.after, Region.binds md e = true → e.on ≠ i := fun e he hb heq => by
        have h2 := hall e he hb
        rw [heq, getD_both hun] at h2
        cases h2
      have h2 := wpOp_putIf hoj (hfree j oj hoj hji hjun hnot) (fun cs b => hsel i oi cs b hi) (fun cs b => hsel j oj cs b hoj) hQ hy (H.2 j (ready_mono hj hji))
      refine wpOp_mono (fun a' w' h3 => ⟨fun _ => h3.2.1 hjN, ih (listed.setIfInBounds j true) a' w' (inv.set hj hjN) (fun k ok hk hki hunk hno => ?_) (ready_mono hr (Ne.symm hji)) h3.1 (h3.2.1 hjN) ?_⟩) h2
      · refine hfree k ok hk hki ?_ hno
        by_cases hjk : j = k
        · subst hjk; exact hjun
        · rw [getD_set_ne true hjk] at hunk; exact hunk
      · rw [Array.setIfInBounds_comm _ _ hji]
        exact h3.2.2
/-- What only reads, in the order of the text. -/
def wpHeld (P : Program) (ops : Array Oper) (S : World → Prop) (K : Act → Prop) : List Oper → Act → Prop
  | [], a => K a
  | o :: rest, a => ∃ v, YieldsIf P ops S o v a ∧ wpHeld P ops S K rest (a.put o.dst v)
theorem wpHeld_step {K : Act → Prop} {o : Oper} {rest : List Oper} {a : Act} {v : Value} (hw : Region.wanted o (yielded ops a.tmps) = true) (hy : ∀ w, S w → (execOp a.eval o).run P w = .ok (.value v) w) (h : wpHeld P ops S K rest (a.put o.dst v)) : wpHeld P ops S K (o :: rest) a :=
  ⟨v, .inl ⟨hw, hy⟩, h⟩
theorem wpHeld_nil {K : Act → Prop} {a : Act} (h : K a) : wpHeld P ops S K [] a := h
/-- The rest, in the order of the text: S holds behind the first m of them. -/
def wpListS (P : Program) (ops : Array Oper) (Q : Exit → Act → World → Prop) (S : World → Prop) : Nat → List Oper → Act → World → Prop
  | m + 1, o :: rest, a, w => if Region.wanted o (yielded ops a.tmps) then o.wp P a w (fun a' w' => S w' ∧ wpListS P ops Q S m rest a' w') Q ∨ (o.asks P a w ∧ LetsOut Q) else S w ∧ wpListS P ops Q S m rest (a.put o.dst undef) w
  | _, l, a, w => wpList P ops Q l a w
theorem wpListS_zero {l : List Oper} {a : Act} {w : World} (h : wpList P ops Q l a w) : wpListS P ops Q S 0 l a w := by
  unfold wpListS; exact h
theorem wpListS_step {m : Nat} {o : Oper} {rest : List Oper} {a : Act} {w : World} (h : ∀ K : Act → World → Prop, Shut (∀ a w, S w → wpListS P ops Q S m rest a w → K a w) → if Region.wanted o (yielded ops a.tmps) = true then Oper.wp P o a w K Q else K (a.put o.dst undef) w) : wpListS P ops Q S (m + 1) (o :: rest) a w := by
  have h1 := h (fun a' w' => S w' ∧ wpListS P ops Q S m rest a' w') (fun a' w' h2 h3 => ⟨h2, h3⟩)
  unfold wpListS
  by_cases hw : Region.wanted o (yielded ops a.tmps) = true
  · rw [if_pos hw] at h1 ⊢
    exact .inl h1
  · rw [if_neg hw] at h1 ⊢
    exact h1
theorem wpAnyE_seq {N : Nat} : ∀ (l : List Oper) (m k : Nat) (listed : Array Bool) (a : Act) (w : World), (∀ j, l[j]? = ops[k + j]?) → k + m = N →
    Region.seqB md ops l.length k listed = true → wpListS P ops Q S m l a w → wpAnyE P md ops Q S N l.length listed a w
  | [], m, _, _, a, w, _, _, hB, h => by
    have h2 : wpList P ops Q [] a w := by
      cases m <;> (unfold wpListS at h; exact h)
    exact ⟨by simpa [Region.seqB] using hB, h2⟩
  | o :: l, m, k, listed, a, w, hl, hm, hB, h => by
    have h0 : ops[k]? = some o := by simpa using (hl 0).symm
    have hl' : ∀ j, l[j]? = ops[k + 1 + j]? := fun j => by have := hl (j + 1); simpa [Nat.add_assoc, Nat.add_comm 1 j] using this
    simp only [List.length_cons, Region.seqB, Bool.and_eq_true, decide_eq_true_eq] at hB
    refine ⟨fun h1 => (by rw [hB.1] at h1; cases h1), fun i hi => ?_⟩
    rw [hB.1] at hi
    have hik : i = k := by simpa using hi
    subst hik
    cases m with
    | zero =>
      unfold wpListS at h
      have hw : wpOp P ops Q i (wpList P ops Q l) a w := by unfold wpOp; simp only [h0]; exact h
      refine wpOp_mono (fun a' w' h' => ⟨fun hlt => (by omega), ?_⟩) hw
      -- N = i: nothing more is asked of S
      exact wpAnyE_late l (i + 1) _ a' w' (by omega) hl' hB.2 h'
    | succ m =>
      have hw : wpOp P ops Q i (fun a' w' => S w' ∧ wpListS P ops Q S m l a' w') a w := by unfold wpOp; simp only [h0]; unfold wpListS at h; exact h
      exact wpOp_mono (fun a' w' h' => ⟨fun _ => h'.1, wpAnyE_seq l m (i + 1) _ a' w' hl' (by omega) hB.2 h'.2⟩) hw
where
  wpAnyE_late {N : Nat} : ∀ (l : List Oper) (k : Nat) (listed : Array Bool) (a : Act) (w : World), N ≤ k → (∀ j, l[j]? = ops[k + j]?) →
      Region.seqB md ops l.length k listed = true → wpList P ops Q l a w → wpAnyE P md ops Q S N l.length listed a w
    | [], _, _, _, _, _, _, hB, h => ⟨by simpa [Region.seqB] using hB, h⟩
    | o :: l, k, listed, a, w, hk, hl, hB, h => by
      have h0 : ops[k]? = some o := by simpa using (hl 0).symm
      have hl' : ∀ j, l[j]? = ops[k + 1 + j]? := fun j => by have := hl (j + 1); simpa [Nat.add_assoc, Nat.add_comm 1 j] using this
      simp only [List.length_cons, Region.seqB, Bool.and_eq_true, decide_eq_true_eq] at hB
      refine ⟨fun h1 => (by rw [hB.1] at h1; cases h1), fun i hi => ?_⟩
      rw [hB.1] at hi
      have hik : i = k := by simpa using hi
      subst hik
      have hw : wpOp P ops Q i (wpList P ops Q l) a w := by unfold wpOp; simp only [h0]; exact h
      exact wpOp_mono (fun a' w' h' => ⟨fun hlt => (by omega), wpAnyE_late l (i + 1) _ a' w' (by omega) hl' hB.2 h'⟩) hw
theorem wpAnyE_lex {N g n m : Nat} (hsel : Region.noSelect ops = true) (hQ : ∀ d c v (a : Act) w, Q (.panic c) (a.put d v) w → Q (.panic c) a w) (hs : Region.sinkB md ops N = true) (hc : Region.chainB md ops N = true) (hN : N < ops.size) (hm : n + m = N) (tl : List Oper) (htl : ∀ j, tl[j]? = ops[n + j]?) (hg : tl.length = g) :
    ∀ (l : List Oper) (k : Nat) (listed : Array Bool) (a : Act) (w : World), (∀ j, j < l.length → l[j]? = ops[k + j]?) → k + l.length = n → HeadInv md ops N listed →
    Region.lexHead md ops g l.length k listed = true → S w → wpHeld P ops S (fun a' => wpListS P ops Q S m tl a' w) l a →
    wpAnyE P md ops Q S N (l.length + g) listed a w
  | [], k, listed, a, w, hl, hk, inv, hB, hS, h => by
    have hkn : k = n := by simpa using hk
    subst hkn
    subst hg
    simp only [List.length_nil, Nat.zero_add]
    exact wpAnyE_seq tl m k listed a w htl hm (by simpa [Region.lexHead] using hB) h
  | o :: l, k, listed, a, w, hl, hk, inv, hB, hS, h => by
    have h0 : ops[k]? = some o := by simpa using (hl 0 (by simp)).symm
    simp only [List.length_cons, Region.lexHead, Bool.and_eq_true] at hB
    obtain ⟨⟨hr, hf⟩, hB'⟩ := hB
    have hkn : k < n := by simp only [List.length_cons] at hk; omega
    have hr' : k ∈ Region.ready md ops listed := by simpa using hr
    obtain ⟨v, hy, hK⟩ := h
    have e : (o :: l).length + g = (l.length + g) + 1 := by simp only [List.length_cons]; omega
    rw [e]
    exact wpAnyE_first h0 (Region.noSelect_spec hsel) (fun c a w => hQ _ c _ a w) hs hc hN (by omega) (l.length + g) listed a w inv (Region.free_spec h0 hf) hr' hy hS
      (wpAnyE_lex hsel hQ hs hc hN hm tl htl hg l (k + 1) _ _ w (fun j hj => by have := hl (j + 1) (by simp; omega); simpa [Nat.add_assoc, Nat.add_comm 1 j] using this) (by simp only [List.length_cons] at hk; omega) (inv.set hr' (by omega)) hB' hS hK)
def heldTailB (md : Region.Mode) (ops : Array Oper) (n m : Nat) : Bool :=
  Region.noSelect ops && decide (n + m < ops.size) && Region.sinkB md ops (n + m) && Region.chainB md ops (n + m) && Region.lexHead md ops (ops.size - n) n 0 (Array.replicate ops.size false)
/-- The first n operations only read, under S; behind each of the next m of them S is shown anew; the rest as it stands. -/
theorem wp_region_held_tail {id : Nat} {a : Act} {w : World} {l : List Oper} (n m : Nat) (S : World → Prop) (hm : P.follows .mixedOrders = true) (hB : heldTailB .any l.toArray n m = true) (hQ : ∀ d c v (a : Act) w, Q (.panic c) (a.put d v) w → Q (.panic c) a w)
    (hS : S w.drew) (h : wpHeld P l.toArray S (fun a' => wpListS P l.toArray Q S m (l.drop n) a' w.drew) (l.take n) a) : (Code.region id l.toArray true).wp P Q a w := by
  simp only [heldTailB, Bool.and_eq_true, decide_eq_true_eq] at hB
  obtain ⟨⟨⟨⟨hsel, hn⟩, hs⟩, hc⟩, hlex⟩ := hB
  have hn' : n + m < l.length := by simpa using hn
  have htl : (l.take n).length = n := by simp; omega
  have hdl : (l.drop n).length = l.toArray.size - n := by simp
  have inv0 : HeadInv .any l.toArray (n + m) (Array.replicate l.toArray.size false) :=
    ⟨by simp, fun j oj _ hl => (by rw [getD_replicate_false] at hl; cases hl), fun t _ ht => getD_in (by simpa using ht) (getD_replicate_false _ _)⟩
  refine wp_region_any hm (wpAny_of_E (S := S) (N := n + m) _ _ _ _ ?_)
  have H := wpAnyE_lex (P := P) (Q := Q) (md := .any) (S := S) (N := n + m) (g := l.toArray.size - n) (n := n) (m := m) hsel hQ hs hc hn rfl (l.drop n) (fun j => by simp [List.getElem?_drop]) hdl (l.take n) 0 _ a w.drew (fun j hj => by
    have hj' : j < n := by rw [htl] at hj; exact hj
    simp [hj']) (by simpa using htl) inv0 (by rw [htl]; exact hlex) hS h
  rw [htl, show n + (l.toArray.size - n) = l.toArray.size by simp; omega] at H
  exact H
end
end Go.Proofs.Ytjgelmfkoefclaa.PAll


-- from PAllx1
-- Written by a program of this session (wip/tools/hookprint.py, over the print); Lean checks it.
namespace Go.Proofs.Ytjgelmfkoefclaa.PAll
open Go.RowKit Go.Proofs.YtjgelmfkoefclaaW.PrintWords Go.Proofs.YtjgelmfkoefclaaW.PrintLast Go.Proofs.YtjgelmfkoefclaaW.PrintMore
attribute [local go_sem] max2_int min2_int max_two min_two max_three min_three max_four min_four   -- for this text's walks alone
set_option linter.unusedVariables false
set_option linter.unusedSimpArgs false

theorem eqA54 (d : Nat) (w : World) (x0 y0 : Int) (x1 y1 : Int) (x2 y2 : ByteArray) :
    (Op.equalIn (d + 2) 54 (.agg #[.int .i64 x0, .int .i64 x1, .string x2]) (.agg #[.int .i64 y0, .int .i64 y1, .string y2])).run Try.prog w = .ok (x0 == y0 && (x1 == y1 && (x2.toList == y2.toList))) w := by
  refine eqA_of Try.underlying54 (by kernel_rfl) ?_
  refine eqf_cons (by rfl) (by go_simp; rfl) (by go_simp; rfl) (by go_simp) ?_
  refine eqf_cons (by rfl) (by go_simp; rfl) (by go_simp; rfl) (by go_simp) ?_
  exact eqf_last (by rfl) (by go_simp; rfl) (by go_simp; rfl) (by go_simp)
end Go.Proofs.Ytjgelmfkoefclaa.PAll


-- from GivFlush
namespace Go.Proofs.Ytjgelmfkoefclaa.PAll
open Go.RowKit Go.Proofs.YtjgelmfkoefclaaW.PrintWords Go.Proofs.YtjgelmfkoefclaaW.PrintLast Go.Proofs.YtjgelmfkoefclaaW.PrintMore
set_option linter.unusedVariables false
set_option linter.unusedSimpArgs false
attribute [local go_sem] max2_int min2_int max_two min_two

/-- The two held blocks and the row of steps, as they stand under way. -/
structure FR (bh bo base : Nat) (ok : Nat → Prop) (v : Value) (w wr : World) (t : ByteArray) (v' : Value) (ys : List S54) : Prop where
  hh : wr.heap[bh]? = some (.cells #[.string t] 9 (0, 0))
  ho : wr.heap[bo]? = some (.cells #[v'] 22 (0, 0))
  R : Kd.R k54 54 wr base ok v' ys
  kp : Kept w wr (fun k => k = bh ∨ k = bo ∨ some k = v.ownBlock)
  bl : Below base w wr
  ow : v'.ownBlock = v.ownBlock ∨ ∃ b, v'.ownBlock = some b ∧ w.heap.size ≤ b

section
variable {bh bo base : Nat} {ok : Nat → Prop} {v : Value} {w wr : World} {t : ByteArray} {v' : Value} {ys : List S54}
theorem FR.drew (h : FR bh bo base ok v w wr t v' ys) : FR bh bo base ok v w wr.drew t v' ys := ⟨h.hh, h.ho, Kd.R_drew h.R, h.kp, below_drew h.bl, h.ow⟩
theorem FR.alloc (h : FR bh bo base ok v w wr t v' ys) (o : Obj) : FR bh bo base ok v' (wr.alloc o) (wr.alloc o) t v' ys := ⟨blk_alloc h.hh _, blk_alloc h.ho _, Kd.R_alloc h.R _, Kept.refl _ _, Below.refl _ _, .inl rfl⟩
theorem FR.drewN (h : FR bh bo base ok v w wr t v' ys) (m : Nat) : FR bh bo base ok v w (wr.drewN m) t v' ys := ⟨h.hh, h.ho, Kd.R_drewN h.R m, h.kp, pw_below_drewN h.bl m, h.ow⟩
theorem FR.held (h : FR bh bo base ok v w wr t v' ys) (hok : ∀ k, ok k → k ≠ bh ∧ k ≠ bo) (hne : bh ≠ bo) (hbh : base ≤ bh) (t2 : ByteArray) : FR bh bo base ok v w (wr.setCell ⟨bh, 0, none⟩ (.string t2)) t2 v' ys :=
  ⟨blk_put h.hh 0 _ rfl, blk_far h.ho (Ne.symm hne) _, Kd.R_far h.R (fun k hk => (hok k hk).1) _, h.kp.setCell (.inl (.inl rfl)) _, h.bl.setCell (p := ⟨bh, 0, none⟩) hbh _, h.ow⟩
theorem FR.grown (h : FR bh bo base ok v w wr t v' ys) (hok : ∀ k, ok k → k ≠ bh ∧ k ≠ bo) {w1 : World} (hG : wr.grownBy w1 v'.ownBlock) : w1.heap[bh]? = some (.cells #[.string t] 9 (0, 0)) ∧ w1.heap[bo]? = some (.cells #[v'] 22 (0, 0)) :=
  ⟨blk_grown h.hh hG (Kd.R_away h.R (fun k hk => (hok k hk).1)), blk_grown h.ho hG (Kd.R_away h.R (fun k hk => (hok k hk).2))⟩
theorem FR.out (h : FR bh bo base ok v w wr t v' ys) (hok : ∀ k, ok k → k ≠ bh ∧ k ≠ bo) (hne : bh ≠ bo) (hbo : base ≤ bo) {w1 : World} {v1 : Value} {zs : List S54} (hR : Kd.R k54 54 w1 base ok v1 zs) (hB : Below base wr w1) (hG : wr.grownBy w1 v'.ownBlock)
    (hO : v1.ownBlock = v'.ownBlock ∨ ∃ b, v1.ownBlock = some b ∧ wr.heap.size ≤ b) : FR bh bo base ok v w (w1.setCell ⟨bo, 0, none⟩ v1) t v1 zs := by
  obtain ⟨g1, g2⟩ := h.grown hok hG
  refine ⟨blk_far g1 hne _, blk_put g2 0 _ rfl, Kd.R_far hR (fun k hk => (hok k hk).2) _, ?_, (h.bl.trans hB).setCell (p := ⟨bo, 0, none⟩) hbo _, ?_⟩
  · refine Kept.setCell (Kept.of_grown hG h.kp ?_) (.inl (.inr (.inl rfl))) _
    intro k hk
    rcases h.ow with e | ⟨b, e, hb⟩
    · exact .inl (.inr (.inr (hk.symm.trans e)))
    · rw [hk] at e; injection e with e; subst e; exact .inr hb
  · rcases hO with e | ⟨b, e, hb⟩
    · rw [e]; exact h.ow
    · exact .inr ⟨b, e, Nat.le_trans h.kp.1 hb⟩
end

/-- What the closure leaves. -/
def FlushPost (bh bo : Nat) (base : Nat) (ok : Nat → Prop) (v : Value) (xs : List S54) (w : World) (e : Ending) (w' : World) : Prop :=
  e = .returned (.tuple #[]) ∧ ∃ v' t, t.size = 0 ∧ FR bh bo base ok v w w' t v' xs

set_option maxHeartbeats 2000000 in
set_option maxRecDepth 100000 in
theorem flush_calls (bh bo : Nat) (base : Nat) (ok : Nat → Prop) (v : Value) (xs : List S54) (s : ByteArray) (w : World) (hf : FR bh bo base ok v w w s v xs)
    (hbase : base ≤ w.heap.size) (hbh : base ≤ bh) (hbo : base ≤ bo) (hne : bh ≠ bo) (hok : ∀ k, ok k → k ≠ bh ∧ k ≠ bo) (hfr : ∀ k, w.heap.size ≤ k → ok k) (hs : s.size ≤ 1000000000) (hx : xs.length ≤ 1000000000) :
    Calls Try.prog 32 #[.pointer (some ⟨bh, 0, none⟩), .pointer (some ⟨bo, 0, none⟩)] w (FlushPost bh bo base ok v (xs ++ flushN s.size s) w) := by
  have HF := Aside0.mk hf
  have HOK := Aside0.mk hok
  have HFR := Aside0.mk hfr
  clear hf hok hfr
  go_enter Try.func32, Try.ntmps32
  go_wp2_with fail
  go_loopg [] s.size (fun kq wr => ∃ (t : ByteArray) (v' : Value) (ys : List S54), Aside0 (FR bh bo base ok v w wr t v' ys) ∧ Aside0 (ys ++ flushN t.size t = xs ++ flushN s.size s) ∧ Aside0 (t.size ≤ kq) ∧ Aside0 (kq ≤ s.size) ∧ Aside0 (ys.length + t.size ≤ xs.length + s.size))
  case atStart => exact ⟨s, v, xs, HF, ⟨rfl⟩, ⟨Nat.le_refl _⟩, ⟨Nat.le_refl _⟩, ⟨Nat.le_refl _⟩⟩
  case round =>
    obtain ⟨t, v', ys, HF1, HE, HK, HKS, HL⟩ := hrel
    have hht : wr.cell? ⟨bh, 0, none⟩ = some (.string t) := (blk_cell HF1.out.hh 0).trans rfl
    have hhv : wr.cell? ⟨bo, 0, none⟩ = some v' := (blk_cell HF1.out.ho 0).trans rfl
    have hfh : wr.frozen? ⟨bh, 0, none⟩ = false := blk_frozen HF1.out.hh 0
    have hfo : wr.frozen? ⟨bo, 0, none⟩ = false := blk_frozen HF1.out.ho 0
    have htl : t.toList.length = t.size := by rw [ByteArray.toList_eq]; exact data_length t
    by_cases hz : t.size = 0
    · have hem : t.toList.isEmpty = true := by rw [List.isEmpty_iff, ← List.length_eq_zero_iff, htl]; exact hz
      go_wp2_with fail
      go_end0
      exact ⟨rfl, v', t, hz, by have := HE.out; rw [flushN_zero t hz, List.append_nil] at this; rw [← this]; exact HF1.out⟩
    · have hem : t.toList.isEmpty = false := by rw [Bool.eq_false_iff, Ne, List.isEmpty_iff, ← List.length_eq_zero_iff, htl]; exact hz
      have HFR1 : Aside0 (∀ k, wr.drew.heap.size ≤ k → ok k) := ⟨fun k hk => HFR.out k (Nat.le_trans HF1.out.kp.1 hk)⟩
      have HBW1 : Aside0 (base ≤ wr.drew.heap.size) := ⟨Nat.le_trans hbase HF1.out.kp.1⟩
      have HLY : Aside0 ((ys.length + 1) * 32 ≤ 140737488355328) := ⟨by have := HL.out; omega⟩
      have HGB : ∀ (w1 : World), wr.drew.grownBy w1 v'.ownBlock → Aside0 (w1.heap[bo]? = some (.cells #[v'] 22 (0, 0))) := fun w1 hG => ⟨(HF1.out.drew.grown HOK.out hG).2⟩
      have hca : ∀ X, (wr.alloc X).cell? ⟨bo, 0, none⟩ = some v' := fun X => (blk_cell (blk_alloc HF1.out.ho X) 0).trans rfl
      by_cases h4 : 4096 < t.size
      · have h4b : decide (4096 < t.size) = true := decide_eq_true h4
        have h4i : (4096 : Int) ≤ ↑t.size := by omega
        go_wp2_with fail
        go_region_law (refine Kd.R_append_step k54 (w0 := wr.drew) (W := wr.drew) base ?aW (.tmp 8) (.tmp 13) 22 54 (.agg #[(.int .i64 0), (.int .i64 0), (.string ⟨#[]⟩)]) 32 ?aO Try.underlying22 info54 (by decide) (by decide) (by decide) v' ys (⟨0, 0, t.extract 0 4096⟩ : S54) [.int .i64 0, .int .i64 0, .string (t.extract 0 4096)] ok (fun _ => False) ?aS ?aX (k54_mkM _ _ _ (⟨0, 0, t.extract 0 4096⟩ : S54)) (fun _ hk => hk.elim) HFR1.out (Kd.R_drew HF1.out.R) (Below.refl _ _) HBW1.out HLY.out ?_; (case aW => rfl); (case aO => rfl); (case aS => rfl); (case aX => rfl); intro v1 w1 hR1 hB1 hG1 hO1; have hc1 : w1.cell? ⟨bo, 0, none⟩ = some v' := (blk_cell (HGB w1 hG1).out 0).trans rfl; have hf1 : w1.frozen? ⟨bo, 0, none⟩ = false := blk_frozen (HGB w1 hG1).out 0; obtain ⟨A1, c1, hv1⟩ := Kd.R_slice hR1; rw [List.length_append, List.length_singleton] at hv1; subst hv1; have HF2 := Aside0.mk (FR.out HF1.out.drew HOK.out hne hbo hR1 hB1 hG1 hO1); clear hR1 hB1 hG1 hO1)
        all_goals
          generalize (World.setCell w1 ⟨bo, 0, none⟩ _) = W2 at HF2 ⊢
          clear hc1 hf1
          have hht2 : W2.cell? ⟨bh, 0, none⟩ = some (.string t) := (blk_cell HF2.out.hh 0).trans rfl
          have hfh2 : W2.frozen? ⟨bh, 0, none⟩ = false := blk_frozen HF2.out.hh 0
          go_wp2_with fail
          go_roundg (t.extract 4096 t.size).size
          case measure => have := HK.out; simp only [ByteArray.size_extract]; omega
          case rel =>
            refine ⟨t.extract 4096 t.size, _, _, ⟨FR.held HF2.out HOK.out hne hbh _⟩, ⟨?_⟩, ⟨Nat.le_refl _⟩, ⟨?_⟩, ⟨?_⟩⟩
            · rw [← HE.out, flushN_step t hz, show min t.size 4096 = 4096 from by omega, List.append_assoc, List.singleton_append]
            · have := HK.out; have := HKS.out; simp only [ByteArray.size_extract]; omega
            · have := HL.out; simp only [ByteArray.size_extract, List.length_append, List.length_singleton]; omega
      · have h4b : decide (4096 < t.size) = false := decide_eq_false h4
        have hex : t.extract t.size t.size = ByteArray.empty := by simp
        have hfull : t.extract 0 t.size = t := by simp
        go_wp2_with fail
        go_region_law (refine Kd.R_append_step k54 (w0 := wr.drew) (W := wr.drew) base ?aW (.tmp 8) (.tmp 13) 22 54 (.agg #[(.int .i64 0), (.int .i64 0), (.string ⟨#[]⟩)]) 32 ?aO Try.underlying22 info54 (by decide) (by decide) (by decide) v' ys (⟨0, 0, t⟩ : S54) [.int .i64 0, .int .i64 0, .string (t)] ok (fun _ => False) ?aS ?aX (k54_mkM _ _ _ (⟨0, 0, t⟩ : S54)) (fun _ hk => hk.elim) HFR1.out (Kd.R_drew HF1.out.R) (Below.refl _ _) HBW1.out HLY.out ?_; (case aW => rfl); (case aO => rfl); (case aS => rfl); (case aX => rfl); intro v1 w1 hR1 hB1 hG1 hO1; have hc1 : w1.cell? ⟨bo, 0, none⟩ = some v' := (blk_cell (HGB w1 hG1).out 0).trans rfl; have hf1 : w1.frozen? ⟨bo, 0, none⟩ = false := blk_frozen (HGB w1 hG1).out 0; obtain ⟨A1, c1, hv1⟩ := Kd.R_slice hR1; rw [List.length_append, List.length_singleton] at hv1; subst hv1; have HF2 := Aside0.mk (FR.out HF1.out.drew HOK.out hne hbo hR1 hB1 hG1 hO1); clear hR1 hB1 hG1 hO1)
        all_goals
          generalize (World.setCell w1 ⟨bo, 0, none⟩ _) = W2 at HF2 ⊢
          clear hc1 hf1
          have hht2 : W2.cell? ⟨bh, 0, none⟩ = some (.string t) := (blk_cell HF2.out.hh 0).trans rfl
          have hfh2 : W2.frozen? ⟨bh, 0, none⟩ = false := blk_frozen HF2.out.hh 0
          go_wp2_with fail
          go_roundg (ByteArray.empty).size
          case measure => have := HK.out; simp only [ByteArray.size_empty]; omega
          case rel =>
            refine ⟨ByteArray.empty, _, _, ⟨FR.held HF2.out HOK.out hne hbh _⟩, ⟨?_⟩, ⟨Nat.le_refl _⟩, ⟨?_⟩, ⟨?_⟩⟩
            · rw [← HE.out, flushN_step t hz, show min t.size 4096 = t.size from by omega, List.append_assoc, List.singleton_append, hex, hfull]
            · have := HK.out; have := HKS.out; simp only [ByteArray.size_empty]; omega
            · have := HL.out; simp only [ByteArray.size_empty, List.length_append, List.length_singleton]; omega

/-- A copy behind steps. -/
def tidyCopy (o : List S54) (x : S54) : List S54 :=
  if o.length ≠ 0 ∧ (rd_T54 o (o.length - 1 : Nat)).f2.size = 0 ∧ wrap64 ((rd_T54 o (o.length - 1 : Nat)).f0 + (rd_T54 o (o.length - 1 : Nat)).f1) = x.f0 then
    o.set (o.length - 1) ⟨(rd_T54 o (o.length - 1 : Nat)).f0, wrap64 ((rd_T54 o (o.length - 1 : Nat)).f1 + x.f1), (rd_T54 o (o.length - 1 : Nat)).f2⟩
  else o ++ [⟨x.f0, x.f1, ⟨#[]⟩⟩]
def tidyS (st : ByteArray × List S54) (x : S54) : ByteArray × List S54 :=
  if x.f2.size ≠ 0 then (st.1 ++ x.f2, st.2) else if x.f1 ≤ 0 then st else (⟨#[]⟩, tidyCopy (st.2 ++ flushN st.1.size st.1) x)
def tidyF (l : List S54) : ByteArray × List S54 := l.foldl tidyS (⟨#[]⟩, [])
def tidyV (l : List S54) : List S54 := (tidyF l).2 ++ flushN (tidyF l).1.size (tidyF l).1
def textSum (l : List S54) : Nat := (l.map (fun x => x.f2.size)).foldr (· + ·) 0
def TidyOk (l : List S54) : Prop := l.length ≤ 1000000 ∧ textSum l ≤ 500000000
instance (l : List S54) : Decidable (TidyOk l) := by unfold TidyOk; infer_instance

theorem tidyCopy_length (o : List S54) (x : S54) : (tidyCopy o x).length ≤ o.length + 1 := by
  unfold tidyCopy
  split <;> simp
theorem tidyF_length (l : List S54) : (tidyF l).1.size + (tidyF l).2.length ≤ textSum l + l.length := by
  have key : ∀ (l : List S54) (st : ByteArray × List S54), (l.foldl tidyS st).1.size + (l.foldl tidyS st).2.length ≤ textSum l + l.length + st.1.size + st.2.length := by
    intro l
    induction l with
    | nil => intro st; simp [textSum]
    | cons x l ih =>
      intro st
      rw [List.foldl_cons]
      refine Nat.le_trans (ih _) ?_
      have h1 : (tidyS st x).1.size + (tidyS st x).2.length ≤ x.f2.size + 1 + st.1.size + st.2.length := by
        unfold tidyS
        split
        · simp only [ByteArray.size_append]; omega
        · split
          · omega
          · have := tidyCopy_length (st.2 ++ flushN st.1.size st.1) x
            have h3 := flushN_length st.1.size st.1
            simp only [List.length_append] at this
            show 0 + (tidyCopy (st.2 ++ flushN st.1.size st.1) x).length ≤ _
            omega
      simp only [textSum, List.map_cons, List.foldr_cons, List.length_cons] at *
      omega
  have := key l (⟨#[]⟩, [])
  have h0 : (⟨#[]⟩ : ByteArray).size = 0 := rfl
  simp only [h0, List.length_nil, Nat.add_zero] at this
  exact this
theorem textSum_take (l : List S54) (k : Nat) : textSum (l.take k) ≤ textSum l := by
  induction l generalizing k with
  | nil => simp [textSum]
  | cons x l ih =>
    cases k with
    | zero => simp [textSum]
    | succ k => have := ih k; simp only [textSum, List.take_succ_cons, List.map_cons, List.foldr_cons] at *; omega
theorem text_le (l : List S54) (k : Nat) : (rd_T54 l (k : Int)).f2.size ≤ textSum l := by
  unfold rd_T54
  rw [Int.toNat_natCast]
  induction l generalizing k with
  | nil => show (0 : Nat) ≤ _; omega
  | cons x l ih =>
    cases k with
    | zero => simp only [textSum, List.map_cons, List.foldr_cons, List.getD_cons_zero]; omega
    | succ k => have := ih k; simp only [textSum, List.map_cons, List.foldr_cons, List.getD_cons_succ] at *; omega
theorem tidyF_succ (l : List S54) (k : Nat) (h : k < l.length) : tidyF (l.take (k + 1)) = tidyS (tidyF (l.take k)) (rd_T54 l k) := by
  unfold tidyF rd_T54
  rw [List.take_add_one, List.foldl_append, Int.toNat_natCast, List.getD_eq_getElem?_getD, List.getElem?_eq_getElem h]
  rfl

theorem FR.self {bh bo base : Nat} {ok : Nat → Prop} {v : Value} {w wr : World} {t : ByteArray} {v' : Value} {ys : List S54} (h : FR bh bo base ok v w wr t v' ys) : FR bh bo base ok v' wr wr t v' ys := ⟨h.hh, h.ho, h.R, Kept.refl _ _, Below.refl _ _, .inl rfl⟩

end Go.Proofs.Ytjgelmfkoefclaa.PAll


-- from GivTidy
namespace Go.Proofs.Ytjgelmfkoefclaa.PAll
open Go.RowKit Go.Proofs.YtjgelmfkoefclaaW.PrintWords Go.Proofs.YtjgelmfkoefclaaW.PrintLast Go.Proofs.YtjgelmfkoefclaaW.PrintMore
set_option linter.unusedVariables false
set_option linter.unusedSimpArgs false
attribute [local go_sem] max2_int min2_int max_two min_two

theorem below_undrew {B : Nat} {w w1 : World} (h : Below B w w1) (n : Nat) : Below B (w.drewN n) w1 := ⟨h.os, h.tape, h.output, h.size, h.block⟩

theorem FR.merge {bh bo base : Nat} {ok : Nat → Prop} {v : Value} {w wr : World} {t : ByteArray} {g n cap : Nat} {ys : List S54} (h : FR bh bo base ok v w wr t (.slice (some ⟨g, 0, none⟩) n cap) ys) (hok : ∀ k, ok k → k ≠ bh ∧ k ≠ bo) (j : Nat) (hj : j < n) (m : Int) :
    FR bh bo base ok v w (wr.setCell ⟨g, j * 3 + 1, none⟩ (.int .i64 m)) t (.slice (some ⟨g, 0, none⟩) n cap) (ys.set j ⟨(rd_T54 ys (j : Int)).f0, m, (rd_T54 ys (j : Int)).f2⟩) := by
  have hown : (Value.slice (some ⟨g, 0, none⟩) n cap).ownBlock = some g := rfl
  have a1 := hok g (h.R.1 g hown)
  obtain ⟨c, hcl, hM, hcc, hfr⟩ := Kd.R_elem h.R z54 (j : Int) (by omega) (by omega)
  obtain rfl := k54_openM hM
  have HP := Kd.R_seg h.R (j : Int) (by omega) (by omega) (seg := [.int .i64 m]) (j := 1) hcl hcc (show 2 ≤ 3 from by decide) (x' := (⟨(rd_T54 ys (j : Int)).f0, m, (rd_T54 ys (j : Int)).f2⟩ : S54)) (k54_mkM _ _ _ (⟨(rd_T54 ys (j : Int)).f0, m, (rd_T54 ys (j : Int)).f2⟩ : S54)) (fun _ hk => hk)
  refine ⟨blk_far h.hh (Ne.symm a1.1) _, blk_far h.ho (Ne.symm a1.2) _, HP.1, ?_, h.bl.setCell (p := ⟨g, j * 3 + 1, none⟩) (Kd.R_base h.R g hown) _, h.ow⟩
  refine h.kp.setCell ?_ _
  rcases h.ow with e | ⟨b, e, hb⟩
  · exact .inl (.inr (.inr (hown.symm.trans e)))
  · rw [hown] at e; injection e with e; subst e; exact .inr hb
theorem empty_of_size (t : ByteArray) (h : t.size = 0) : t = ⟨#[]⟩ := by
  obtain ⟨d⟩ := t
  have : d.size = 0 := h
  rw [Array.eq_empty_of_size_eq_zero this]

set_option maxHeartbeats 2000000 in
set_option maxRecDepth 100000 in
theorem tidy_calls (A0 : Option Addr) (c0 : Nat) (l : List S54) (w : World) (hr0 : Kd.C k54 w A0 l.length l) (hc0 : l.length ≤ c0) (hok : TidyOk l) :
    Calls Try.prog 17 #[.slice A0 l.length c0] w fun e w' => ∃ v : Value, e = .returned v ∧ Kd.R k54 54 w' w.heap.size (fun _ => True) v (tidyV l) ∧ Below w.heap.size w w' := by
  have HR0 := Aside0.mk hr0
  have HC0 := Aside0.mk hc0
  have HOK := Aside0.mk hok
  have hln : l.length ≤ 1000000 := hok.1
  clear hr0 hc0 hok
  go_enter Try.func17, Try.ntmps17
  go_wp2_with fail
  go_loopw [12] (fun v12 wr => ∃ (k : Nat) (v' : Value), k ≤ l.length ∧ v12 = .int .i64 k ∧ Aside0 (FR (w.heap.size + 1) w.heap.size w.heap.size (fun b => w.heap.size + 2 ≤ b) v' wr wr (tidyF (l.take k)).1 v' (tidyF (l.take k)).2) ∧ Aside0 (Below w.heap.size w wr)) (fun v12 _ => l.length - (intOf v12).toNat)
  case atStart =>
    refine ⟨0, .slice none 0 0, Nat.zero_le _, rfl, ⟨⟨?_, ?_, ?_, Kept.refl _ _, Below.refl _ _, .inl rfl⟩⟩, ⟨below_alloc (below_alloc (Below.refl _ _) _) _⟩⟩
    · have := blk_new (w.alloc (Obj.cells #[Value.slice none 0 0] 22 (0, 0))) (Obj.cells #[Value.string { data := #[] }] 9 (0, 0))
      rw [show (w.alloc (Obj.cells #[Value.slice none 0 0] 22 (0, 0))).heap.size = w.heap.size + 1 from by simp] at this
      exact this
    · exact blk_alloc (blk_new w _) _
    · exact Kd.R_nil _ _ _ _ _
  case round =>
    obtain ⟨k, v', hk, rfl, HF, HB⟩ := hrel
    by_cases hlt : k < l.length
    · have hb1 : decide (k < l.length) = true := decide_eq_true hlt
      obtain ⟨ad, rfl, g0, g1, g2⟩ := at_T54 (Kd.C_below HR0.out HB.out) (k : Int) (by omega) (by omega)
      have HT := Aside0.mk (tidyF_succ l k hlt)
      obtain ⟨x, hx⟩ : ∃ x, x = rd_T54 l (k : Int) := ⟨_, rfl⟩
      rw [← hx] at g0 g1 g2 HT
      rw [Int.toNat_natCast] at g0 g1 g2
      obtain ⟨p, q, t⟩ := x
      have HX := Aside0.mk hx
      clear hx
      obtain ⟨st, hst⟩ : ∃ st, st = tidyF (l.take k) := ⟨_, rfl⟩
      rw [← hst] at HT HF
      have HLEN := Aside0.mk (tidyF_length (l.take k))
      rw [← hst] at HLEN
      have HST := Aside0.mk hst
      clear hst
      obtain ⟨held, out⟩ := st
      have htl : t.toList.length = t.size := by rw [ByteArray.toList_eq]; exact data_length t
      have hB2 : w.heap.size + 2 ≤ wr.heap.size := by have := blk_lt HF.out.hh; omega
      have HTL := Aside0.mk (text_le l k)
      rw [← HX.out] at HTL
      have HTS := Aside0.mk (textSum_take l k)
      by_cases hz : t.size = 0
      · have hem : t.toList.isEmpty = true := by rw [List.isEmpty_iff, ← List.length_eq_zero_iff, htl]; exact hz
        by_cases hq : q ≤ 0
        · have hqb : decide (q ≤ 0) = true := decide_eq_true hq
          go_wp2_with fail
          go_roundw
          case rel =>
            refine ⟨k + 1, v', by omega, by go_num, ⟨?_⟩, ⟨below_alloc HB.out _⟩⟩
            have e : tidyF (List.take (k + 1) l) = (held, out) := by rw [HT.out]; unfold tidyS; rw [if_neg (by simpa using hz), if_pos hq]
            rw [e]
            exact HF.out.alloc _
          case measure => simp [intOf]; omega
        · have hqb : decide (q ≤ 0) = false := decide_eq_false hq
          have HFA := Aside0.mk (HF.out.alloc (.cells #[.int .i64 p, .int .i64 q, .string t] 54 (0, 0))).self
          have HSL : Aside0 (held.size ≤ 1000000000 ∧ out.length ≤ 1000000000 ∧ held.size + out.length ≤ 501000000) := ⟨by have := HLEN.out; have := HTS.out; have h2 := HOK.out; unfold TidyOk at h2; rw [List.length_take] at *; simp only at *; omega⟩
          go_wp2_with (go_at_call 32; go_loud (refine (flush_calls (w.heap.size + 1) w.heap.size w.heap.size (fun b => w.heap.size + 2 ≤ b) v' out held _ HFA.out (by simp only [World.size_alloc]; omega) (by omega) (by omega) (by omega) (fun k hk => by omega) (fun k hk => by simp only [World.size_alloc] at hk; omega) HSL.out.1 HSL.out.2.1).mono ?_; rintro _ wa ⟨rfl, v2, t2, ht2, hf2⟩; have HF2 := Aside0.mk hf2; clear hf2; have hol : (out ++ flushN held.size held).length ≤ 501000000 := (by have := flushN_length held.size held; have := HSL.out.2.2; simp only [List.length_append]; omega); obtain ⟨o, hoe⟩ : ∃ o, o = out ++ flushN held.size held := ⟨_, rfl⟩; rw [← hoe] at HF2 hol; have HOE := Aside0.mk hoe; clear hoe; have hbo2 : wa.cell? ⟨w.heap.size, 0, none⟩ = some v2 := (blk_cell HF2.out.ho 0).trans rfl; have hbxn : some wr.heap.size ≠ v'.ownBlock := (fun e => absurd (Kd.R_lt HF.out.R _ e.symm) (Nat.lt_irrefl _)); have HBX : Aside0 (wa.heap[wr.heap.size]? = some (.cells #[.int .i64 p, .int .i64 q, .string t] 54 (0, 0))) := ⟨(HF2.out.kp.2 wr.heap.size (by simp only [World.size_alloc]; omega) (by rintro (h | h | h); omega; omega; exact hbxn h)).trans (blk_new _ _)⟩; have hx0 : wa.cell? ⟨wr.heap.size, 0, none⟩ = some (.int .i64 p) := (blk_cell HBX.out 0).trans rfl; have hx1 : wa.cell? ⟨wr.heap.size, 1, none⟩ = some (.int .i64 q) := (blk_cell HBX.out 1).trans rfl; have hx2 : wa.cell? ⟨wr.heap.size, 2, none⟩ = some (.string t) := (blk_cell HBX.out 2).trans rfl; obtain ⟨A2, c2, rfl⟩ := Kd.R_slice HF2.out.R; have hw1 : wrap64 ((o.length : Int) - 1) = (o.length : Int) - 1 := (by unfold wrap64; omega); have HBA := Aside0.mk ((below_alloc HB.out (.cells #[.int .i64 p, .int .i64 q, .string t] 54 (0, 0))).trans HF2.out.bl)))
          have htp : tidyF (List.take (k + 1) l) = (⟨#[]⟩, tidyCopy o ⟨p, q, t⟩) := by rw [HT.out]; unfold tidyS; rw [if_neg (by simpa using hz), if_neg (show ¬ q ≤ 0 by omega), HOE.out]
          have HTP := Aside0.mk htp
          clear htp HT
          obtain rfl := empty_of_size t2 ht2
          have HSA : Aside0 (w.heap.size + 2 ≤ wa.heap.size) := ⟨by have := blk_lt HF2.out.hh; omega⟩
          have HSB : Aside0 (w.heap.size ≤ wa.heap.size) := ⟨by have := HSA.out; omega⟩
          by_cases hn : o.length = 0
          · have hn1 : decide (1 ≤ (o.length : Int)) = false := decide_eq_false (by omega)
            have HN := Aside0.mk hn
            clear hn
            go_quiet (fail)
            go_wp2_with ((with_reducible refine gate_builtin (b := .append) (xs := #[.tmp 67, .tmp 73]) rfl ?_); at_builtin; go_loud (refine Kd.R_append k54 (w0 := wa) w.heap.size rfl (.tmp 67) (.tmp 73) 22 54 (.agg #[(.int .i64 0), (.int .i64 0), (.string ⟨#[]⟩)]) 32 rfl Try.underlying22 info54 rfl (by decide) (by omega) (.slice A2 o.length c2) o (⟨p, q, ⟨#[]⟩⟩ : S54) [.int .i64 p, .int .i64 q, .string ⟨#[]⟩] (fun b => w.heap.size + 2 ≤ b) (fun _ => False) rfl ?aX ?aP (fun _ hk => hk.elim) ?aF ?aO ?aB ?aS ?aL ?_; (case aX => (first | rfl | (simp; done))); (case aP => exact k54_mkM _ _ _ (⟨p, q, ⟨#[]⟩⟩ : S54)); (case aF => exact (fun k_ hk => Nat.le_trans HSA.out (by first | exact hk | simpa using hk))); (case aO => exact (by (with_reducible repeat (first | apply Kd.R_alloc | apply Kd.R_drewN | apply Kd.R_drew)); exact HF2.out.R)); (case aB => exact (by repeat (first | (with_reducible first | exact Below.refl _ _ | apply pw_below_drewN | apply below_drew1) | exact Below.refl _ _))); (case aS => exact HSB.out); (case aL => omega); intro v1 w1 hR1 hB1 hG1 hO1; have hgr := (HF2.out.drewN _).grown (fun k_ hk => by omega) hG1; have hc1 : w1.cell? ⟨w.heap.size, 0, none⟩ = some (.slice A2 o.length c2) := (blk_cell hgr.2 0).trans rfl; have hf1 : w1.frozen? ⟨w.heap.size, 0, none⟩ = false := blk_frozen hgr.2 0; clear hgr; obtain ⟨A1, c1, hv1⟩ := Kd.R_slice hR1; rw [List.length_append, List.length_singleton] at hv1; subst hv1; have HF3 := Aside0.mk (FR.out (HF2.out.drewN _) (fun k_ hk => by omega) (by omega) (Nat.le_refl _) hR1 (below_undrew hB1 _) hG1 hO1); clear hR1 hB1 hG1 hO1))
            go_roundw
            case rel =>
              have htc : tidyCopy o ⟨p, q, t⟩ = o ++ [⟨p, q, ⟨#[]⟩⟩] := by unfold tidyCopy; rw [if_neg (by rintro ⟨h, _⟩; exact h HN.out)]
              refine ⟨k + 1, .slice A1 (o.length + 1) c1, by omega, by go_num, ⟨?_⟩, ⟨?_⟩⟩
              · rw [HTP.out, htc]
                exact (by first | exact HF3.out.self | exact (HF3.out.drewN _).self)
              · exact (below_alloc HB.out _).trans (by first | exact HF3.out.bl | exact (HF3.out.drewN _).bl)
            case measure => simp [intOf]; omega
          · obtain ⟨jn, hjn⟩ : ∃ jn, o.length = jn + 1 := ⟨o.length - 1, by omega⟩
            have hji : (o.length : Int) - 1 = (jn : Int) := by omega
            have hjl : jn < o.length := by omega
            have hjb : decide (jn < o.length) = true := decide_eq_true (by omega)
            rw [hji]
            obtain ⟨g, cap, hv2, hgb, hgl, hgt⟩ := Kd.R_form HF2.out.R (by omega)
            obtain ⟨rfl, rfl⟩ : A2 = some ⟨g, 0, none⟩ ∧ c2 = cap := by injection hv2 with e1 _ e2; exact ⟨e1, e2⟩
            obtain ⟨cy, hcl, hM, hcc, hfr⟩ := Kd.R_elem HF2.out.R z54 (jn : Int) (by omega) (by omega)
            obtain rfl := k54_openM hM
            obtain ⟨y, hy⟩ : ∃ y, y = rd_T54 o (jn : Int) := ⟨_, rfl⟩
            have y0' : wa.cell? ⟨g, jn * 3, none⟩ = some (.int .i64 y.f0) := by rw [hy]; exact hcc 0 _ rfl
            have y1' : wa.cell? ⟨g, jn * 3 + 1, none⟩ = some (.int .i64 y.f1) := by rw [hy]; exact hcc 1 _ rfl
            have y2' : wa.cell? ⟨g, jn * 3 + 2, none⟩ = some (.string y.f2) := by rw [hy]; exact hcc 2 _ rfl
            clear hcl hM hcc hfr
            have HJN := Aside0.mk hjn
            clear hjn hji hn
            have HY := Aside0.mk hy
            clear hy hv2
            have hyl : y.f2.toList.length = y.f2.size := by rw [ByteArray.toList_eq]; exact data_length y.f2
            have hgf : ∀ i, wa.frozen? ⟨g, i, none⟩ = false := fun i => by obtain ⟨cells, hc⟩ := hgt; exact blk_frozen hc i
            have hgf1 := hgf (jn * 3 + 1)
            by_cases hy2 : y.f2.size = 0
            · have hye : y.f2.toList.isEmpty = true := by rw [List.isEmpty_iff, ← List.length_eq_zero_iff, hyl]; exact hy2
              by_cases hyp : wrap64 (y.f0 + y.f1) = p
              · have hpb : (wrap64 (y.f0 + y.f1) == p) = true := beq_iff_eq.mpr hyp
                have htc : tidyCopy o ⟨p, q, t⟩ = o.set jn ⟨y.f0, wrap64 (y.f1 + q), y.f2⟩ := by
                  have hjo : o.length - 1 = jn := by have := HJN.out; omega
                  unfold tidyCopy
                  rw [hjo, ← HY.out, if_pos ⟨by have := HJN.out; omega, hy2, hyp⟩]
                have HTC := Aside0.mk htc
                clear htc
                go_quiet (fail)
                go_wp2_with fail
                go_region
                go_wp2_with fail
                go_roundw
                case rel =>
                  refine ⟨k + 1, .slice (some ⟨g, 0, none⟩) o.length c2, by omega, by go_num, ⟨?_⟩, ⟨?_⟩⟩
                  · rw [HTP.out, HTC.out]
                    have := FR.merge HF2.out (fun k_ hk => by omega) jn hjl (wrap64 (y.f1 + q))
                    rw [← HY.out] at this
                    exact (by first | exact this.self | exact (this.drewN _).self)
                  · have := FR.merge HF2.out (fun k_ hk => by omega) jn hjl (wrap64 (y.f1 + q))
                    exact (below_alloc HB.out _).trans (by first | exact this.bl | exact (this.drewN _).bl)
                case measure => simp [intOf]; omega
              · have hpb : (wrap64 (y.f0 + y.f1) == p) = false := beq_eq_false_iff_ne.mpr hyp
                go_quiet (fail)
                go_wp2_with ((with_reducible refine gate_builtin (b := .append) (xs := #[.tmp 67, .tmp 73]) rfl ?_); at_builtin; go_loud (refine Kd.R_append k54 (w0 := wa) w.heap.size rfl (.tmp 67) (.tmp 73) 22 54 (.agg #[(.int .i64 0), (.int .i64 0), (.string ⟨#[]⟩)]) 32 rfl Try.underlying22 info54 rfl (by decide) (by omega) (.slice (some ⟨g, 0, none⟩) o.length c2) o (⟨p, q, ⟨#[]⟩⟩ : S54) [.int .i64 p, .int .i64 q, .string ⟨#[]⟩] (fun b => w.heap.size + 2 ≤ b) (fun _ => False) rfl ?aX ?aP (fun _ hk => hk.elim) ?aF ?aO ?aB ?aS ?aL ?_; (case aX => (first | rfl | (simp; done))); (case aP => exact k54_mkM _ _ _ (⟨p, q, ⟨#[]⟩⟩ : S54)); (case aF => exact (fun k_ hk => Nat.le_trans HSA.out (by first | exact hk | simpa using hk))); (case aO => exact (by (with_reducible repeat (first | apply Kd.R_alloc | apply Kd.R_drewN | apply Kd.R_drew)); exact HF2.out.R)); (case aB => exact (by repeat (first | (with_reducible first | exact Below.refl _ _ | apply pw_below_drewN | apply below_drew1) | exact Below.refl _ _))); (case aS => exact HSB.out); (case aL => omega); intro v1 w1 hR1 hB1 hG1 hO1; have hgr := (HF2.out.drewN _).grown (fun k_ hk => by omega) hG1; have hc1 : w1.cell? ⟨w.heap.size, 0, none⟩ = some (.slice (some ⟨g, 0, none⟩) o.length c2) := (blk_cell hgr.2 0).trans rfl; have hf1 : w1.frozen? ⟨w.heap.size, 0, none⟩ = false := blk_frozen hgr.2 0; clear hgr; obtain ⟨A1, c1, hv1⟩ := Kd.R_slice hR1; rw [List.length_append, List.length_singleton] at hv1; subst hv1; have HF3 := Aside0.mk (FR.out (HF2.out.drewN _) (fun k_ hk => by omega) (by omega) (Nat.le_refl _) hR1 (below_undrew hB1 _) hG1 hO1); clear hR1 hB1 hG1 hO1))
                go_roundw
                case rel =>
                  have htc : tidyCopy o ⟨p, q, t⟩ = o ++ [⟨p, q, ⟨#[]⟩⟩] := by unfold tidyCopy; rw [if_neg (by rintro ⟨_, _, h⟩; rw [show o.length - 1 = jn from (by have := HJN.out; omega), ← HY.out] at h; exact hyp h)]
                  refine ⟨k + 1, .slice A1 (o.length + 1) c1, by omega, by go_num, ⟨?_⟩, ⟨?_⟩⟩
                  · rw [HTP.out, htc]
                    exact (by first | exact HF3.out.self | exact (HF3.out.drewN _).self)
                  · exact (below_alloc HB.out _).trans (by first | exact HF3.out.bl | exact (HF3.out.drewN _).bl)
                case measure => simp [intOf]; omega
            · have hye : y.f2.toList.isEmpty = false := by rw [Bool.eq_false_iff, Ne, List.isEmpty_iff, ← List.length_eq_zero_iff, hyl]; exact hy2
              go_quiet (fail)
              go_wp2_with ((with_reducible refine gate_builtin (b := .append) (xs := #[.tmp 67, .tmp 73]) rfl ?_); at_builtin; go_loud (refine Kd.R_append k54 (w0 := wa) w.heap.size rfl (.tmp 67) (.tmp 73) 22 54 (.agg #[(.int .i64 0), (.int .i64 0), (.string ⟨#[]⟩)]) 32 rfl Try.underlying22 info54 rfl (by decide) (by omega) (.slice (some ⟨g, 0, none⟩) o.length c2) o (⟨p, q, ⟨#[]⟩⟩ : S54) [.int .i64 p, .int .i64 q, .string ⟨#[]⟩] (fun b => w.heap.size + 2 ≤ b) (fun _ => False) rfl ?aX ?aP (fun _ hk => hk.elim) ?aF ?aO ?aB ?aS ?aL ?_; (case aX => (first | rfl | (simp; done))); (case aP => exact k54_mkM _ _ _ (⟨p, q, ⟨#[]⟩⟩ : S54)); (case aF => exact (fun k_ hk => Nat.le_trans HSA.out (by first | exact hk | simpa using hk))); (case aO => exact (by (with_reducible repeat (first | apply Kd.R_alloc | apply Kd.R_drewN | apply Kd.R_drew)); exact HF2.out.R)); (case aB => exact (by repeat (first | (with_reducible first | exact Below.refl _ _ | apply pw_below_drewN | apply below_drew1) | exact Below.refl _ _))); (case aS => exact HSB.out); (case aL => omega); intro v1 w1 hR1 hB1 hG1 hO1; have hgr := (HF2.out.drewN _).grown (fun k_ hk => by omega) hG1; have hc1 : w1.cell? ⟨w.heap.size, 0, none⟩ = some (.slice (some ⟨g, 0, none⟩) o.length c2) := (blk_cell hgr.2 0).trans rfl; have hf1 : w1.frozen? ⟨w.heap.size, 0, none⟩ = false := blk_frozen hgr.2 0; clear hgr; obtain ⟨A1, c1, hv1⟩ := Kd.R_slice hR1; rw [List.length_append, List.length_singleton] at hv1; subst hv1; have HF3 := Aside0.mk (FR.out (HF2.out.drewN _) (fun k_ hk => by omega) (by omega) (Nat.le_refl _) hR1 (below_undrew hB1 _) hG1 hO1); clear hR1 hB1 hG1 hO1))
              go_roundw
              case rel =>
                have htc : tidyCopy o ⟨p, q, t⟩ = o ++ [⟨p, q, ⟨#[]⟩⟩] := by unfold tidyCopy; rw [if_neg (by rintro ⟨_, h, _⟩; rw [show o.length - 1 = jn from (by have := HJN.out; omega), ← HY.out] at h; exact hy2 h)]
                refine ⟨k + 1, .slice A1 (o.length + 1) c1, by omega, by go_num, ⟨?_⟩, ⟨?_⟩⟩
                · rw [HTP.out, htc]
                  exact (by first | exact HF3.out.self | exact (HF3.out.drewN _).self)
                · exact (below_alloc HB.out _).trans (by first | exact HF3.out.bl | exact (HF3.out.drewN _).bl)
              case measure => simp [intOf]; omega
      · have hem : t.toList.isEmpty = false := by rw [Bool.eq_false_iff, Ne, List.isEmpty_iff, ← List.length_eq_zero_iff, htl]; exact hz
        have hhh : (wr.alloc (.cells #[.int .i64 p, .int .i64 q, .string t] 54 (0, 0))).cell? ⟨w.heap.size + 1, 0, none⟩ = some (.string held) := (blk_cell (blk_alloc HF.out.hh _) 0).trans rfl
        have hhf : (wr.alloc (.cells #[.int .i64 p, .int .i64 q, .string t] 54 (0, 0))).frozen? ⟨w.heap.size + 1, 0, none⟩ = false := blk_frozen (blk_alloc HF.out.hh _) 0
        have hbig : ¬ (9223372036854775807 < held.size + t.size) := (by have := HLEN.out; have := HTS.out; have := HTL.out; have h2 := HOK.out; unfold TidyOk at h2; rw [List.length_take] at *; simp only at *; omega)
        go_wp2_with fail
        go_roundw
        case rel =>
          refine ⟨k + 1, v', by omega, by go_num, ⟨?_⟩, ⟨(below_alloc HB.out _).setCell (p := ⟨w.heap.size + 1, 0, none⟩) (Nat.le_succ _) _⟩⟩
          have e : tidyF (List.take (k + 1) l) = (held ++ t, out) := by rw [HT.out]; unfold tidyS; rw [if_pos hz]
          rw [e]
          exact ((HF.out.alloc _).held (fun b hb => by omega) (by omega) (by omega) _).self
        case measure => simp [intOf]; omega
    · have hke : k = l.length := by omega
      subst hke
      rw [List.take_length] at HF
      have HLEN := Aside0.mk (tidyF_length l)
      have hB2 : w.heap.size + 2 ≤ wr.heap.size := by have := blk_lt HF.out.hh; omega
      have HSL : Aside0 ((tidyF l).1.size ≤ 1000000000 ∧ (tidyF l).2.length ≤ 1000000000) := ⟨by have := HLEN.out; have h2 := HOK.out; unfold TidyOk at h2; omega⟩
      go_wp2_with (go_at_call 32; refine (flush_calls (w.heap.size + 1) w.heap.size w.heap.size (fun b => w.heap.size + 2 ≤ b) v' (tidyF l).2 (tidyF l).1 _ HF.out (by omega) (by omega) (by omega) (by omega) (fun k hk => by omega) (fun k hk => by omega) HSL.out.1 HSL.out.2).mono ?_; rintro _ wa ⟨rfl, v2, t2, ht2, hf2⟩; have HF2 := Aside0.mk hf2; clear hf2; have hbo2 : wa.cell? ⟨w.heap.size, 0, none⟩ = some v2 := (blk_cell HF2.out.ho 0).trans rfl)
      go_ret
      exact ⟨v2, rfl, Kd.R_mono HF2.out.R (fun _ _ => trivial), HB.out.trans HF2.out.bl⟩

def chain_Tidy.f (_k : Nat) (l0 : List S54) : Option (List S54) := if TidyOk l0 then some (tidyV l0) else none
theorem chain_Tidy.mono : ∀ a0 k, LeO (chain_Tidy.f k a0) (chain_Tidy.f (k + 1) a0) := fun _ _ => LeO.refl _
theorem chain_Tidy.calls (k : Nat) (A0 : Option Addr) (c0 : Nat) (l0 : List S54) (r : List S54) (w : World) (hr0 : Kd.C k54 w A0 l0.length l0) (hc0 : l0.length ≤ c0) (h : chain_Tidy.f k l0 = some r) :
    Calls Try.prog 17 #[.slice A0 l0.length c0] w fun e w' => ∃ v0_ : Value, e = .returned v0_ ∧ Kd.R k54 54 w' w.heap.size (fun _ => True) v0_ r ∧ Below w.heap.size w w' := by
  unfold chain_Tidy.f at h
  by_cases hok : TidyOk l0
  · rw [if_pos hok] at h
    obtain rfl := Option.some.inj h
    exact tidy_calls A0 c0 l0 w hr0 hc0 hok
  · rw [if_neg hok] at h
    cases h
end Go.Proofs.Ytjgelmfkoefclaa.PAll


-- from PAllx3
-- Written by a program of this session (wip/tools/hookprint.py, over the print); Lean checks it.
namespace Go.Proofs.Ytjgelmfkoefclaa.PAll
open Go.RowKit Go.Proofs.YtjgelmfkoefclaaW.PrintWords Go.Proofs.YtjgelmfkoefclaaW.PrintLast Go.Proofs.YtjgelmfkoefclaaW.PrintMore
attribute [local go_sem] max2_int min2_int max_two min_two max_three min_three max_four min_four   -- for this text's walks alone
set_option linter.unusedVariables false
set_option linter.unusedSimpArgs false

/- GIVEN: Derived.Test.YtjgelmfkoefclaaGivTidy
def chain_Tidy.f
theorem chain_Tidy.mono
theorem chain_Tidy.calls
-/
end Go.Proofs.Ytjgelmfkoefclaa.PAll


-- from PAllx4
-- Written by a program of this session (wip/tools/hookprint.py, over the print); Lean checks it.
namespace Go.Proofs.Ytjgelmfkoefclaa.PAll
open Go.RowKit Go.Proofs.YtjgelmfkoefclaaW.PrintWords Go.Proofs.YtjgelmfkoefclaaW.PrintLast Go.Proofs.YtjgelmfkoefclaaW.PrintMore
attribute [local go_sem] max2_int min2_int max_two min_two max_three min_three max_four min_four   -- for this text's walks alone
set_option linter.unusedVariables false
set_option linter.unusedSimpArgs false

attribute [local go_sem high] eqA54
/-! ### barquelaw07_awake: function 11 -/
def barquelaw07_awake.f (k : Nat)  : Option (Bool) := (chain_Tidy.f k (([(⟨0, 0, (⟨#[97]⟩ : ByteArray)⟩ : S54), (⟨0, 0, (⟨#[98]⟩ : ByteArray)⟩ : S54), (⟨0, 4, (⟨#[]⟩ : ByteArray)⟩ : S54), (⟨4, 2, (⟨#[]⟩ : ByteArray)⟩ : S54)] : List (S54)))).bind fun t110 => (if (t110.length : Int) = 2 then (if 0 < (t110.length : Int) then (if ((rd_T54 t110 0).f2).toList = ([97, 98] : List UInt8) then (if 1 < (t110.length : Int) then (some (((rd_T54 t110 1).f0) == 0 && (((rd_T54 t110 1).f1) == 6 && ((((rd_T54 t110 1).f2).toList) == ([] : List UInt8))))) else (none)) else (some false)) else (none)) else (some false))
theorem barquelaw07_awake.mono : ∀ k, LeO (barquelaw07_awake.f k ) (barquelaw07_awake.f (k + 1) ) := by
  intro  k
  unfold barquelaw07_awake.f
  repeat' first
      | (with_reducible exact chain_Tidy.mono _ _)
      | (with_reducible exact LeO.refl _)
      | (with_reducible exact LeO.none _)
      | (with_reducible refine LeO.ite ?_ ?_)
      | (with_reducible refine LeO.bind ?_ (fun _ => ?_))
      | exact chain_Tidy.mono _ _
      | exact LeO.none _
      | refine LeO.ite ?_ ?_
      | refine LeO.bind ?_ (fun _ => ?_)
set_option maxHeartbeats 8000000 in
set_option maxRecDepth 100000 in
theorem barquelaw07_awake.calls (k : Nat)  (r : Bool) (w : World) (h : barquelaw07_awake.f k  = some r) :
    Calls Try.prog 11 #[] w fun e w' => e = .returned (.bool r) ∧ Below w.heap.size w w' := by
  have hu54 := Try.underlying54
  have HB := Aside0.mk (Below.refl w.heap.size w)
  have H : ((chain_Tidy.f k (([(⟨0, 0, (⟨#[97]⟩ : ByteArray)⟩ : S54), (⟨0, 0, (⟨#[98]⟩ : ByteArray)⟩ : S54), (⟨0, 4, (⟨#[]⟩ : ByteArray)⟩ : S54), (⟨4, 2, (⟨#[]⟩ : ByteArray)⟩ : S54)] : List (S54)))).bind fun t110 => (if (t110.length : Int) = 2 then (if 0 < (t110.length : Int) then (if ((rd_T54 t110 0).f2).toList = ([97, 98] : List UInt8) then (if 1 < (t110.length : Int) then (some (((rd_T54 t110 1).f0) == 0 && (((rd_T54 t110 1).f1) == 6 && ((((rd_T54 t110 1).f2).toList) == ([] : List UInt8))))) else (none)) else (some false)) else (none)) else (some false))) = some r := h
  clear h
  obtain ⟨y107, hy107⟩ : ∃ y_ : List (S54), y_ = (([(⟨0, 0, (⟨#[97]⟩ : ByteArray)⟩ : S54), (⟨0, 0, (⟨#[98]⟩ : ByteArray)⟩ : S54), (⟨0, 4, (⟨#[]⟩ : ByteArray)⟩ : S54), (⟨4, 2, (⟨#[]⟩ : ByteArray)⟩ : S54)] : List (S54))) := ⟨_, rfl⟩
  replace H : ((chain_Tidy.f k y107).bind fun t110 => (if (t110.length : Int) = 2 then (if 0 < (t110.length : Int) then (if ((rd_T54 t110 0).f2).toList = ([97, 98] : List UInt8) then (if 1 < (t110.length : Int) then (some (((rd_T54 t110 1).f0) == 0 && (((rd_T54 t110 1).f1) == 6 && ((((rd_T54 t110 1).f2).toList) == ([] : List UInt8))))) else (none)) else (some false)) else (none)) else (some false))) = some r := by first | (rw [hy107]; with_reducible exact H) | (have H2_ := (Option.bind_some _ _).symm.trans H; rw [hy107]; with_reducible exact H2_) | (have H2_ := (Option.bind_some _ _).symm.trans H; with_reducible exact H2_) | with_reducible exact H | (rw [hy107]; exact H) | exact H
  have Ny107 := Aside0.mk hy107
  clear hy107
  replace H := Option.bind_eq_some_iff.mp H
  obtain ⟨t110, A10, H⟩ := H
  replace H : (if (t110.length : Int) = 2 then (if 0 < (t110.length : Int) then (if ((rd_T54 t110 0).f2).toList = ([97, 98] : List UInt8) then (if 1 < (t110.length : Int) then (some (((rd_T54 t110 1).f0) == 0 && (((rd_T54 t110 1).f1) == 6 && ((((rd_T54 t110 1).f2).toList) == ([] : List UInt8))))) else (none)) else (some false)) else (none)) else (some false)) = some r := H
  have A1 := Aside0.mk A10
  clear A10
  by_cases c2 : (t110.length : Int) = 2
  · rw [if_pos c2] at H
    have c2b0 : ((t110.length : Int) == 2) = true := beq_iff_eq.mpr c2
    have c2b1 : ((t110.length : Int) != 2) = false := bne_eq_false_iff_eq.mpr c2
    clear c2
    by_cases c3 : 0 < (t110.length : Int)
    · rw [if_pos c3] at H
      have c3b0 : decide (0 < (t110.length : Int)) = true := decide_eq_true c3
      have c3b1 : decide (0 < t110.length) = true := decide_eq_true (by omega)
      clear c3
      by_cases c4 : ((rd_T54 t110 0).f2).toList = ([97, 98] : List UInt8)
      · rw [if_pos c4] at H
        have c4b0 : (((rd_T54 t110 0).f2).toList == ([97, 98] : List UInt8)) = true := beq_iff_eq.mpr c4
        have c4b1 : (((rd_T54 t110 0).f2).toList != ([97, 98] : List UInt8)) = false := bne_eq_false_iff_eq.mpr c4
        clear c4
        by_cases c5 : 1 < (t110.length : Int)
        · rw [if_pos c5] at H
          have c5b0 : decide (1 < (t110.length : Int)) = true := decide_eq_true c5
          have c5b1 : decide (1 < t110.length) = true := decide_eq_true (by omega)
          clear c5
          obtain rfl := Option.some.inj H
          go_enter Try.func11, Try.ntmps11
          go_wp2_with (first | ((with_reducible refine gate_dst (N := 6) rfl ?_); refine Kd.R_lit k54 _ 54 ?hg (N := 6) ?hd (xs := ([(⟨0, 0, (⟨#[97]⟩ : ByteArray)⟩ : S54), (⟨0, 0, (⟨#[98]⟩ : ByteArray)⟩ : S54), (⟨0, 4, (⟨#[]⟩ : ByteArray)⟩ : S54), (⟨4, 2, (⟨#[]⟩ : ByteArray)⟩ : S54)] : List (S54))) (inner := [.int .i64 0, .int .i64 0, .string (⟨#[97]⟩ : ByteArray), .int .i64 0, .int .i64 0, .string (⟨#[98]⟩ : ByteArray), .int .i64 0, .int .i64 4, .string (⟨#[]⟩ : ByteArray), .int .i64 4, .int .i64 2, .string (⟨#[]⟩ : ByteArray)]) (ok := fun _ => True) (okp := fun _ => True) ?hr ?hp (fun _ hk => hk) trivial (Below.refl _ _) (Nat.le_refl _) (by simp) ?_; (case hd => rfl); (case hg => rfl); (case hr => first | (go_simp; done) | (go_simp; rfl)); (case hp => exact (Reps.c3 (show Kd.M k54 _ _ _ (⟨0, 0, (⟨#[97]⟩ : ByteArray)⟩ : S54) [.int .i64 0, .int .i64 0, .string (⟨#[97]⟩ : ByteArray)] from (k54_mkM _ _ _ (⟨0, 0, (⟨#[97]⟩ : ByteArray)⟩ : S54) )) (Reps.c3 (show Kd.M k54 _ _ _ (⟨0, 0, (⟨#[98]⟩ : ByteArray)⟩ : S54) [.int .i64 0, .int .i64 0, .string (⟨#[98]⟩ : ByteArray)] from (k54_mkM _ _ _ (⟨0, 0, (⟨#[98]⟩ : ByteArray)⟩ : S54) )) (Reps.c3 (show Kd.M k54 _ _ _ (⟨0, 4, (⟨#[]⟩ : ByteArray)⟩ : S54) [.int .i64 0, .int .i64 4, .string (⟨#[]⟩ : ByteArray)] from (k54_mkM _ _ _ (⟨0, 4, (⟨#[]⟩ : ByteArray)⟩ : S54) )) (Reps.c3 (show Kd.M k54 _ _ _ (⟨4, 2, (⟨#[]⟩ : ByteArray)⟩ : S54) [.int .i64 4, .int .i64 2, .string (⟨#[]⟩ : ByteArray)] from (k54_mkM _ _ _ (⟨4, 2, (⟨#[]⟩ : ByteArray)⟩ : S54) )) (Reps.none _ _)))))); intro v108 w6 ho7 hb hg_ hnew_; clear hg_ hnew_; (first | rw [← Ny107.out] at ho7 | (simp only [Int.reduceToNat] at ho7; rw [← Ny107.out] at ho7)); have n0_ := Aside0.mk (Kd.R_lower ho7 (below_size (by repeat (first | (with_reducible first | exact HB.out | apply below_alloc | apply pw_below_drewN | apply below_drew1) | exact HB.out)))); have n1_ := Aside0.mk (below_step (by repeat (first | (with_reducible first | exact HB.out | apply below_alloc | apply pw_below_drewN | apply below_drew1) | exact HB.out)) hb); clear HB; have HO109 := n0_; have HB := n1_; clear n0_ n1_; clear hb ho7; obtain ⟨Ao8, co8, eo8⟩ := Kd.R_slice HO109.out; subst eo8) | ((with_reducible refine gate_callee (f := 17) rfl ?_); refine goesL_ (some 7) rfl rfl Try.func17 (by kernel_rfl) rfl #[.slice Ao8 y107.length co8] rfl (by (try simp only [List.map_toArray, List.map_cons, List.map_nil]); first | done | rfl | (simp only [List.length_drop, List.length_take]; rfl)) ?_; (with_reducible refine (chain_Tidy.calls k _ _ y107 t110 _ ?side1 ?side2 A1.out).mono ?_); (case side1 => repeat (first | exact (Kd.R_reads' HO109.out).2.2 | (with_reducible refine Kd.C_alloc ?_ _) | (with_reducible refine Kd.C_drewN ?_ _) | (with_reducible refine Kd.C_drew ?_))); (case side2 => exact (Kd.R_reads' HO109.out).2.1); rintro e w9 ⟨v111, rfl, ho0, hb⟩; refine ⟨_, rfl, ?_⟩; have n0_ := Aside0.mk (Kd.R_elder' (by (with_reducible repeat (first | apply Kd.R_alloc | apply Kd.R_drewN | apply Kd.R_drew)); exact HO109.out) (Kd.R_base ho0) hb); have n1_ := Aside0.mk (Kd.R_lower (Kd.R_new' ho0 (Kd.R_lt (by (with_reducible repeat (first | apply Kd.R_alloc | apply Kd.R_drewN | apply Kd.R_drew)); exact HO109.out))) (below_size (by repeat (first | (with_reducible first | exact HB.out | apply below_alloc | apply pw_below_drewN | apply below_drew1) | exact HB.out)))); have n2_ := Aside0.mk (below_step (by repeat (first | (with_reducible first | exact HB.out | apply below_alloc | apply pw_below_drewN | apply below_drew1) | exact HB.out)) hb); clear HO109; clear HB; have HO109 := n0_; have HO112 := n1_; have HB := n2_; clear n0_ n1_ n2_; (try clear hb); (try clear hb2); (try clear hk); (try clear hi); (try clear ho0); obtain ⟨Ao10, co10, eo10⟩ := Kd.R_slice HO112.out; subst eo10; have p113 : 0 ≤ (0 : Int) := (by omega); have q113 : 0 < (t110.length : Int) := of_decide_eq_true (by first | (with_reducible assumption) | assumption); obtain ⟨ad113, e113, hx113_0, hx113_1, hx113_2⟩ := at_T54 (Kd.R_reads' HO112.out).2.2 0 p113 q113; cases e113; have qi113 : (0 < t110.length) = True := eq_true (by omega); (try rw [show ((0 : Int)).toNat = 0 from rfl] at hx113_0); (try rw [show 0 * 3 = 0 from rfl] at hx113_0); (try rw [Addr.add_zero'] at hx113_0); (try rw [show ((0 : Int)).toNat = 0 from rfl] at hx113_1); (try rw [show 0 * 3 = 0 from rfl] at hx113_1); (try rw [Addr.add_zero'] at hx113_1); (try rw [show ((0 : Int)).toNat = 0 from rfl] at hx113_2); (try rw [show 0 * 3 = 0 from rfl] at hx113_2); (try rw [Addr.add_zero'] at hx113_2); replace p113 := eq_true p113; replace q113 := eq_true q113; have p114 : 0 ≤ (1 : Int) := (by omega); have q114 : 1 < (t110.length : Int) := of_decide_eq_true (by first | (with_reducible assumption) | assumption); obtain ⟨ad114, e114, hx114_0, hx114_1, hx114_2⟩ := at_T54 (Kd.R_reads' HO112.out).2.2 1 p114 q114; obtain rfl : ad113 = ad114 := (by injection e114); (try simp only [show (1 : Int).toNat = 1 from rfl, Nat.reduceMul, Nat.reduceEqDiff, Go.Addr.add, ↓reduceIte] at hx114_0); (try simp only [show (1 : Int).toNat = 1 from rfl, Nat.reduceMul, Nat.reduceEqDiff, Go.Addr.add, ↓reduceIte] at hx114_1); (try simp only [show (1 : Int).toNat = 1 from rfl, Nat.reduceMul, Nat.reduceEqDiff, Go.Addr.add, ↓reduceIte] at hx114_2); have qi114 : (1 < t110.length) = True := eq_true (by omega); (try rw [show ((1 : Int)).toNat = 1 from rfl] at hx114_0); (try rw [show 1 * 3 = 3 from rfl] at hx114_0); (try rw [show ((1 : Int)).toNat = 1 from rfl] at hx114_1); (try rw [show 1 * 3 = 3 from rfl] at hx114_1); (try rw [show ((1 : Int)).toNat = 1 from rfl] at hx114_2); (try rw [show 1 * 3 = 3 from rfl] at hx114_2); replace p114 := eq_true p114; replace q114 := eq_true q114))
          go_ret
          exact ⟨by first | rfl | (simp [errW_none, errW_some] <;> rfl) | (simp [*, errW_none, errW_some] <;> rfl), by repeat (first | (with_reducible first | exact HB.out | apply below_alloc | apply pw_below_drewN | apply below_drew1) | exact HB.out)⟩
        · rw [if_neg c5] at H
          exact absurd H (by simp)
      · rw [if_neg c4] at H
        have c4b0 : (((rd_T54 t110 0).f2).toList == ([97, 98] : List UInt8)) = false := beq_eq_false_iff_ne.mpr c4
        have c4b1 : (((rd_T54 t110 0).f2).toList != ([97, 98] : List UInt8)) = true := bne_iff_ne.mpr c4
        obtain rfl := Option.some.inj H
        go_enter Try.func11, Try.ntmps11
        go_wp2_with (first | ((with_reducible refine gate_dst (N := 6) rfl ?_); refine Kd.R_lit k54 _ 54 ?hg (N := 6) ?hd (xs := ([(⟨0, 0, (⟨#[97]⟩ : ByteArray)⟩ : S54), (⟨0, 0, (⟨#[98]⟩ : ByteArray)⟩ : S54), (⟨0, 4, (⟨#[]⟩ : ByteArray)⟩ : S54), (⟨4, 2, (⟨#[]⟩ : ByteArray)⟩ : S54)] : List (S54))) (inner := [.int .i64 0, .int .i64 0, .string (⟨#[97]⟩ : ByteArray), .int .i64 0, .int .i64 0, .string (⟨#[98]⟩ : ByteArray), .int .i64 0, .int .i64 4, .string (⟨#[]⟩ : ByteArray), .int .i64 4, .int .i64 2, .string (⟨#[]⟩ : ByteArray)]) (ok := fun _ => True) (okp := fun _ => True) ?hr ?hp (fun _ hk => hk) trivial (Below.refl _ _) (Nat.le_refl _) (by simp) ?_; (case hd => rfl); (case hg => rfl); (case hr => first | (go_simp; done) | (go_simp; rfl)); (case hp => exact (Reps.c3 (show Kd.M k54 _ _ _ (⟨0, 0, (⟨#[97]⟩ : ByteArray)⟩ : S54) [.int .i64 0, .int .i64 0, .string (⟨#[97]⟩ : ByteArray)] from (k54_mkM _ _ _ (⟨0, 0, (⟨#[97]⟩ : ByteArray)⟩ : S54) )) (Reps.c3 (show Kd.M k54 _ _ _ (⟨0, 0, (⟨#[98]⟩ : ByteArray)⟩ : S54) [.int .i64 0, .int .i64 0, .string (⟨#[98]⟩ : ByteArray)] from (k54_mkM _ _ _ (⟨0, 0, (⟨#[98]⟩ : ByteArray)⟩ : S54) )) (Reps.c3 (show Kd.M k54 _ _ _ (⟨0, 4, (⟨#[]⟩ : ByteArray)⟩ : S54) [.int .i64 0, .int .i64 4, .string (⟨#[]⟩ : ByteArray)] from (k54_mkM _ _ _ (⟨0, 4, (⟨#[]⟩ : ByteArray)⟩ : S54) )) (Reps.c3 (show Kd.M k54 _ _ _ (⟨4, 2, (⟨#[]⟩ : ByteArray)⟩ : S54) [.int .i64 4, .int .i64 2, .string (⟨#[]⟩ : ByteArray)] from (k54_mkM _ _ _ (⟨4, 2, (⟨#[]⟩ : ByteArray)⟩ : S54) )) (Reps.none _ _)))))); intro v108 w11 ho12 hb hg_ hnew_; clear hg_ hnew_; (first | rw [← Ny107.out] at ho12 | (simp only [Int.reduceToNat] at ho12; rw [← Ny107.out] at ho12)); have n0_ := Aside0.mk (Kd.R_lower ho12 (below_size (by repeat (first | (with_reducible first | exact HB.out | apply below_alloc | apply pw_below_drewN | apply below_drew1) | exact HB.out)))); have n1_ := Aside0.mk (below_step (by repeat (first | (with_reducible first | exact HB.out | apply below_alloc | apply pw_below_drewN | apply below_drew1) | exact HB.out)) hb); clear HB; have HO109 := n0_; have HB := n1_; clear n0_ n1_; clear hb ho12; obtain ⟨Ao13, co13, eo13⟩ := Kd.R_slice HO109.out; subst eo13) | ((with_reducible refine gate_callee (f := 17) rfl ?_); refine goesL_ (some 7) rfl rfl Try.func17 (by kernel_rfl) rfl #[.slice Ao13 y107.length co13] rfl (by (try simp only [List.map_toArray, List.map_cons, List.map_nil]); first | done | rfl | (simp only [List.length_drop, List.length_take]; rfl)) ?_; (with_reducible refine (chain_Tidy.calls k _ _ y107 t110 _ ?side1 ?side2 A1.out).mono ?_); (case side1 => repeat (first | exact (Kd.R_reads' HO109.out).2.2 | (with_reducible refine Kd.C_alloc ?_ _) | (with_reducible refine Kd.C_drewN ?_ _) | (with_reducible refine Kd.C_drew ?_))); (case side2 => exact (Kd.R_reads' HO109.out).2.1); rintro e w14 ⟨v111, rfl, ho0, hb⟩; refine ⟨_, rfl, ?_⟩; have n0_ := Aside0.mk (Kd.R_elder' (by (with_reducible repeat (first | apply Kd.R_alloc | apply Kd.R_drewN | apply Kd.R_drew)); exact HO109.out) (Kd.R_base ho0) hb); have n1_ := Aside0.mk (Kd.R_lower (Kd.R_new' ho0 (Kd.R_lt (by (with_reducible repeat (first | apply Kd.R_alloc | apply Kd.R_drewN | apply Kd.R_drew)); exact HO109.out))) (below_size (by repeat (first | (with_reducible first | exact HB.out | apply below_alloc | apply pw_below_drewN | apply below_drew1) | exact HB.out)))); have n2_ := Aside0.mk (below_step (by repeat (first | (with_reducible first | exact HB.out | apply below_alloc | apply pw_below_drewN | apply below_drew1) | exact HB.out)) hb); clear HO109; clear HB; have HO109 := n0_; have HO112 := n1_; have HB := n2_; clear n0_ n1_ n2_; (try clear hb); (try clear hb2); (try clear hk); (try clear hi); (try clear ho0); obtain ⟨Ao15, co15, eo15⟩ := Kd.R_slice HO112.out; subst eo15; have p113 : 0 ≤ (0 : Int) := (by omega); have q113 : 0 < (t110.length : Int) := of_decide_eq_true (by first | (with_reducible assumption) | assumption); obtain ⟨ad113, e113, hx113_0, hx113_1, hx113_2⟩ := at_T54 (Kd.R_reads' HO112.out).2.2 0 p113 q113; cases e113; have qi113 : (0 < t110.length) = True := eq_true (by omega); (try rw [show ((0 : Int)).toNat = 0 from rfl] at hx113_0); (try rw [show 0 * 3 = 0 from rfl] at hx113_0); (try rw [Addr.add_zero'] at hx113_0); (try rw [show ((0 : Int)).toNat = 0 from rfl] at hx113_1); (try rw [show 0 * 3 = 0 from rfl] at hx113_1); (try rw [Addr.add_zero'] at hx113_1); (try rw [show ((0 : Int)).toNat = 0 from rfl] at hx113_2); (try rw [show 0 * 3 = 0 from rfl] at hx113_2); (try rw [Addr.add_zero'] at hx113_2); replace p113 := eq_true p113; replace q113 := eq_true q113))
        go_ret
        exact ⟨by first | rfl | (simp [errW_none, errW_some] <;> rfl) | (simp [*, errW_none, errW_some] <;> rfl), by repeat (first | (with_reducible first | exact HB.out | apply below_alloc | apply pw_below_drewN | apply below_drew1) | exact HB.out)⟩
    · rw [if_neg c3] at H
      exact absurd H (by simp)
  · rw [if_neg c2] at H
    have c2b0 : ((t110.length : Int) == 2) = false := beq_eq_false_iff_ne.mpr c2
    have c2b1 : ((t110.length : Int) != 2) = true := bne_iff_ne.mpr c2
    obtain rfl := Option.some.inj H
    go_enter Try.func11, Try.ntmps11
    go_wp2_with (first | ((with_reducible refine gate_dst (N := 6) rfl ?_); refine Kd.R_lit k54 _ 54 ?hg (N := 6) ?hd (xs := ([(⟨0, 0, (⟨#[97]⟩ : ByteArray)⟩ : S54), (⟨0, 0, (⟨#[98]⟩ : ByteArray)⟩ : S54), (⟨0, 4, (⟨#[]⟩ : ByteArray)⟩ : S54), (⟨4, 2, (⟨#[]⟩ : ByteArray)⟩ : S54)] : List (S54))) (inner := [.int .i64 0, .int .i64 0, .string (⟨#[97]⟩ : ByteArray), .int .i64 0, .int .i64 0, .string (⟨#[98]⟩ : ByteArray), .int .i64 0, .int .i64 4, .string (⟨#[]⟩ : ByteArray), .int .i64 4, .int .i64 2, .string (⟨#[]⟩ : ByteArray)]) (ok := fun _ => True) (okp := fun _ => True) ?hr ?hp (fun _ hk => hk) trivial (Below.refl _ _) (Nat.le_refl _) (by simp) ?_; (case hd => rfl); (case hg => rfl); (case hr => first | (go_simp; done) | (go_simp; rfl)); (case hp => exact (Reps.c3 (show Kd.M k54 _ _ _ (⟨0, 0, (⟨#[97]⟩ : ByteArray)⟩ : S54) [.int .i64 0, .int .i64 0, .string (⟨#[97]⟩ : ByteArray)] from (k54_mkM _ _ _ (⟨0, 0, (⟨#[97]⟩ : ByteArray)⟩ : S54) )) (Reps.c3 (show Kd.M k54 _ _ _ (⟨0, 0, (⟨#[98]⟩ : ByteArray)⟩ : S54) [.int .i64 0, .int .i64 0, .string (⟨#[98]⟩ : ByteArray)] from (k54_mkM _ _ _ (⟨0, 0, (⟨#[98]⟩ : ByteArray)⟩ : S54) )) (Reps.c3 (show Kd.M k54 _ _ _ (⟨0, 4, (⟨#[]⟩ : ByteArray)⟩ : S54) [.int .i64 0, .int .i64 4, .string (⟨#[]⟩ : ByteArray)] from (k54_mkM _ _ _ (⟨0, 4, (⟨#[]⟩ : ByteArray)⟩ : S54) )) (Reps.c3 (show Kd.M k54 _ _ _ (⟨4, 2, (⟨#[]⟩ : ByteArray)⟩ : S54) [.int .i64 4, .int .i64 2, .string (⟨#[]⟩ : ByteArray)] from (k54_mkM _ _ _ (⟨4, 2, (⟨#[]⟩ : ByteArray)⟩ : S54) )) (Reps.none _ _)))))); intro v108 w16 ho17 hb hg_ hnew_; clear hg_ hnew_; (first | rw [← Ny107.out] at ho17 | (simp only [Int.reduceToNat] at ho17; rw [← Ny107.out] at ho17)); have n0_ := Aside0.mk (Kd.R_lower ho17 (below_size (by repeat (first | (with_reducible first | exact HB.out | apply below_alloc | apply pw_below_drewN | apply below_drew1) | exact HB.out)))); have n1_ := Aside0.mk (below_step (by repeat (first | (with_reducible first | exact HB.out | apply below_alloc | apply pw_below_drewN | apply below_drew1) | exact HB.out)) hb); clear HB; have HO109 := n0_; have HB := n1_; clear n0_ n1_; clear hb ho17; obtain ⟨Ao18, co18, eo18⟩ := Kd.R_slice HO109.out; subst eo18) | ((with_reducible refine gate_callee (f := 17) rfl ?_); refine goesL_ (some 7) rfl rfl Try.func17 (by kernel_rfl) rfl #[.slice Ao18 y107.length co18] rfl (by (try simp only [List.map_toArray, List.map_cons, List.map_nil]); first | done | rfl | (simp only [List.length_drop, List.length_take]; rfl)) ?_; (with_reducible refine (chain_Tidy.calls k _ _ y107 t110 _ ?side1 ?side2 A1.out).mono ?_); (case side1 => repeat (first | exact (Kd.R_reads' HO109.out).2.2 | (with_reducible refine Kd.C_alloc ?_ _) | (with_reducible refine Kd.C_drewN ?_ _) | (with_reducible refine Kd.C_drew ?_))); (case side2 => exact (Kd.R_reads' HO109.out).2.1); rintro e w19 ⟨v111, rfl, ho0, hb⟩; refine ⟨_, rfl, ?_⟩; have n0_ := Aside0.mk (Kd.R_elder' (by (with_reducible repeat (first | apply Kd.R_alloc | apply Kd.R_drewN | apply Kd.R_drew)); exact HO109.out) (Kd.R_base ho0) hb); have n1_ := Aside0.mk (Kd.R_lower (Kd.R_new' ho0 (Kd.R_lt (by (with_reducible repeat (first | apply Kd.R_alloc | apply Kd.R_drewN | apply Kd.R_drew)); exact HO109.out))) (below_size (by repeat (first | (with_reducible first | exact HB.out | apply below_alloc | apply pw_below_drewN | apply below_drew1) | exact HB.out)))); have n2_ := Aside0.mk (below_step (by repeat (first | (with_reducible first | exact HB.out | apply below_alloc | apply pw_below_drewN | apply below_drew1) | exact HB.out)) hb); clear HO109; clear HB; have HO109 := n0_; have HO112 := n1_; have HB := n2_; clear n0_ n1_ n2_; (try clear hb); (try clear hb2); (try clear hk); (try clear hi); (try clear ho0); obtain ⟨Ao20, co20, eo20⟩ := Kd.R_slice HO112.out; subst eo20))
    go_ret
    exact ⟨by first | rfl | (simp [errW_none, errW_some] <;> rfl) | (simp [*, errW_none, errW_some] <;> rfl), by repeat (first | (with_reducible first | exact HB.out | apply below_alloc | apply pw_below_drewN | apply below_drew1) | exact HB.out)⟩

end Go.Proofs.Ytjgelmfkoefclaa.PAll


-- from AwakeLaw
/- Chapter 7's example. -/
namespace Go.Proofs.Ytjgelmfkoefclaa.Pure
open Go.RowKit Go.Proofs.YtjgelmfkoefclaaW.PrintWords Go.Proofs.YtjgelmfkoefclaaW.PrintLast Go.Proofs.YtjgelmfkoefclaaW.PrintMore Go.Proofs.Ytjgelmfkoefclaa.PAll
set_option linter.unusedVariables false
set_option linter.unusedSimpArgs false

theorem awake_tidy : tidyV [(⟨0, 0, (⟨#[97]⟩ : ByteArray)⟩ : S54), (⟨0, 0, (⟨#[98]⟩ : ByteArray)⟩ : S54), (⟨0, 4, (⟨#[]⟩ : ByteArray)⟩ : S54), (⟨4, 2, (⟨#[]⟩ : ByteArray)⟩ : S54)] = [⟨0, 0, ⟨#[97, 98]⟩⟩, ⟨0, 6, ⟨#[]⟩⟩] := by kernel_rfl
theorem awake07 (k : Nat) : barquelaw07_awake.f k = some true := by
  unfold barquelaw07_awake.f chain_Tidy.f
  rw [if_pos ⟨by decide, Nat.le_trans (Nat.le_of_eq (show textSum _ = 2 from rfl)) (by decide)⟩, Option.bind_some, awake_tidy]
  rw [if_pos (by rfl), if_pos (by decide), if_pos (by show (⟨#[97, 98]⟩ : ByteArray).toList = [97, 98]; rw [ByteArray.toList_eq]), if_pos (by decide)]
  show some ((0 : Int) == 0 && ((6 : Int) == 6 && ((⟨#[]⟩ : ByteArray).toList == []))) = some true
  rw [ByteArray.toList_eq]
  rfl
end Go.Proofs.Ytjgelmfkoefclaa.Pure


-- from GivPieceLaw
namespace Go.Proofs.Ytjgelmfkoefclaa.PAll
open Go.RowKit Go.Proofs.YtjgelmfkoefclaaW.PrintWords Go.Proofs.YtjgelmfkoefclaaW.PrintLast Go.Proofs.YtjgelmfkoefclaaW.PrintMore
set_option linter.unusedVariables false
set_option linter.unusedSimpArgs false
attribute [local go_sem] max2_int min2_int max_two min_two

/-- A piece of a step. -/
def cutV (x : S54) (off n : Nat) : S54 := if x.f2.size = 0 then ⟨wrap64 (x.f0 + off), n, ⟨#[]⟩⟩ else ⟨0, 0, x.f2.extract off (off + n)⟩
/-- The steps that make n bytes, off bytes into the first. -/
def pieceN : List S54 → Nat → Nat → List S54
  | [], _, _ => []
  | x :: r, off, n => if n = 0 then [] else cutV x off (min n (lenN x - off)) :: pieceN r 0 (n - min n (lenN x - off))
/-- The same, from a place in the whole. -/
def pieceAt : List S54 → Nat → Nat → List S54
  | [], _, _ => []
  | x :: r, at_, n => if at_ < lenN x then pieceN (x :: r) at_ n else pieceAt r (at_ - lenN x) n
theorem sumT_eq (l : List S54) (h : StepsOk l) (k : Nat) (hk : k ≤ l.length) : sumT l k = (sumN (l.take k) : Nat) := by
  induction k with
  | zero => rfl
  | succ k ih =>
    have hx := h.2.2 _ (rd68_mem l k (by omega))
    have hs := sumN_take_le l (k + 1)
    have hs2 := h.2.1
    rw [sumN_take_succ l k (by omega)] at hs ⊢
    rw [sumT_succ l k (by omega), ih (by omega), len_wrap _ hx.2.1 (by omega)]
    unfold wrap64
    omega
theorem rd_from (l : List S54) (h : StepsOk l) (k : Nat) (hk : k < l.length) : rd (fromT l l.length) (k : Nat) = (sumN (l.take k) : Nat) := by
  rw [← sumT_eq l h k (by omega)]
  unfold rd fromT
  rw [Int.toNat_natCast, List.getD_eq_getElem?_getD, List.getElem?_map, List.getElem?_range hk]
  rfl
theorem pieceN_zero (l : List S54) (off : Nat) : pieceN l off 0 = [] := by cases l <;> simp [pieceN]
theorem pieceAt_eq (l : List S54) (i a n : Nat) (hi : i < l.length) (h1 : sumN (l.take i) ≤ a) (h2 : a < sumN (l.take (i + 1))) : pieceAt l a n = pieceN (l.drop i) (a - sumN (l.take i)) n := by
  induction l generalizing i a with
  | nil => simp at hi
  | cons x l ih =>
    cases i with
    | zero =>
      simp only [List.take_succ_cons, List.take_zero, sumN_cons] at h2
      rw [pieceAt, if_pos (by simp [sumN] at h2; omega)]
      simp [sumN]
    | succ i =>
      simp only [List.take_succ_cons, sumN_cons] at h1 h2
      rw [pieceAt, if_neg (by omega), ih i (a - lenN x) (by simpa using hi) (by omega) (by omega), List.drop_succ_cons, List.take_succ_cons, sumN_cons]
      congr 1
      omega
theorem pieceN_step (l : List S54) (i : Nat) (h : i < l.length) (off m : Nat) (hm : 0 < m) : pieceN (l.drop i) off m = cutV (rd_T54 l (i : Nat)) off (min m (lenN (rd_T54 l (i : Nat)) - off)) :: pieceN (l.drop (i + 1)) 0 (m - min m (lenN (rd_T54 l (i : Nat)) - off)) := by
  have hd : l.drop i = rd_T54 l (i : Nat) :: l.drop (i + 1) := by
    unfold rd_T54
    rw [Int.toNat_natCast, List.getD_eq_getElem?_getD, List.getElem?_eq_getElem h]
    exact List.drop_eq_getElem_cons h
  rw [hd, pieceN, if_neg (by omega)]

end Go.Proofs.Ytjgelmfkoefclaa.PAll


-- from TidyLaw
/- Steps and bytes: a tidy text of steps is what its bytes make. -/
namespace Go.Proofs.Ytjgelmfkoefclaa.Pure
open Go.RowKit Go.Proofs.YtjgelmfkoefclaaW.PrintWords Go.Proofs.YtjgelmfkoefclaaW.PrintLast Go.Proofs.YtjgelmfkoefclaaW.PrintMore Go.Proofs.Ytjgelmfkoefclaa.PAll
set_option linter.unusedVariables false
set_option linter.unusedSimpArgs false

def in64 (n : Int) : Prop := -9223372036854775808 ≤ n ∧ n ≤ 9223372036854775807
theorem wrap_in {n : Int} (h : in64 n) : wrap64 n = n := by unfold in64 at h; unfold wrap64; omega
theorem wrap_add (a b : Int) : wrap64 (a + wrap64 b) = wrap64 (a + b) := by unfold wrap64; omega
theorem wrap_addl (a b : Int) : wrap64 (wrap64 a + b) = wrap64 (a + b) := by unfold wrap64; omega

def told (s : ByteArray) : List S59 := (List.range s.size).map (fun i => ⟨true, 0, bt s (i : Nat)⟩)
def froms (p : Int) (n : Nat) : List S59 := (List.range n).map (fun k => ⟨false, wrap64 (p + (k : Nat)), 0⟩)
def bytes1 (x : S54) : List S59 := if x.f2.size ≠ 0 then told x.f2 else froms x.f0 x.f1.toNat
def bytesV (l : List S54) : List S59 := l.flatMap bytes1

def stepS (st : ByteArray × List S54) (b : S59) : ByteArray × List S54 :=
  if b.f0 then (st.1 ++ strOfNums [b.f2], st.2) else (⟨#[]⟩, tidyCopy (st.2 ++ flushN st.1.size st.1) ⟨b.f1, 1, ⟨#[]⟩⟩)
def stepsF (bs : List S59) : ByteArray × List S54 := bs.foldl stepS (⟨#[]⟩, [])
def stepsV (bs : List S59) : List S54 := (stepsF bs).2 ++ flushN (stepsF bs).1.size (stepsF bs).1

theorem rd68_last (o : List S54) (y : S54) : rd_T54 (o ++ [y]) (((o ++ [y]).length - 1 : Nat) : Int) = y := by
  unfold rd_T54
  rw [Int.toNat_natCast]
  simp
theorem set_last (o : List S54) (y z : S54) : (o ++ [y]).set ((o ++ [y]).length - 1) z = o ++ [z] := by
  simp
theorem copy_nil (x : S54) : tidyCopy [] x = [⟨x.f0, x.f1, ⟨#[]⟩⟩] := by simp [tidyCopy]
theorem copy_merge (o : List S54) (y x : S54) (h2 : y.f2.size = 0) (hp : wrap64 (y.f0 + y.f1) = x.f0) : tidyCopy (o ++ [y]) x = o ++ [⟨y.f0, wrap64 (y.f1 + x.f1), y.f2⟩] := by
  unfold tidyCopy
  rw [rd68_last, if_pos ⟨by simp, h2, hp⟩, set_last]
theorem copy_new (o : List S54) (y x : S54) (h : ¬ (y.f2.size = 0 ∧ wrap64 (y.f0 + y.f1) = x.f0)) : tidyCopy (o ++ [y]) x = o ++ [y] ++ [⟨x.f0, x.f1, ⟨#[]⟩⟩] := by
  unfold tidyCopy
  rw [rd68_last, if_neg (fun hh => h hh.2)]
theorem list_last {α : Type} (o : List α) : o = [] ∨ ∃ o' y, o = o' ++ [y] := by
  cases h : o.reverse with
  | nil => exact .inl (List.reverse_eq_nil_iff.mp h)
  | cons y t => exact .inr ⟨t.reverse, y, by rw [← List.reverse_reverse o, h, List.reverse_cons]⟩
theorem copy_copy (o : List S54) (p a b : Int) (s t u : ByteArray) : tidyCopy (tidyCopy o ⟨p, a, s⟩) ⟨wrap64 (p + a), b, t⟩ = tidyCopy o ⟨p, wrap64 (a + b), u⟩ := by
  have e0 : (⟨#[]⟩ : ByteArray).size = 0 := rfl
  rcases list_last o with rfl | ⟨o, y, rfl⟩
  · rw [copy_nil, copy_nil]
    exact copy_merge [] ⟨p, a, ⟨#[]⟩⟩ ⟨wrap64 (p + a), b, t⟩ e0 rfl
  · by_cases h : y.f2.size = 0 ∧ wrap64 (y.f0 + y.f1) = p
    · rw [copy_merge _ _ _ h.1 h.2, copy_merge _ _ _ h.1 h.2, copy_merge]
      · simp only [wrap_addl, wrap_add, Int.add_assoc]
      · exact h.1
      · show wrap64 (y.f0 + wrap64 (y.f1 + a)) = wrap64 (p + a)
        rw [← h.2, wrap_add, wrap_addl, Int.add_assoc]
    · rw [copy_new o y ⟨p, a, s⟩ h, copy_new o y ⟨p, wrap64 (a + b), u⟩ h]
      exact copy_merge (o ++ [y]) ⟨p, a, ⟨#[]⟩⟩ ⟨wrap64 (p + a), b, t⟩ e0 rfl

theorem told_one (s : ByteArray) (m : Nat) (hm : m < s.size) : s.extract 0 m ++ strOfNums [bt s (m : Nat)] = s.extract 0 (m + 1) := by
  have e : bt s (m : Nat) = ((s[m]'hm).toNat : Int) := by
    unfold bt
    rw [dif_pos (by rw [Int.toNat_natCast]; exact hm)]
    simp only [Int.toNat_natCast]
  rw [e]
  unfold strOfNums
  apply ByteArray.ext
  rw [ByteArray.data_append, ByteArray.data_extract, ByteArray.data_extract]
  apply Array.toList_inj.mp
  simp only [List.map_cons, List.map_nil, Int.toNat_natCast, UInt8.ofNat_toNat, Array.toList_append, Array.toList_extract, List.extract_eq_take_drop, List.drop_zero, Nat.sub_zero]
  rw [List.take_add_one]
  congr 1
  have hm' : m < s.data.size := hm
  rw [List.getElem?_eq_getElem (by rw [Array.length_toList]; exact hm')]
  rfl
theorem told_fold (s : ByteArray) (m : Nat) (hm : m ≤ s.size) (h : ByteArray) (o : List S54) : ((List.range m).map (fun i => (⟨true, 0, bt s (i : Nat)⟩ : S59))).foldl stepS (h, o) = (h ++ s.extract 0 m, o) := by
  induction m with
  | zero => simp
  | succ m ih =>
    rw [List.range_succ, List.map_append, List.foldl_append, ih (by omega)]
    show (h ++ s.extract 0 m ++ strOfNums [bt s (m : Nat)], o) = _
    rw [ByteArray.append_assoc, told_one s m (by omega)]
theorem froms_fold (p : Int) (hp : in64 p) (m : Nat) (hm : m ≤ 9223372036854775806) (h : ByteArray) (o : List S54) : (froms p (m + 1)).foldl stepS (h, o) = (⟨#[]⟩, tidyCopy (o ++ flushN h.size h) ⟨p, (m + 1 : Nat), ⟨#[]⟩⟩) := by
  induction m with
  | zero =>
    show stepS (h, o) ⟨false, wrap64 (p + (0 : Nat)), 0⟩ = _
    rw [show wrap64 (p + (0 : Nat)) = p from by rw [show p + ((0 : Nat) : Int) = p from by omega]; exact wrap_in hp]
    rfl
  | succ m ih =>
    unfold froms at *
    rw [List.range_succ, List.map_append, List.foldl_append, ih (by omega)]
    show ((⟨#[]⟩ : ByteArray), tidyCopy (tidyCopy (o ++ flushN h.size h) ⟨p, ((m + 1 : Nat) : Int), ⟨#[]⟩⟩ ++ flushN (⟨#[]⟩ : ByteArray).size ⟨#[]⟩) ⟨wrap64 (p + ((m + 1 : Nat) : Int)), 1, ⟨#[]⟩⟩) = _
    rw [flushN_zero ⟨#[]⟩ rfl, List.append_nil, copy_copy _ _ _ _ _ _ ⟨#[]⟩, wrap_in (by unfold in64; omega)]
    rfl
theorem bytes1_fold (x : S54) (h0 : in64 x.f0) (h1 : in64 x.f1) (st : ByteArray × List S54) : (bytes1 x).foldl stepS st = tidyS st x := by
  obtain ⟨h, o⟩ := st
  unfold bytes1 tidyS
  split
  · unfold told
    rw [told_fold _ _ (Nat.le_refl _)]
    simp
  · split
    · rename_i hq
      rw [show x.f1.toNat = 0 from by omega]
      rfl
    · rename_i h2 hq
      obtain ⟨m, hm⟩ : ∃ m, x.f1.toNat = m + 1 := ⟨x.f1.toNat - 1, by omega⟩
      unfold in64 at h1
      rw [hm, froms_fold _ h0 m (by omega)]
      have e : ((m + 1 : Nat) : Int) = x.f1 := by omega
      unfold tidyCopy
      simp only [e]
theorem steps_bytes (l : List S54) (h : ∀ x ∈ l, in64 x.f0 ∧ in64 x.f1) : stepsV (bytesV l) = tidyV l := by
  have key : ∀ (l : List S54), (∀ x ∈ l, in64 x.f0 ∧ in64 x.f1) → ∀ st, (bytesV l).foldl stepS st = l.foldl tidyS st := by
    intro l
    induction l with
    | nil => intro _ st; rfl
    | cons x l ih =>
      intro h st
      unfold bytesV at *
      rw [List.flatMap_cons, List.foldl_append, bytes1_fold _ (h x (List.mem_cons_self ..)).1 (h x (List.mem_cons_self ..)).2, ih (fun y hy => h y (List.mem_cons_of_mem _ hy))]
      rfl
  unfold stepsV stepsF tidyV tidyF
  rw [key l h]

def lenSum (l : List S54) : Nat := (l.map (fun x => x.f1.toNat)).foldr (· + ·) 0
theorem bytesV_append (a b : List S54) : bytesV (a ++ b) = bytesV a ++ bytesV b := by unfold bytesV; exact List.flatMap_append
theorem bytesV_one (x : S54) : bytesV [x] = bytes1 x := by simp [bytesV]
theorem textSum_append (a b : List S54) : textSum (a ++ b) = textSum a + textSum b := by
  unfold textSum
  induction a with
  | nil => simp
  | cons x a ih => simp only [List.cons_append, List.map_cons, List.foldr_cons] at *; omega
theorem textSum_one (x : S54) : textSum [x] = x.f2.size := by simp [textSum]
theorem lenSum_append (a b : List S54) : lenSum (a ++ b) = lenSum a + lenSum b := by
  unfold lenSum
  induction a with
  | nil => simp
  | cons x a ih => simp only [List.cons_append, List.map_cons, List.foldr_cons] at *; omega
theorem lenSum_one (x : S54) : lenSum [x] = x.f1.toNat := by simp [lenSum]
theorem told_append (s t : ByteArray) : told (s ++ t) = told s ++ told t := by
  unfold told
  rw [ByteArray.size_append, List.range_add, List.map_append, List.map_map]
  congr 1
  · apply List.map_congr_left
    intro i hi
    rw [List.mem_range] at hi
    have : bt (s ++ t) (i : Nat) = bt s (i : Nat) := by
      unfold bt
      simp only [Int.toNat_natCast]
      rw [dif_pos hi, dif_pos (by rw [ByteArray.size_append]; omega), ByteArray.getElem_append_left hi]
    rw [this]
  · apply List.map_congr_left
    intro i hi
    rw [List.mem_range] at hi
    have : bt (s ++ t) ((s.size + i : Nat) : Int) = bt t (i : Nat) := by
      unfold bt
      simp only [Int.toNat_natCast]
      rw [dif_pos hi, dif_pos (by rw [ByteArray.size_append]; omega), ByteArray.getElem_append_right (by omega)]
      congr 3
      omega
    simp only [Function.comp, this]
theorem flushN_bytes (k : Nat) (s : ByteArray) (h : s.size ≤ k) : bytesV (flushN k s) = told s ∧ textSum (flushN k s) = s.size ∧ lenSum (flushN k s) = 0 ∧ ∀ y ∈ flushN k s, y.f0 = 0 ∧ y.f1 = 0 := by
  induction k generalizing s with
  | zero =>
    have h0 : s.size = 0 := by omega
    rw [flushN]
    refine ⟨by unfold told; rw [h0]; rfl, h0.symm, rfl, fun y hy => by cases hy⟩
  | succ k ih =>
    rw [flushN]
    split
    · rename_i h0
      refine ⟨by unfold told; rw [h0]; rfl, h0.symm, rfl, fun y hy => by cases hy⟩
    · rename_i h0
      have hs : (s.extract (min s.size 4096) s.size).size = s.size - min s.size 4096 := by simp [ByteArray.size_extract]
      have h1 : (s.extract 0 (min s.size 4096)).size = min s.size 4096 := by rw [ByteArray.size_extract]; omega
      obtain ⟨i1, i2, i3, i4⟩ := ih (s.extract (min s.size 4096) s.size) (by omega)
      have es : s.extract 0 (min s.size 4096) ++ s.extract (min s.size 4096) s.size = s := by
        rw [ByteArray.extract_append_extract]; simp
      refine ⟨?_, ?_, ?_, ?_⟩
      · rw [← List.singleton_append, bytesV_append, i1, bytesV_one, show bytes1 ⟨0, 0, s.extract 0 (min s.size 4096)⟩ = told (s.extract 0 (min s.size 4096)) from by unfold bytes1; rw [if_pos (by show (s.extract 0 (min s.size 4096)).size ≠ 0; omega)], ← told_append, es]
      · rw [← List.singleton_append, textSum_append, i2, textSum_one, hs]
        show (s.extract 0 (min s.size 4096)).size + _ = _
        omega
      · rw [← List.singleton_append, lenSum_append, i3, lenSum_one]; rfl
      · intro y hy
        rcases List.mem_cons.mp hy with rfl | hy
        · exact ⟨rfl, rfl⟩
        · exact i4 y hy

/-- What holds of steps that stand under way. -/
def Fine (o : List S54) : Prop := ∀ y ∈ o, in64 y.f0 ∧ 0 ≤ y.f1 ∧ y.f1 ≤ lenSum o
theorem lenSum_mem (o : List S54) (y : S54) (h : y ∈ o) : y.f1 ≤ lenSum o := by
  induction o with
  | nil => cases h
  | cons x o ih =>
    unfold lenSum at *
    simp only [List.map_cons, List.foldr_cons]
    rcases List.mem_cons.mp h with rfl | h
    · omega
    · have := ih h; omega
theorem froms_add (p : Int) (a b : Nat) : froms p (a + b) = froms p a ++ froms (wrap64 (p + a)) b := by
  unfold froms
  rw [List.range_add, List.map_append, List.map_map]
  congr 1
  apply List.map_congr_left
  intro i _
  simp only [Function.comp]
  rw [wrap_addl]
  congr 2
  omega
theorem copy_fine (o : List S54) (x : S54) (ho : ∀ y ∈ o, in64 y.f0 ∧ 0 ≤ y.f1) (hx0 : in64 x.f0) (hx : 0 < x.f1) (hl : (lenSum o : Int) + x.f1 ≤ 9223372036854775807) :
    bytesV (tidyCopy o x) = bytesV o ++ froms x.f0 x.f1.toNat ∧ textSum (tidyCopy o x) = textSum o ∧ (lenSum (tidyCopy o x) : Int) = lenSum o + x.f1 ∧ ∀ y ∈ tidyCopy o x, in64 y.f0 ∧ 0 ≤ y.f1 := by
  have e0 : (⟨#[]⟩ : ByteArray).size = 0 := rfl
  have new : bytesV (o ++ [⟨x.f0, x.f1, ⟨#[]⟩⟩]) = bytesV o ++ froms x.f0 x.f1.toNat ∧ textSum (o ++ [⟨x.f0, x.f1, ⟨#[]⟩⟩]) = textSum o ∧ (lenSum (o ++ [⟨x.f0, x.f1, ⟨#[]⟩⟩]) : Int) = lenSum o + x.f1 ∧ ∀ y ∈ o ++ [⟨x.f0, x.f1, ⟨#[]⟩⟩], in64 y.f0 ∧ 0 ≤ y.f1 := by
    refine ⟨?_, ?_, ?_, ?_⟩
    · rw [bytesV_append, bytesV_one]; unfold bytes1; rw [if_neg (fun h => h e0)]
    · rw [textSum_append, textSum_one]; rfl
    · rw [lenSum_append, lenSum_one]; simp only []; omega
    · intro y hy
      rcases List.mem_append.mp hy with hy | hy
      · exact ho y hy
      · rw [List.mem_singleton.mp hy]; exact ⟨hx0, by show 0 ≤ x.f1; omega⟩
  rcases list_last o with rfl | ⟨o, y, rfl⟩
  · rw [copy_nil]; exact new
  · by_cases h : y.f2.size = 0 ∧ wrap64 (y.f0 + y.f1) = x.f0
    · rw [copy_merge _ _ _ h.1 h.2]
      have hy := ho y (List.mem_append_right _ (List.mem_singleton.mpr rfl))
      have hyl : y.f1 ≤ lenSum (o ++ [y]) := lenSum_mem _ y (List.mem_append_right _ (List.mem_singleton.mpr rfl))
      have hw : wrap64 (y.f1 + x.f1) = y.f1 + x.f1 := wrap_in (by unfold in64; omega)
      rw [hw]
      refine ⟨?_, ?_, ?_, ?_⟩
      · rw [bytesV_append, bytesV_one, bytesV_append, bytesV_one, List.append_assoc]
        congr 1
        unfold bytes1
        rw [if_neg (fun hh => hh h.1), if_neg (fun hh => hh h.1)]
        show froms y.f0 (y.f1 + x.f1).toNat = _
        rw [show (y.f1 + x.f1).toNat = y.f1.toNat + x.f1.toNat from by omega, froms_add, show ((y.f1.toNat : Nat) : Int) = y.f1 from by omega, h.2]
      · rw [textSum_append, textSum_one, textSum_append, textSum_one]
      · rw [lenSum_append, lenSum_one, lenSum_append, lenSum_one]; simp only []; omega
      · intro z hz
        rcases List.mem_append.mp hz with hz | hz
        · exact ho z (List.mem_append_left _ hz)
        · rw [List.mem_singleton.mp hz]; exact ⟨hy.1, by show 0 ≤ y.f1 + x.f1; omega⟩
    · rw [copy_new _ _ _ h]; exact new

/-- What the tidying keeps. -/
structure Inv (l : List S54) (st : ByteArray × List S54) : Prop where
  b : bytesV st.2 ++ told st.1 = bytesV l
  t : textSum st.2 + st.1.size = textSum l
  n : lenSum st.2 ≤ lenSum l
  f : ∀ y ∈ st.2, in64 y.f0 ∧ 0 ≤ y.f1
theorem inv_step (l : List S54) (st : ByteArray × List S54) (x : S54) (h : Inv l st) (hx0 : in64 x.f0) (hl : lenSum (l ++ [x]) ≤ 9223372036854775807) : Inv (l ++ [x]) (tidyS st x) := by
  obtain ⟨s, o⟩ := st
  obtain ⟨hb, ht, hn, hf⟩ := h
  simp only at hb ht hn hf
  rw [lenSum_append, lenSum_one] at hl
  unfold tidyS
  split
  · rename_i h2
    refine ⟨?_, ?_, ?_, hf⟩
    · show bytesV o ++ told (s ++ x.f2) = _
      rw [told_append, ← List.append_assoc, hb, bytesV_append, bytesV_one]; unfold bytes1; rw [if_pos h2]
    · show textSum o + (s ++ x.f2).size = _
      rw [ByteArray.size_append, textSum_append, textSum_one]; omega
    · show lenSum o ≤ _
      rw [lenSum_append]; omega
  · rename_i h2
    have e2 : x.f2.size = 0 := by omega
    split
    · rename_i hq
      refine ⟨?_, ?_, ?_, hf⟩
      · show bytesV o ++ told s = _
        rw [hb, bytesV_append, bytesV_one]; unfold bytes1; rw [if_neg h2, show x.f1.toNat = 0 from by omega]; simp [froms]
      · show textSum o + s.size = _
        rw [textSum_append, textSum_one]; omega
      · show lenSum o ≤ _
        rw [lenSum_append]; omega
    · rename_i hq
      obtain ⟨f1, f2, f3, f4⟩ := flushN_bytes s.size s (Nat.le_refl _)
      have hlo : lenSum (o ++ flushN s.size s) = lenSum o := by rw [lenSum_append, f3]; rfl
      obtain ⟨c1, c2, c3, c4⟩ := copy_fine (o ++ flushN s.size s) x (fun y hy => by
        rcases List.mem_append.mp hy with hy | hy
        · exact hf y hy
        · have := f4 y hy; rw [this.1, this.2]; exact ⟨by unfold in64; omega, by omega⟩) hx0 (by omega) (by rw [hlo]; omega)
      refine ⟨?_, ?_, ?_, c4⟩
      · show bytesV (tidyCopy (o ++ flushN s.size s) x) ++ told ⟨#[]⟩ = _
        rw [c1, bytesV_append, f1, hb, bytesV_append, bytesV_one, show told ⟨#[]⟩ = [] from rfl, List.append_nil]; unfold bytes1; rw [if_neg h2]
      · show textSum (tidyCopy (o ++ flushN s.size s) x) + 0 = _
        rw [c2, textSum_append, f2, textSum_append, textSum_one]; omega
      · show lenSum (tidyCopy (o ++ flushN s.size s) x) ≤ _
        rw [lenSum_append, lenSum_one]; omega
theorem inv_all (l : List S54) (h : ∀ x ∈ l, in64 x.f0) (hl : lenSum l ≤ 9223372036854775807) : Inv l (tidyF l) := by
  have key : ∀ (r p : List S54) (st : ByteArray × List S54), Inv p st → (∀ x ∈ r, in64 x.f0) → lenSum (p ++ r) ≤ 9223372036854775807 → Inv (p ++ r) (r.foldl tidyS st) := by
    intro r
    induction r with
    | nil => intro p st hi _ _; rw [List.append_nil]; exact hi
    | cons x r ih =>
      intro p st hi hx hl
      rw [List.foldl_cons, show p ++ x :: r = (p ++ [x]) ++ r from by simp]
      rw [show p ++ x :: r = (p ++ [x]) ++ r from by simp] at hl
      refine ih (p ++ [x]) _ (inv_step p st x hi (hx x (List.mem_cons_self ..)) (by rw [lenSum_append] at hl; omega)) (fun y hy => hx y (List.mem_cons_of_mem _ hy)) hl
  exact key l [] (⟨#[]⟩, []) ⟨rfl, rfl, Nat.le_refl _, fun y hy => by cases hy⟩ h hl
theorem tidy_bytes (l : List S54) (h : ∀ x ∈ l, in64 x.f0) (hl : lenSum l ≤ 9223372036854775807) :
    bytesV (tidyV l) = bytesV l ∧ textSum (tidyV l) = textSum l ∧ lenSum (tidyV l) ≤ lenSum l ∧ ∀ y ∈ tidyV l, in64 y.f0 ∧ 0 ≤ y.f1 := by
  obtain ⟨hb, ht, hn, hf⟩ := inv_all l h hl
  obtain ⟨f1, f2, f3, f4⟩ := flushN_bytes (tidyF l).1.size (tidyF l).1 (Nat.le_refl _)
  unfold tidyV
  refine ⟨by rw [bytesV_append, f1, hb], by rw [textSum_append, f2, ht], by rw [lenSum_append, f3]; exact hn, fun y hy => ?_⟩
  rcases List.mem_append.mp hy with hy | hy
  · exact hf y hy
  · have := f4 y hy; rw [this.1, this.2]; exact ⟨by unfold in64; omega, by omega⟩
/-- To tidy twice is to tidy once. -/
theorem tidy_tidy (l : List S54) (h : ∀ x ∈ l, in64 x.f0 ∧ in64 x.f1) (hl : lenSum l ≤ 9223372036854775807) : tidyV (tidyV l) = tidyV l := by
  obtain ⟨b, t, n, f⟩ := tidy_bytes l (fun x hx => (h x hx).1) hl
  rw [← steps_bytes (tidyV l) (fun y hy => ⟨(f y hy).1, by have := lenSum_mem _ y hy; have := (f y hy).2; unfold in64; omega⟩), b, steps_bytes l h]
end Go.Proofs.Ytjgelmfkoefclaa.Pure


-- from CompLaw
/- What two deltas, one behind the other, come to: steps out of steps. -/
namespace Go.Proofs.Ytjgelmfkoefclaa.Pure
open Go.RowKit Go.Proofs.YtjgelmfkoefclaaW.PrintWords Go.Proofs.YtjgelmfkoefclaaW.PrintLast Go.Proofs.YtjgelmfkoefclaaW.PrintMore Go.Proofs.Ytjgelmfkoefclaa.PAll
set_option linter.unusedVariables false
set_option linter.unusedSimpArgs false

def compF (l0 : List S54) (size : Int) : List S54 → List S54 → Option (List S54)
  | [], out => some out
  | x :: r, out => if x.f2.size ≠ 0 then compF l0 size r (out ++ [x]) else if x.f0 + x.f1 > size then none else compF l0 size r (out ++ pieceAt l0 x.f0.toNat x.f1.toNat)

theorem lenN_cutV (x : S54) (off k : Nat) (h : x.f1 = 0 ∨ x.f2.size = 0) (h1 : 0 ≤ x.f1) (hk : off + k ≤ lenN x) : lenN (cutV x off k) = k := by
  unfold cutV lenN at *
  split
  · rename_i h0
    show ((k : Int)).toNat + (⟨#[]⟩ : ByteArray).size = k
    rw [Int.toNat_natCast]; rfl
  · rename_i h0
    show (0 : Int).toNat + (x.f2.extract off (off + k)).size = k
    rw [ByteArray.size_extract]
    omega
def GoodSteps (l : List S54) : Prop := ∀ x ∈ l, 0 < lenN x ∧ 0 ≤ x.f1 ∧ (x.f1 = 0 ∨ x.f2.size = 0)
theorem pieceN_sum (l : List S54) (hl : GoodSteps l) (off n : Nat) (h : off + n ≤ sumN l) (ho : 0 < n → ∀ x r, l = x :: r → off < lenN x) :
    sumN (pieceN l off n) = n ∧ ∀ y ∈ pieceN l off n, 0 < lenN y := by
  induction l generalizing off n with
  | nil =>
    have : n = 0 := by simp [sumN] at h; omega
    subst this
    exact ⟨rfl, fun y hy => by cases hy⟩
  | cons x r ih =>
    rw [sumN_cons] at h
    rw [pieceN]
    split
    · rename_i h0; subst h0; exact ⟨rfl, fun y hy => by cases hy⟩
    · rename_i h0
      have hx := hl x (List.mem_cons_self ..)
      have hox := ho (by omega) x r rfl
      have hc := lenN_cutV x off (min n (lenN x - off)) hx.2.2 hx.2.1 (by omega)
      obtain ⟨i1, i2⟩ := ih (fun y hy => hl y (List.mem_cons_of_mem _ hy)) 0 (n - min n (lenN x - off)) (by omega) (fun hp y r' e => by have := hl y (by rw [e]; exact List.mem_cons_of_mem _ (List.mem_cons_self ..)); omega)
      refine ⟨by rw [sumN_cons, hc, i1]; omega, fun y hy => ?_⟩
      rcases List.mem_cons.mp hy with rfl | hy
      · rw [hc]; omega
      · exact i2 y hy
theorem pieceAt_sum (l : List S54) (hl : GoodSteps l) (a n : Nat) (h : a + n ≤ sumN l) : sumN (pieceAt l a n) = n ∧ ∀ y ∈ pieceAt l a n, 0 < lenN y := by
  induction l generalizing a with
  | nil =>
    have : n = 0 := by simp [sumN] at h; omega
    subst this
    exact ⟨rfl, fun y hy => by cases hy⟩
  | cons x r ih =>
    rw [pieceAt]
    split
    · rename_i hlt
      exact pieceN_sum (x :: r) hl a n h (fun _ y r' e => by injection e with e1 e2; rw [← e1]; exact hlt)
    · rename_i hlt
      rw [sumN_cons] at h
      exact ih (fun y hy => hl y (List.mem_cons_of_mem _ hy)) (a - lenN x) (by omega)
theorem len_le_sum (l : List S54) (h : ∀ y ∈ l, 0 < lenN y) : l.length ≤ sumN l := by
  induction l with
  | nil => simp [sumN]
  | cons x l ih =>
    have := ih (fun y hy => h y (List.mem_cons_of_mem _ hy))
    have hx := h x (List.mem_cons_self ..)
    rw [sumN_cons, List.length_cons]
    omega
theorem text_le_sum (l : List S54) : textSum l ≤ sumN l := by
  induction l with
  | nil => simp [sumN, textSum]
  | cons x l ih =>
    rw [sumN_cons]
    unfold textSum at *
    simp only [List.map_cons, List.foldr_cons]
    unfold lenN
    omega
theorem compF_step_text (l0 : List S54) (size : Int) (l1 : List S54) (i : Nat) (hi : i < l1.length) (out : List S54) (h : (rd_T54 l1 (i : Nat)).f2.size ≠ 0) :
    compF l0 size (l1.drop i) out = compF l0 size (l1.drop (i + 1)) (out ++ [rd_T54 l1 (i : Nat)]) := by
  rw [rdS_nat l1 i hi] at h ⊢
  rw [List.drop_eq_getElem_cons hi, compF, if_pos h]
theorem compF_step_none (l0 : List S54) (size : Int) (l1 : List S54) (i : Nat) (hi : i < l1.length) (out : List S54) (h : (rd_T54 l1 (i : Nat)).f2.size = 0) (h2 : (rd_T54 l1 (i : Nat)).f0 + (rd_T54 l1 (i : Nat)).f1 > size) :
    compF l0 size (l1.drop i) out = none := by
  rw [rdS_nat l1 i hi] at h h2
  rw [List.drop_eq_getElem_cons hi, compF, if_neg (by omega), if_pos h2]
theorem compF_step_copy (l0 : List S54) (size : Int) (l1 : List S54) (i : Nat) (hi : i < l1.length) (out : List S54) (h : (rd_T54 l1 (i : Nat)).f2.size = 0) (h2 : ¬ (rd_T54 l1 (i : Nat)).f0 + (rd_T54 l1 (i : Nat)).f1 > size) :
    compF l0 size (l1.drop i) out = compF l0 size (l1.drop (i + 1)) (out ++ pieceAt l0 (rd_T54 l1 (i : Nat)).f0.toNat (rd_T54 l1 (i : Nat)).f1.toNat) := by
  rw [rdS_nat l1 i hi] at h h2 ⊢
  rw [List.drop_eq_getElem_cons hi, compF, if_neg (by omega), if_neg h2]
theorem sumN_pos (l : List S54) (y : S54) : sumN (l ++ [y]) = sumN l + lenN y := by rw [sumN_append]; simp [sumN]
/-- What is gathered so far. -/
structure Gath (l1 : List S54) (i : Nat) (out : List S54) : Prop where
  s : sumN out = sumN (l1.take i)
  p : ∀ y ∈ out, 0 < lenN y
theorem Gath.nil (l1 : List S54) : Gath l1 0 [] := ⟨by simp [sumN], fun y hy => by cases hy⟩
theorem Gath.bound {l1 : List S54} {i : Nat} {out : List S54} (h : Gath l1 i out) : out.length ≤ sumN l1 ∧ textSum out ≤ sumN l1 := by
  have a := len_le_sum out h.p
  have b := text_le_sum out
  have c := sumN_take_le l1 i
  have d := h.s
  omega
theorem Gath.text {l1 : List S54} {i : Nat} {out : List S54} (h : Gath l1 i out) (hi : i < l1.length) (hg : GoodSteps l1) : Gath l1 (i + 1) (out ++ [rd_T54 l1 (i : Nat)]) := by
  have hx := hg _ (rd68_mem l1 i hi)
  refine ⟨by rw [sumN_pos, h.s, sumN_take_succ l1 i hi], fun y hy => ?_⟩
  rcases List.mem_append.mp hy with hy | hy
  · exact h.p y hy
  · rw [List.mem_singleton.mp hy]; exact hx.1
theorem Gath.copy {l0 l1 : List S54} {i : Nat} {out : List S54} (h : Gath l1 i out) (hi : i < l1.length) (hg : GoodSteps l0) (h2 : (rd_T54 l1 (i : Nat)).f2.size = 0) (hs : (rd_T54 l1 (i : Nat)).f0.toNat + (rd_T54 l1 (i : Nat)).f1.toNat ≤ sumN l0) :
    Gath l1 (i + 1) (out ++ pieceAt l0 (rd_T54 l1 (i : Nat)).f0.toNat (rd_T54 l1 (i : Nat)).f1.toNat) := by
  obtain ⟨a, b⟩ := pieceAt_sum l0 hg _ _ hs
  refine ⟨by rw [sumN_append, a, h.s, sumN_take_succ l1 i hi]; unfold lenN; omega, fun y hy => ?_⟩
  rcases List.mem_append.mp hy with hy | hy
  · exact h.p y hy
  · exact b y hy

def CompOk (k : Nat) (l0 l1 : List S54) : Prop := l0.length + l1.length + 10 ≤ k ∧ l0.length ≤ 1000000 ∧ l1.length ≤ 1000000 ∧ In64 l0 ∧ In64 l1
instance (l : List S54) : Decidable (In64 l) := by unfold In64; infer_instance
instance (k : Nat) (l0 l1 : List S54) : Decidable (CompOk k l0 l1) := by unfold CompOk; infer_instance
def compV (a0 a1 : ByteArray) (a2 : Int) (l0 : List S54) (b0 b1 : ByteArray) (b2 : Int) (l1 : List S54) : ByteArray × ByteArray × Int × List S54 × Int :=
  if rightV a0 a1 a2 l0 = true ∧ rightV b0 b1 b2 l1 = true then
    if a1.toList = b0.toList then
      match compF l0 a2 l1 [] with
      | none => (⟨#[]⟩, ⟨#[]⟩, 0, [], 2)
      | some out => (a0, b1, b2, tidyV out, 0)
    else (⟨#[]⟩, ⟨#[]⟩, 0, [], 13)
  else (⟨#[]⟩, ⟨#[]⟩, 0, [], 1)
end Go.Proofs.Ytjgelmfkoefclaa.Pure
namespace Go.Proofs.Ytjgelmfkoefclaa.PAll
open Go.RowKit Go.Proofs.YtjgelmfkoefclaaW.PrintWords Go.Proofs.YtjgelmfkoefclaaW.PrintLast Go.Proofs.YtjgelmfkoefclaaW.PrintMore Go.Proofs.Ytjgelmfkoefclaa.Pure
def chain_Compose.f (k : Nat) (a0 a1 : ByteArray) (a2 : Int) (l0 : List S54) (b0 b1 : ByteArray) (b2 : Int) (l1 : List S54) : Option (ByteArray × ByteArray × Int × List S54 × Int) :=
  if CompOk k l0 l1 then some (compV a0 a1 a2 l0 b0 b1 b2 l1) else none
theorem chain_Compose.mono : ∀ a0 a1 a2 a3 a4 a5 a6 a7 k, LeO (chain_Compose.f k a0 a1 a2 a3 a4 a5 a6 a7) (chain_Compose.f (k + 1) a0 a1 a2 a3 a4 a5 a6 a7) := by
  intro a0 a1 a2 a3 a4 a5 a6 a7 k r h
  unfold chain_Compose.f at *
  by_cases hok : CompOk k a3 a7
  · rw [if_pos hok] at h
    rw [if_pos ⟨by have := hok.1; omega, hok.2⟩]
    exact h
  · rw [if_neg hok] at h; cases h
end Go.Proofs.Ytjgelmfkoefclaa.PAll


-- from ByteLaw
/- Steps as what they make, byte by byte. -/
namespace Go.Proofs.Ytjgelmfkoefclaa.Pure
open Go.RowKit Go.Proofs.YtjgelmfkoefclaaW.PrintWords Go.Proofs.YtjgelmfkoefclaaW.PrintLast Go.Proofs.YtjgelmfkoefclaaW.PrintMore Go.Proofs.Ytjgelmfkoefclaa.PAll
set_option linter.unusedVariables false
set_option linter.unusedSimpArgs false

theorem rd70_nat (l : List S59) (i : Nat) (h : i < l.length) : rd_T59 l (i : Int) = l[i] := by
  unfold rd_T59
  rw [Int.toNat_natCast, List.getD_eq_getElem?_getD, List.getElem?_eq_getElem h]; rfl
theorem rd68_nat (l : List S54) (i : Nat) (h : i < l.length) : rd_T54 l (i : Int) = l[i] := by
  unfold rd_T54
  rw [Int.toNat_natCast, List.getD_eq_getElem?_getD, List.getElem?_eq_getElem h]; rfl
theorem told_len (s : ByteArray) : (told s).length = s.size := by simp [told]
theorem froms_len (p : Int) (n : Nat) : (froms p n).length = n := by simp [froms]
theorem bytes1_len (x : S54) (h : stepOk x) : (bytes1 x).length = lenN x := by
  unfold bytes1 lenN
  unfold stepOk at h
  split
  · rename_i h0
    rw [if_neg h0] at h
    rw [told_len, h.2.1]; omega
  · rename_i h0
    rw [froms_len]; omega
theorem told_get (s : ByteArray) (i : Nat) (h : i < (told s).length) : (told s)[i]'h = ⟨true, 0, bt s (i : Nat)⟩ := by simp [told]
theorem froms_get (p : Int) (n i : Nat) (h : i < (froms p n).length) : (froms p n)[i]'h = ⟨false, wrap64 (p + (i : Nat)), 0⟩ := by simp [froms]
theorem told_cut (s : ByteArray) (off k : Nat) (h : off + k ≤ s.size) : told (s.extract off (off + k)) = ((told s).drop off).take k := by
  apply List.ext_getElem
  · rw [told_len, ByteArray.size_extract, List.length_take, List.length_drop, told_len]; omega
  · intro i h1 h2
    rw [List.getElem_take, List.getElem_drop, told_get, told_get]
    rw [told_len, ByteArray.size_extract] at h1
    congr 1
    unfold bt
    simp only [Int.toNat_natCast]
    rw [dif_pos (by rw [ByteArray.size_extract]; omega), dif_pos (by omega)]
    congr 2
    exact ByteArray.getElem_extract _
theorem froms_cut (p : Int) (n off k : Nat) (h : off + k ≤ n) : froms (wrap64 (p + off)) k = ((froms p n).drop off).take k := by
  apply List.ext_getElem
  · rw [froms_len, List.length_take, List.length_drop, froms_len]; omega
  · intro i h1 h2
    rw [List.getElem_take, List.getElem_drop, froms_get, froms_get, wrap_addl]
    congr 2
    omega
theorem cut_bytes (x : S54) (h : stepOk x) (off k : Nat) (hk : off + k ≤ lenN x) : bytes1 (cutV x off k) = ((bytes1 x).drop off).take k := by
  unfold cutV
  unfold lenN at hk
  unfold stepOk at h
  split
  · rename_i h0
    rw [if_pos h0] at h
    have e1 : bytes1 x = froms x.f0 x.f1.toNat := by unfold bytes1; rw [if_neg (fun hh => hh h0)]
    rw [e1, ← froms_cut _ _ _ _ (by omega)]
    unfold bytes1
    rw [if_neg (fun hh => hh rfl)]
    simp only [Int.toNat_natCast]
  · rename_i h0
    rw [if_neg h0] at h
    have e1 : bytes1 x = told x.f2 := by unfold bytes1; rw [if_pos h0]
    rw [e1, ← told_cut _ _ _ (by omega)]
    unfold bytes1
    simp only
    split
    · rfl
    · rename_i h2
      have hz : k = 0 := by rw [ByteArray.size_extract] at h2; omega
      subst hz
      rw [show told (x.f2.extract off (off + 0)) = [] from List.eq_nil_of_length_eq_zero (by rw [told_len, ByteArray.size_extract]; omega)]
      rfl
def AllOk (l : List S54) : Prop := ∀ x ∈ l, stepOk x
theorem AllOk.good {l : List S54} (h : AllOk l) : GoodSteps l := fun x hx => by
  obtain ⟨a, b, c, _⟩ := stepOk_len (h x hx)
  exact ⟨a, b, c⟩
theorem bytesV_cons (x : S54) (l : List S54) : bytesV (x :: l) = bytes1 x ++ bytesV l := by simp [bytesV]
theorem bytesV_len (l : List S54) (h : AllOk l) : (bytesV l).length = sumN l := by
  induction l with
  | nil => rfl
  | cons x l ih => rw [bytesV_cons, List.length_append, bytes1_len x (h x (List.mem_cons_self ..)), ih (fun y hy => h y (List.mem_cons_of_mem _ hy)), sumN_cons]
theorem pieceN_bytes (l : List S54) (h : AllOk l) (off n : Nat) (hs : off + n ≤ sumN l) (ho : 0 < n → ∀ x r, l = x :: r → off < lenN x) : bytesV (pieceN l off n) = ((bytesV l).drop off).take n := by
  induction l generalizing off n with
  | nil =>
    have : n = 0 := by simp [sumN] at hs; omega
    subst this; rfl
  | cons x r ih =>
    rw [pieceN]
    split
    · rename_i h0; subst h0; simp [bytesV]
    · rename_i h0
      have hx := h x (List.mem_cons_self ..)
      have hlx := bytes1_len x hx
      have hox := ho (by omega) x r rfl
      rw [sumN_cons] at hs
      have hr : AllOk r := fun y hy => h y (List.mem_cons_of_mem _ hy)
      rw [bytesV_cons, cut_bytes x hx off _ (by omega), bytesV_cons, ih hr 0 (n - min n (lenN x - off)) (by omega) (fun hp y r' e => by have := (stepOk_len (hr y (by rw [e]; exact List.mem_cons_self ..))).1; omega)]
      rw [List.drop_append, List.take_append, List.length_drop, hlx, show off - lenN x = 0 by omega]
      by_cases hn : n ≤ lenN x - off
      · rw [Nat.min_eq_left hn, Nat.sub_self]
        simp only [List.drop_zero, List.take_zero]
        rw [show n - (lenN x - off) = 0 by omega]
        simp
      · rw [Nat.min_eq_right (by omega)]
        congr 1
        rw [List.take_of_length_le (by rw [List.length_drop, hlx]; omega), List.take_of_length_le (by rw [List.length_drop, hlx]; omega)]
theorem pieceAt_bytes (l : List S54) (h : AllOk l) (a n : Nat) (hs : a + n ≤ sumN l) : bytesV (pieceAt l a n) = ((bytesV l).drop a).take n := by
  induction l generalizing a with
  | nil =>
    have : n = 0 := by simp [sumN] at hs; omega
    subst this; rfl
  | cons x r ih =>
    rw [pieceAt]
    split
    · rename_i hlt
      exact pieceN_bytes (x :: r) h a n hs (fun _ y r' e => by injection e with e1 e2; rw [← e1]; exact hlt)
    · rename_i hlt
      rw [sumN_cons] at hs
      have hr : AllOk r := fun y hy => h y (List.mem_cons_of_mem _ hy)
      rw [ih hr (a - lenN x) (by omega), bytesV_cons, List.drop_append, bytes1_len x (h x (List.mem_cons_self ..)), List.drop_of_length_le (l := bytes1 x) (by rw [bytes1_len x (h x (List.mem_cons_self ..))]; omega), List.nil_append]
/-- Both numbers of a step fit. -/
def FitS (l : List S54) : Prop := ∀ x ∈ l, in64 x.f0 ∧ in64 x.f1
theorem wrap_in64 (n : Int) : in64 (wrap64 n) := by unfold in64 wrap64; omega
theorem cutV_fit (x : S54) (off k : Nat) (h : k ≤ 1000000) : in64 (cutV x off k).f0 ∧ in64 (cutV x off k).f1 := by
  unfold cutV
  split
  · exact ⟨wrap_in64 _, by show in64 (k : Int); unfold in64; omega⟩
  · exact ⟨by show in64 0; unfold in64; omega, by show in64 0; unfold in64; omega⟩
theorem pieceN_fit (l : List S54) (off n : Nat) (h : n ≤ 1000000) : FitS (pieceN l off n) := by
  induction l generalizing off n with
  | nil => intro y hy; cases hy
  | cons x r ih =>
    rw [pieceN]
    split
    · intro y hy; cases hy
    · intro y hy
      rcases List.mem_cons.mp hy with rfl | hy
      · exact cutV_fit _ _ _ (by omega)
      · exact ih 0 _ (by omega) y hy
theorem pieceAt_fit (l : List S54) (a n : Nat) (h : n ≤ 1000000) : FitS (pieceAt l a n) := by
  induction l generalizing a with
  | nil => intro y hy; cases hy
  | cons x r ih =>
    rw [pieceAt]
    split
    · exact pieceN_fit _ _ _ h
    · exact ih _

theorem lenSum_le (l : List S54) : lenSum l ≤ sumN l := by
  induction l with
  | nil => simp [lenSum, sumN]
  | cons x l ih =>
    rw [sumN_cons]
    unfold lenSum at *
    simp only [List.map_cons, List.foldr_cons]
    unfold lenN
    omega
theorem FitS.in {l : List S54} (h : FitS l) : In64 l := fun x hx => (h x hx).1
theorem sum_split (l : List S54) : sumN l = textSum l + lenSum l := by
  induction l with
  | nil => rfl
  | cons x l ih =>
    rw [sumN_cons, ih]
    unfold textSum lenSum lenN
    simp only [List.map_cons, List.foldr_cons]
    omega
end Go.Proofs.Ytjgelmfkoefclaa.Pure


-- from PAllx21
-- Written by a program of this session (wip/tools/hookprint.py, over the print); Lean checks it.
namespace Go.Proofs.Ytjgelmfkoefclaa.PAll
open Go.RowKit Go.Proofs.YtjgelmfkoefclaaW.PrintWords Go.Proofs.YtjgelmfkoefclaaW.PrintLast Go.Proofs.YtjgelmfkoefclaaW.PrintMore
attribute [local go_sem] max2_int min2_int max_two min_two max_three min_three max_four min_four   -- for this text's walks alone
set_option linter.unusedVariables false
set_option linter.unusedSimpArgs false

attribute [local go_sem high] eqA54
/-! ### barqueref06_Steps: function 18 -/
def barqueref06_Steps.l0 : Nat → List (S54) → List (S54) → Int → Option (Bool)
  | 0, _, _, _ => none
  | k + 1, x0, x1, x5 => if x5 < (x0.length : Int) then (if 0 ≤ x5 then (if x5 < (x1.length : Int) then (if (!(((rd_T54 x0 x5).f0) == ((rd_T54 x1 x5).f0)) || (!(((rd_T54 x0 x5).f1) == ((rd_T54 x1 x5).f1)) || (!((((rd_T54 x0 x5).f2).toList) == (((rd_T54 x1 x5).f2).toList))))) = true then (some false) else (barqueref06_Steps.l0 k x0 x1 (wrap64 (x5 + 1)))) else (none)) else (none)) else (some true)
def barqueref06_Steps.f (k : Nat) (l0 : List (S54)) (l1 : List (S54)) : Option (Bool) := if (l0.length : Int) = (l1.length : Int) then (barqueref06_Steps.l0 k l0 l1 0) else (some false)
theorem barqueref06_Steps.mono_l : ∀ k, (∀ y0 y1 y2, LeO (barqueref06_Steps.l0 k y0 y1 y2) (barqueref06_Steps.l0 (k + 1) y0 y1 y2))
  | 0 => fun _ _ _ r h => by simp [barqueref06_Steps.l0] at h
  | k + 1 => by
    have ih0 := barqueref06_Steps.mono_l k
    · intro y0 y1 y2
      unfold barqueref06_Steps.l0
      repeat' first
      | (with_reducible exact ih0 _ _ _)
      | (with_reducible exact LeO.refl _)
      | (with_reducible exact LeO.none _)
      | (with_reducible refine LeO.ite ?_ ?_)
      | (with_reducible refine LeO.bind ?_ (fun _ => ?_))
      | exact ih0 _ _ _
      | exact LeO.none _
      | refine LeO.ite ?_ ?_
      | refine LeO.bind ?_ (fun _ => ?_)
theorem barqueref06_Steps.mono : ∀ a0 a1 k, LeO (barqueref06_Steps.f k a0 a1) (barqueref06_Steps.f (k + 1) a0 a1) := by
  intro a0 a1 k
  have ih0 := barqueref06_Steps.mono_l k
  unfold barqueref06_Steps.f
  repeat' first
      | (with_reducible exact ih0 _ _ _)
      | (with_reducible exact LeO.refl _)
      | (with_reducible exact LeO.none _)
      | (with_reducible refine LeO.ite ?_ ?_)
      | (with_reducible refine LeO.bind ?_ (fun _ => ?_))
      | exact ih0 _ _ _
      | exact LeO.none _
      | refine LeO.ite ?_ ?_
      | refine LeO.bind ?_ (fun _ => ?_)
set_option maxHeartbeats 8000000 in
set_option maxRecDepth 100000 in
theorem barqueref06_Steps.calls (k : Nat) (A0 : Option Addr) (c0 : Nat) (l0 : List (S54)) (A1 : Option Addr) (c1 : Nat) (l1 : List (S54)) (r : Bool) (w : World) (hr0 : Kd.C k54 w A0 l0.length l0) (hc0 : l0.length ≤ c0) (hr1 : Kd.C k54 w A1 l1.length l1) (hc1 : l1.length ≤ c1) (h : barqueref06_Steps.f k l0 l1 = some r) :
    Calls Try.prog 18 #[.slice A0 l0.length c0, .slice A1 l1.length c1] w fun e w' => e = .returned (.bool r) ∧ Drawn0 w w' := by
  have hu54 := Try.underlying54
  have HR0 := Aside0.mk hr0
  have HC0 := Aside0.mk hc0
  clear hr0 hc0
  have HR1 := Aside0.mk hr1
  have HC1 := Aside0.mk hc1
  clear hr1 hc1
  have H : (if (l0.length : Int) = (l1.length : Int) then (barqueref06_Steps.l0 k l0 l1 0) else (some false)) = some r := h
  clear h
  by_cases c3 : (l0.length : Int) = (l1.length : Int)
  · rw [if_pos c3] at H
    have c3b0 : ((l0.length : Int) == (l1.length : Int)) = true := beq_iff_eq.mpr c3
    have c3b1 : ((l0.length : Int) != (l1.length : Int)) = false := bne_eq_false_iff_eq.mpr c3
    have c3b2 : (l0.length == l1.length) = true := by first | simpa using c3 | (simp at c3 ⊢; omega)
    clear c3
    have H' := Aside0.mk H
    clear H
    go_enter Try.func18, Try.ntmps18
    go_wp2
    repeat (go_quiet (fail); try go_wp2)
    go_loopg [5] k (fun kq v5 w' => ∃ (x5_1 : Int), v5 = .int .i64 x5_1 ∧ Aside0 (barqueref06_Steps.l0 kq l0 l1 x5_1 = some r) ∧ Aside0 (kq ≤ k) ∧ Drawn0 w w')
    case atStart => exact ⟨(0), (by first | rfl | (simp; done) | (simp [*]; done)), H', ⟨Nat.le_refl _⟩, by repeat (first | exact Drawn0.refl _ | apply Drawn0.step)⟩
    case round =>
      clear H'
      try clear c1
      try clear p2
      try clear c3
      try clear c3b0
      try clear c3b1
      try clear c3b2
      obtain ⟨x5_1, rfl, HA, HK1, ⟨m1, rfl⟩⟩ := hrel
      cases gk with
      | zero => exact absurd HA.out (by simp [barqueref06_Steps.l0])
      | succ k1 =>
        have H := HA.out
        clear HA
        simp only [barqueref06_Steps.l0] at H
        by_cases c4 : x5_1 < (l0.length : Int)
        · rw [if_pos c4] at H
          have c4b0 : decide (x5_1 < (l0.length : Int)) = true := decide_eq_true c4
          clear c4
          by_cases c5 : 0 ≤ x5_1
          · rw [if_pos c5] at H
            have c5b0 : decide (0 ≤ x5_1) = true := decide_eq_true c5
            clear c5
            by_cases c6 : x5_1 < (l1.length : Int)
            · rw [if_pos c6] at H
              have c6b0 : decide (x5_1 < (l1.length : Int)) = true := decide_eq_true c6
              clear c6
              by_cases c7 : (!(((rd_T54 l0 x5_1).f0) == ((rd_T54 l1 x5_1).f0)) || (!(((rd_T54 l0 x5_1).f1) == ((rd_T54 l1 x5_1).f1)) || (!((((rd_T54 l0 x5_1).f2).toList) == (((rd_T54 l1 x5_1).f2).toList))))) = true
              · rw [if_pos c7] at H
                have c7b0 : (!(((rd_T54 l0 x5_1).f0) == ((rd_T54 l1 x5_1).f0)) || (!(((rd_T54 l0 x5_1).f1) == ((rd_T54 l1 x5_1).f1)) || (!((((rd_T54 l0 x5_1).f2).toList) == (((rd_T54 l1 x5_1).f2).toList))))) = true := c7
                clear c7
                obtain rfl := Option.some.inj H
                have p204 : 0 ≤ (x5_1 : Int) := of_decide_eq_true (by first | (with_reducible assumption) | assumption)
                have q204 : x5_1 < (l0.length : Int) := of_decide_eq_true (by first | (with_reducible assumption) | assumption)
                obtain ⟨ad204, e204, hx204_0, hx204_1, hx204_2⟩ := at_T54 HR0.out x5_1 p204 q204
                cases e204
                replace p204 := eq_true p204
                replace q204 := eq_true q204
                have p205 : 0 ≤ (x5_1 : Int) := of_decide_eq_true (by first | (with_reducible assumption) | assumption)
                have q205 : x5_1 < (l1.length : Int) := of_decide_eq_true (by first | (with_reducible assumption) | assumption)
                obtain ⟨ad205, e205, hx205_0, hx205_1, hx205_2⟩ := at_T54 HR1.out x5_1 p205 q205
                cases e205
                replace p205 := eq_true p205
                replace q205 := eq_true q205
                go_wp2
                repeat (go_quiet (fail); try go_wp2)
                go_ret
                exact ⟨by first | rfl | (simp; done) | (simp [*]; done), by repeat (first | exact Drawn0.refl _ | apply Drawn0.step)⟩
              · rw [if_neg c7] at H
                have c7b0 : (!(((rd_T54 l0 x5_1).f0) == ((rd_T54 l1 x5_1).f0)) || (!(((rd_T54 l0 x5_1).f1) == ((rd_T54 l1 x5_1).f1)) || (!((((rd_T54 l0 x5_1).f2).toList) == (((rd_T54 l1 x5_1).f2).toList))))) = false := by simpa using c7
                clear c7
                have H' := Aside0.mk H
                clear H
                have p204 : 0 ≤ (x5_1 : Int) := of_decide_eq_true (by first | (with_reducible assumption) | assumption)
                have q204 : x5_1 < (l0.length : Int) := of_decide_eq_true (by first | (with_reducible assumption) | assumption)
                obtain ⟨ad204, e204, hx204_0, hx204_1, hx204_2⟩ := at_T54 HR0.out x5_1 p204 q204
                cases e204
                replace p204 := eq_true p204
                replace q204 := eq_true q204
                have p205 : 0 ≤ (x5_1 : Int) := of_decide_eq_true (by first | (with_reducible assumption) | assumption)
                have q205 : x5_1 < (l1.length : Int) := of_decide_eq_true (by first | (with_reducible assumption) | assumption)
                obtain ⟨ad205, e205, hx205_0, hx205_1, hx205_2⟩ := at_T54 HR1.out x5_1 p205 q205
                cases e205
                replace p205 := eq_true p205
                replace q205 := eq_true q205
                go_wp2
                repeat (go_quiet (fail); try go_wp2)
                go_roundg k1
                case measure => have := HK1.out; omega
                case rel => exact ⟨(wrap64 (x5_1 + 1)), (by first | rfl | (simp; done) | (simp [*]; done)), H', ⟨by have := HK1.out; omega⟩, by repeat (first | exact Drawn0.refl _ | apply Drawn0.step)⟩
            · rw [if_neg c6] at H
              exact absurd H (by simp)
          · rw [if_neg c5] at H
            exact absurd H (by simp)
        · rw [if_neg c4] at H
          have c4b0 : decide (x5_1 < (l0.length : Int)) = false := decide_eq_false c4
          clear c4
          obtain rfl := Option.some.inj H
          go_wp2
          repeat (go_quiet (fail); try go_wp2)
          go_ret
          exact ⟨by first | rfl | (simp; done) | (simp [*]; done), by repeat (first | exact Drawn0.refl _ | apply Drawn0.step)⟩
  · rw [if_neg c3] at H
    have c3b0 : ((l0.length : Int) == (l1.length : Int)) = false := beq_eq_false_iff_ne.mpr c3
    have c3b1 : ((l0.length : Int) != (l1.length : Int)) = true := bne_iff_ne.mpr c3
    have c3b2 : (l0.length == l1.length) = false := by first | simpa using c3 | (simp at c3 ⊢; omega)
    obtain rfl := Option.some.inj H
    go_enter Try.func18, Try.ntmps18
    go_wp2
    repeat (go_quiet (fail); try go_wp2)
    go_ret
    exact ⟨by first | rfl | (simp; done) | (simp [*]; done), by repeat (first | exact Drawn0.refl _ | apply Drawn0.step)⟩

end Go.Proofs.Ytjgelmfkoefclaa.PAll


-- from PAllx22
-- Written by a program of this session (wip/tools/hookprint.py, over the print); Lean checks it.
namespace Go.Proofs.Ytjgelmfkoefclaa.PAll
open Go.RowKit Go.Proofs.YtjgelmfkoefclaaW.PrintWords Go.Proofs.YtjgelmfkoefclaaW.PrintLast Go.Proofs.YtjgelmfkoefclaaW.PrintMore
attribute [local go_sem] max2_int min2_int max_two min_two max_three min_three max_four min_four   -- for this text's walks alone
set_option linter.unusedVariables false
set_option linter.unusedSimpArgs false

/-! ### barqueref06_Same: function 14 -/
def barqueref06_Same.f (k : Nat) (a0_0 : ByteArray) (a0_1 : ByteArray) (a0_2 : Int) (l0_3 : List (S54)) (a1_0 : ByteArray) (a1_1 : ByteArray) (a1_2 : Int) (l1_3 : List (S54)) : Option (Bool) := if a0_0.toList = a1_0.toList then (if a0_1.toList = a1_1.toList then (if a0_2 = a1_2 then ((barqueref06_Steps.f k l0_3 l1_3).bind fun t208 => (some t208)) else (some false)) else (some false)) else (some false)
theorem barqueref06_Same.mono : ∀ a0 a1 a2 a3 a4 a5 a6 a7 k, LeO (barqueref06_Same.f k a0 a1 a2 a3 a4 a5 a6 a7) (barqueref06_Same.f (k + 1) a0 a1 a2 a3 a4 a5 a6 a7) := by
  intro a0 a1 a2 a3 a4 a5 a6 a7 k
  unfold barqueref06_Same.f
  repeat' first
      | (with_reducible exact barqueref06_Steps.mono _ _ _)
      | (with_reducible exact LeO.refl _)
      | (with_reducible exact LeO.none _)
      | (with_reducible refine LeO.ite ?_ ?_)
      | (with_reducible refine LeO.bind ?_ (fun _ => ?_))
      | exact barqueref06_Steps.mono _ _ _
      | exact LeO.none _
      | refine LeO.ite ?_ ?_
      | refine LeO.bind ?_ (fun _ => ?_)
set_option maxHeartbeats 8000000 in
set_option maxRecDepth 100000 in
theorem barqueref06_Same.calls (k : Nat) (a0_0 : ByteArray) (a0_1 : ByteArray) (a0_2 : Int) (A0_3 : Option Addr) (c0_3 : Nat) (l0_3 : List (S54)) (a1_0 : ByteArray) (a1_1 : ByteArray) (a1_2 : Int) (A1_3 : Option Addr) (c1_3 : Nat) (l1_3 : List (S54)) (r : Bool) (w : World) (hr0_3 : Kd.C k54 w A0_3 l0_3.length l0_3) (hc0_3 : l0_3.length ≤ c0_3) (hr1_3 : Kd.C k54 w A1_3 l1_3.length l1_3) (hc1_3 : l1_3.length ≤ c1_3) (h : barqueref06_Same.f k a0_0 a0_1 a0_2 l0_3 a1_0 a1_1 a1_2 l1_3 = some r) :
    Calls Try.prog 14 #[.agg #[.string a0_0, .string a0_1, .int .i64 a0_2, .slice A0_3 l0_3.length c0_3], .agg #[.string a1_0, .string a1_1, .int .i64 a1_2, .slice A1_3 l1_3.length c1_3]] w fun e w' => e = .returned (.bool r) ∧ Below w.heap.size w w' := by
  have hu24 := Try.underlying24
  have HR0_3 := Aside0.mk hr0_3
  have HC0_3 := Aside0.mk hc0_3
  clear hr0_3 hc0_3
  have HR1_3 := Aside0.mk hr1_3
  have HC1_3 := Aside0.mk hc1_3
  clear hr1_3 hc1_3
  have HB := Aside0.mk (Below.refl w.heap.size w)
  have H : (if a0_0.toList = a1_0.toList then (if a0_1.toList = a1_1.toList then (if a0_2 = a1_2 then ((barqueref06_Steps.f k l0_3 l1_3).bind fun t208 => (some t208)) else (some false)) else (some false)) else (some false)) = some r := h
  clear h
  by_cases c3 : a0_0.toList = a1_0.toList
  · rw [if_pos c3] at H
    have c3b0 : (a0_0.toList == a1_0.toList) = true := beq_iff_eq.mpr c3
    have c3b1 : (a0_0.toList != a1_0.toList) = false := bne_eq_false_iff_eq.mpr c3
    clear c3
    by_cases c4 : a0_1.toList = a1_1.toList
    · rw [if_pos c4] at H
      have c4b0 : (a0_1.toList == a1_1.toList) = true := beq_iff_eq.mpr c4
      have c4b1 : (a0_1.toList != a1_1.toList) = false := bne_eq_false_iff_eq.mpr c4
      clear c4
      by_cases c5 : a0_2 = a1_2
      · rw [if_pos c5] at H
        have c5b0 : (a0_2 == a1_2) = true := beq_iff_eq.mpr c5
        have c5b1 : (a0_2 != a1_2) = false := bne_eq_false_iff_eq.mpr c5
        clear c5
        replace H := Option.bind_eq_some_iff.mp H
        obtain ⟨t208, A60, H⟩ := H
        replace H : (some t208) = some r := H
        have A6 := Aside0.mk A60
        clear A60
        obtain rfl := Option.some.inj H
        go_enter Try.func14, Try.ntmps14
        go_wp2_with (first | ((with_reducible refine gate_dst (N := 2) rfl ?_); refine box_event ?hg (N := 2) ?hd (cs := #[.string a0_0, .string a0_1, .int .i64 a0_2, .slice A0_3 l0_3.length c0_3]) (t := 24) ?hr ?_; (case hd => rfl); (case hg => rfl); (case hr => first | (go_simp; done) | (go_simp; rfl)); intro gb206 hg w7 hbox hb; have n0_ := Aside0.mk (below_step (by repeat (first | (with_reducible first | exact HB.out | apply below_alloc | apply pw_below_drewN | apply below_drew1) | exact HB.out)) hb); have n1_ := Aside0.mk (hbox); have n2_ := Aside0.mk ((by rw [hg]; exact (below_size (by repeat (first | (with_reducible first | exact HB.out | apply below_alloc | apply pw_below_drewN | apply below_drew1) | exact HB.out))) : w.heap.size ≤ gb206)); have n3_ := Aside0.mk ((by rw [hg]; exact (below_size (by repeat (first | (with_reducible first | exact HB.out | apply below_alloc | apply pw_below_drewN | apply below_drew1) | exact HB.out))) : w.heap.size ≤ gb206)); clear HB; have HB := n0_; have BK206 := n1_; have GW206 := n2_; have GE206 := n3_; clear n0_ n1_ n2_ n3_; clear hb hbox hg) | ((with_reducible refine gate_dst (N := 3) rfl ?_); refine box_event ?hg (N := 3) ?hd (cs := #[.string a1_0, .string a1_1, .int .i64 a1_2, .slice A1_3 l1_3.length c1_3]) (t := 24) ?hr ?_; (case hd => rfl); (case hg => rfl); (case hr => first | (go_simp; done) | (go_simp; rfl)); intro gb207 hg w8 hbox hb; have n0_ := Aside0.mk (blk_below (g := gb206) (o := .cells #[.string a0_0, .string a0_1, .int .i64 a0_2, .slice A0_3 l0_3.length c0_3] 24 (0, 0)) (by (with_reducible repeat (first | refine blk_drewN ?_ _ | refine blk_drew ?_ | refine blk_alloc ?_ _)); exact BK206.out) hb); have n1_ := Aside0.mk (below_step (by repeat (first | (with_reducible first | exact HB.out | apply below_alloc | apply pw_below_drewN | apply below_drew1 | refine below_set ?_ GE206.out) | exact HB.out)) hb); have n2_ := Aside0.mk (hbox); have n3_ := Aside0.mk ((by rw [hg]; exact (below_size (by repeat (first | (with_reducible first | exact HB.out | apply below_alloc | apply pw_below_drewN | apply below_drew1 | refine below_set ?_ GE206.out) | exact HB.out))) : w.heap.size ≤ gb207)); have n4_ := Aside0.mk ((by rw [hg]; exact (below_size (by repeat (first | (with_reducible first | exact HB.out | apply below_alloc | apply pw_below_drewN | apply below_drew1 | refine below_set ?_ GE206.out) | exact HB.out))) : w.heap.size ≤ gb207)); have n5_ := Aside0.mk ((by rw [hg]; exact Nat.ne_of_lt (blk_lt (g := gb206) (o := .cells #[.string a0_0, .string a0_1, .int .i64 a0_2, .slice A0_3 l0_3.length c0_3] 24 (0, 0)) (by (with_reducible repeat (first | refine blk_drewN ?_ _ | refine blk_drew ?_ | refine blk_alloc ?_ _)); exact BK206.out)) : gb206 ≠ gb207)); have n6_ := Aside0.mk ((by rw [hg]; exact Nat.ne_of_gt (blk_lt (g := gb206) (o := .cells #[.string a0_0, .string a0_1, .int .i64 a0_2, .slice A0_3 l0_3.length c0_3] 24 (0, 0)) (by (with_reducible repeat (first | refine blk_drewN ?_ _ | refine blk_drew ?_ | refine blk_alloc ?_ _)); exact BK206.out)) : gb207 ≠ gb206)); clear BK206; clear HB; have BK206 := n0_; have HB := n1_; have BK207 := n2_; have GW207 := n3_; have GE207 := n4_; have NB206_207 := n5_; have NB207_206 := n6_; clear n0_ n1_ n2_ n3_ n4_ n5_ n6_; clear hb hbox hg; have hnb9 := NB206_207.out; have hnc9 := NB207_206.out; have hcz10_0 : w8.cell? ⟨gb206, 0, none⟩ = some (.string a0_0) := (blk_cell BK206.out 0).trans rfl; have hcz10_1 : w8.cell? ⟨gb206, 1, none⟩ = some (.string a0_1) := (blk_cell BK206.out 1).trans rfl; have hcz10_2 : w8.cell? ⟨gb206, 2, none⟩ = some (.int .i64 a0_2) := (blk_cell BK206.out 2).trans rfl; have hcz10_3 : w8.cell? ⟨gb206, 3, none⟩ = some (.slice A0_3 l0_3.length c0_3) := (blk_cell BK206.out 3).trans rfl; have hfz10_0 := blk_frozen BK206.out 0; have hfz10_1 := blk_frozen BK206.out 1; have hfz10_2 := blk_frozen BK206.out 2; have hfz10_3 := blk_frozen BK206.out 3; have hcz11_0 : w8.cell? ⟨gb207, 0, none⟩ = some (.string a1_0) := (blk_cell BK207.out 0).trans rfl; have hcz11_1 : w8.cell? ⟨gb207, 1, none⟩ = some (.string a1_1) := (blk_cell BK207.out 1).trans rfl; have hcz11_2 : w8.cell? ⟨gb207, 2, none⟩ = some (.int .i64 a1_2) := (blk_cell BK207.out 2).trans rfl; have hcz11_3 : w8.cell? ⟨gb207, 3, none⟩ = some (.slice A1_3 l1_3.length c1_3) := (blk_cell BK207.out 3).trans rfl; have hfz11_0 := blk_frozen BK207.out 0; have hfz11_1 := blk_frozen BK207.out 1; have hfz11_2 := blk_frozen BK207.out 2; have hfz11_3 := blk_frozen BK207.out 3) | (go_at_call 18; (with_reducible refine (barqueref06_Steps.calls k _ _ l0_3 _ _ l1_3 t208 _ ?side1 ?side2 ?side3 ?side4 A6.out).mono ?_); (case side1 => repeat (first | exact (Kd.C_below HR0_3.out HB.out) | (with_reducible refine Kd.C_alloc ?_ _) | (with_reducible refine Kd.C_drewN ?_ _) | (with_reducible refine Kd.C_drew ?_))); (case side2 => exact HC0_3.out); (case side3 => repeat (first | exact (Kd.C_below HR1_3.out HB.out) | (with_reducible refine Kd.C_alloc ?_ _) | (with_reducible refine Kd.C_drewN ?_ _) | (with_reducible refine Kd.C_drew ?_))); (case side4 => exact HC1_3.out); rintro e w' ⟨rfl, ⟨nd, rfl⟩⟩))
        go_ret
        exact ⟨by first | rfl | (simp [errW_none, errW_some] <;> rfl) | (simp [*, errW_none, errW_some] <;> rfl), by repeat (first | (with_reducible first | exact HB.out | apply below_alloc | apply pw_below_drewN | apply below_drew1 | refine below_set ?_ GE206.out | refine below_set ?_ GE207.out) | exact HB.out)⟩
      · rw [if_neg c5] at H
        have c5b0 : (a0_2 == a1_2) = false := beq_eq_false_iff_ne.mpr c5
        have c5b1 : (a0_2 != a1_2) = true := bne_iff_ne.mpr c5
        obtain rfl := Option.some.inj H
        go_enter Try.func14, Try.ntmps14
        go_wp2_with (first | ((with_reducible refine gate_dst (N := 2) rfl ?_); refine box_event ?hg (N := 2) ?hd (cs := #[.string a0_0, .string a0_1, .int .i64 a0_2, .slice A0_3 l0_3.length c0_3]) (t := 24) ?hr ?_; (case hd => rfl); (case hg => rfl); (case hr => first | (go_simp; done) | (go_simp; rfl)); intro gb206 hg w12 hbox hb; have n0_ := Aside0.mk (below_step (by repeat (first | (with_reducible first | exact HB.out | apply below_alloc | apply pw_below_drewN | apply below_drew1) | exact HB.out)) hb); have n1_ := Aside0.mk (hbox); have n2_ := Aside0.mk ((by rw [hg]; exact (below_size (by repeat (first | (with_reducible first | exact HB.out | apply below_alloc | apply pw_below_drewN | apply below_drew1) | exact HB.out))) : w.heap.size ≤ gb206)); have n3_ := Aside0.mk ((by rw [hg]; exact (below_size (by repeat (first | (with_reducible first | exact HB.out | apply below_alloc | apply pw_below_drewN | apply below_drew1) | exact HB.out))) : w.heap.size ≤ gb206)); clear HB; have HB := n0_; have BK206 := n1_; have GW206 := n2_; have GE206 := n3_; clear n0_ n1_ n2_ n3_; clear hb hbox hg) | ((with_reducible refine gate_dst (N := 3) rfl ?_); refine box_event ?hg (N := 3) ?hd (cs := #[.string a1_0, .string a1_1, .int .i64 a1_2, .slice A1_3 l1_3.length c1_3]) (t := 24) ?hr ?_; (case hd => rfl); (case hg => rfl); (case hr => first | (go_simp; done) | (go_simp; rfl)); intro gb207 hg w13 hbox hb; have n0_ := Aside0.mk (blk_below (g := gb206) (o := .cells #[.string a0_0, .string a0_1, .int .i64 a0_2, .slice A0_3 l0_3.length c0_3] 24 (0, 0)) (by (with_reducible repeat (first | refine blk_drewN ?_ _ | refine blk_drew ?_ | refine blk_alloc ?_ _)); exact BK206.out) hb); have n1_ := Aside0.mk (below_step (by repeat (first | (with_reducible first | exact HB.out | apply below_alloc | apply pw_below_drewN | apply below_drew1 | refine below_set ?_ GE206.out) | exact HB.out)) hb); have n2_ := Aside0.mk (hbox); have n3_ := Aside0.mk ((by rw [hg]; exact (below_size (by repeat (first | (with_reducible first | exact HB.out | apply below_alloc | apply pw_below_drewN | apply below_drew1 | refine below_set ?_ GE206.out) | exact HB.out))) : w.heap.size ≤ gb207)); have n4_ := Aside0.mk ((by rw [hg]; exact (below_size (by repeat (first | (with_reducible first | exact HB.out | apply below_alloc | apply pw_below_drewN | apply below_drew1 | refine below_set ?_ GE206.out) | exact HB.out))) : w.heap.size ≤ gb207)); have n5_ := Aside0.mk ((by rw [hg]; exact Nat.ne_of_lt (blk_lt (g := gb206) (o := .cells #[.string a0_0, .string a0_1, .int .i64 a0_2, .slice A0_3 l0_3.length c0_3] 24 (0, 0)) (by (with_reducible repeat (first | refine blk_drewN ?_ _ | refine blk_drew ?_ | refine blk_alloc ?_ _)); exact BK206.out)) : gb206 ≠ gb207)); have n6_ := Aside0.mk ((by rw [hg]; exact Nat.ne_of_gt (blk_lt (g := gb206) (o := .cells #[.string a0_0, .string a0_1, .int .i64 a0_2, .slice A0_3 l0_3.length c0_3] 24 (0, 0)) (by (with_reducible repeat (first | refine blk_drewN ?_ _ | refine blk_drew ?_ | refine blk_alloc ?_ _)); exact BK206.out)) : gb207 ≠ gb206)); clear BK206; clear HB; have BK206 := n0_; have HB := n1_; have BK207 := n2_; have GW207 := n3_; have GE207 := n4_; have NB206_207 := n5_; have NB207_206 := n6_; clear n0_ n1_ n2_ n3_ n4_ n5_ n6_; clear hb hbox hg; have hnb14 := NB206_207.out; have hnc14 := NB207_206.out; have hcz15_0 : w13.cell? ⟨gb206, 0, none⟩ = some (.string a0_0) := (blk_cell BK206.out 0).trans rfl; have hcz15_1 : w13.cell? ⟨gb206, 1, none⟩ = some (.string a0_1) := (blk_cell BK206.out 1).trans rfl; have hcz15_2 : w13.cell? ⟨gb206, 2, none⟩ = some (.int .i64 a0_2) := (blk_cell BK206.out 2).trans rfl; have hcz15_3 : w13.cell? ⟨gb206, 3, none⟩ = some (.slice A0_3 l0_3.length c0_3) := (blk_cell BK206.out 3).trans rfl; have hfz15_0 := blk_frozen BK206.out 0; have hfz15_1 := blk_frozen BK206.out 1; have hfz15_2 := blk_frozen BK206.out 2; have hfz15_3 := blk_frozen BK206.out 3; have hcz16_0 : w13.cell? ⟨gb207, 0, none⟩ = some (.string a1_0) := (blk_cell BK207.out 0).trans rfl; have hcz16_1 : w13.cell? ⟨gb207, 1, none⟩ = some (.string a1_1) := (blk_cell BK207.out 1).trans rfl; have hcz16_2 : w13.cell? ⟨gb207, 2, none⟩ = some (.int .i64 a1_2) := (blk_cell BK207.out 2).trans rfl; have hcz16_3 : w13.cell? ⟨gb207, 3, none⟩ = some (.slice A1_3 l1_3.length c1_3) := (blk_cell BK207.out 3).trans rfl; have hfz16_0 := blk_frozen BK207.out 0; have hfz16_1 := blk_frozen BK207.out 1; have hfz16_2 := blk_frozen BK207.out 2; have hfz16_3 := blk_frozen BK207.out 3))
        go_ret
        exact ⟨by first | rfl | (simp [errW_none, errW_some] <;> rfl) | (simp [*, errW_none, errW_some] <;> rfl), by repeat (first | (with_reducible first | exact HB.out | apply below_alloc | apply pw_below_drewN | apply below_drew1 | refine below_set ?_ GE206.out | refine below_set ?_ GE207.out) | exact HB.out)⟩
    · rw [if_neg c4] at H
      have c4b0 : (a0_1.toList == a1_1.toList) = false := beq_eq_false_iff_ne.mpr c4
      have c4b1 : (a0_1.toList != a1_1.toList) = true := bne_iff_ne.mpr c4
      obtain rfl := Option.some.inj H
      go_enter Try.func14, Try.ntmps14
      go_wp2_with (first | ((with_reducible refine gate_dst (N := 2) rfl ?_); refine box_event ?hg (N := 2) ?hd (cs := #[.string a0_0, .string a0_1, .int .i64 a0_2, .slice A0_3 l0_3.length c0_3]) (t := 24) ?hr ?_; (case hd => rfl); (case hg => rfl); (case hr => first | (go_simp; done) | (go_simp; rfl)); intro gb206 hg w17 hbox hb; have n0_ := Aside0.mk (below_step (by repeat (first | (with_reducible first | exact HB.out | apply below_alloc | apply pw_below_drewN | apply below_drew1) | exact HB.out)) hb); have n1_ := Aside0.mk (hbox); have n2_ := Aside0.mk ((by rw [hg]; exact (below_size (by repeat (first | (with_reducible first | exact HB.out | apply below_alloc | apply pw_below_drewN | apply below_drew1) | exact HB.out))) : w.heap.size ≤ gb206)); have n3_ := Aside0.mk ((by rw [hg]; exact (below_size (by repeat (first | (with_reducible first | exact HB.out | apply below_alloc | apply pw_below_drewN | apply below_drew1) | exact HB.out))) : w.heap.size ≤ gb206)); clear HB; have HB := n0_; have BK206 := n1_; have GW206 := n2_; have GE206 := n3_; clear n0_ n1_ n2_ n3_; clear hb hbox hg) | ((with_reducible refine gate_dst (N := 3) rfl ?_); refine box_event ?hg (N := 3) ?hd (cs := #[.string a1_0, .string a1_1, .int .i64 a1_2, .slice A1_3 l1_3.length c1_3]) (t := 24) ?hr ?_; (case hd => rfl); (case hg => rfl); (case hr => first | (go_simp; done) | (go_simp; rfl)); intro gb207 hg w18 hbox hb; have n0_ := Aside0.mk (blk_below (g := gb206) (o := .cells #[.string a0_0, .string a0_1, .int .i64 a0_2, .slice A0_3 l0_3.length c0_3] 24 (0, 0)) (by (with_reducible repeat (first | refine blk_drewN ?_ _ | refine blk_drew ?_ | refine blk_alloc ?_ _)); exact BK206.out) hb); have n1_ := Aside0.mk (below_step (by repeat (first | (with_reducible first | exact HB.out | apply below_alloc | apply pw_below_drewN | apply below_drew1 | refine below_set ?_ GE206.out) | exact HB.out)) hb); have n2_ := Aside0.mk (hbox); have n3_ := Aside0.mk ((by rw [hg]; exact (below_size (by repeat (first | (with_reducible first | exact HB.out | apply below_alloc | apply pw_below_drewN | apply below_drew1 | refine below_set ?_ GE206.out) | exact HB.out))) : w.heap.size ≤ gb207)); have n4_ := Aside0.mk ((by rw [hg]; exact (below_size (by repeat (first | (with_reducible first | exact HB.out | apply below_alloc | apply pw_below_drewN | apply below_drew1 | refine below_set ?_ GE206.out) | exact HB.out))) : w.heap.size ≤ gb207)); have n5_ := Aside0.mk ((by rw [hg]; exact Nat.ne_of_lt (blk_lt (g := gb206) (o := .cells #[.string a0_0, .string a0_1, .int .i64 a0_2, .slice A0_3 l0_3.length c0_3] 24 (0, 0)) (by (with_reducible repeat (first | refine blk_drewN ?_ _ | refine blk_drew ?_ | refine blk_alloc ?_ _)); exact BK206.out)) : gb206 ≠ gb207)); have n6_ := Aside0.mk ((by rw [hg]; exact Nat.ne_of_gt (blk_lt (g := gb206) (o := .cells #[.string a0_0, .string a0_1, .int .i64 a0_2, .slice A0_3 l0_3.length c0_3] 24 (0, 0)) (by (with_reducible repeat (first | refine blk_drewN ?_ _ | refine blk_drew ?_ | refine blk_alloc ?_ _)); exact BK206.out)) : gb207 ≠ gb206)); clear BK206; clear HB; have BK206 := n0_; have HB := n1_; have BK207 := n2_; have GW207 := n3_; have GE207 := n4_; have NB206_207 := n5_; have NB207_206 := n6_; clear n0_ n1_ n2_ n3_ n4_ n5_ n6_; clear hb hbox hg; have hnb19 := NB206_207.out; have hnc19 := NB207_206.out; have hcz20_0 : w18.cell? ⟨gb206, 0, none⟩ = some (.string a0_0) := (blk_cell BK206.out 0).trans rfl; have hcz20_1 : w18.cell? ⟨gb206, 1, none⟩ = some (.string a0_1) := (blk_cell BK206.out 1).trans rfl; have hcz20_2 : w18.cell? ⟨gb206, 2, none⟩ = some (.int .i64 a0_2) := (blk_cell BK206.out 2).trans rfl; have hcz20_3 : w18.cell? ⟨gb206, 3, none⟩ = some (.slice A0_3 l0_3.length c0_3) := (blk_cell BK206.out 3).trans rfl; have hfz20_0 := blk_frozen BK206.out 0; have hfz20_1 := blk_frozen BK206.out 1; have hfz20_2 := blk_frozen BK206.out 2; have hfz20_3 := blk_frozen BK206.out 3; have hcz21_0 : w18.cell? ⟨gb207, 0, none⟩ = some (.string a1_0) := (blk_cell BK207.out 0).trans rfl; have hcz21_1 : w18.cell? ⟨gb207, 1, none⟩ = some (.string a1_1) := (blk_cell BK207.out 1).trans rfl; have hcz21_2 : w18.cell? ⟨gb207, 2, none⟩ = some (.int .i64 a1_2) := (blk_cell BK207.out 2).trans rfl; have hcz21_3 : w18.cell? ⟨gb207, 3, none⟩ = some (.slice A1_3 l1_3.length c1_3) := (blk_cell BK207.out 3).trans rfl; have hfz21_0 := blk_frozen BK207.out 0; have hfz21_1 := blk_frozen BK207.out 1; have hfz21_2 := blk_frozen BK207.out 2; have hfz21_3 := blk_frozen BK207.out 3))
      go_ret
      exact ⟨by first | rfl | (simp [errW_none, errW_some] <;> rfl) | (simp [*, errW_none, errW_some] <;> rfl), by repeat (first | (with_reducible first | exact HB.out | apply below_alloc | apply pw_below_drewN | apply below_drew1 | refine below_set ?_ GE206.out | refine below_set ?_ GE207.out) | exact HB.out)⟩
  · rw [if_neg c3] at H
    have c3b0 : (a0_0.toList == a1_0.toList) = false := beq_eq_false_iff_ne.mpr c3
    have c3b1 : (a0_0.toList != a1_0.toList) = true := bne_iff_ne.mpr c3
    obtain rfl := Option.some.inj H
    go_enter Try.func14, Try.ntmps14
    go_wp2_with (first | ((with_reducible refine gate_dst (N := 2) rfl ?_); refine box_event ?hg (N := 2) ?hd (cs := #[.string a0_0, .string a0_1, .int .i64 a0_2, .slice A0_3 l0_3.length c0_3]) (t := 24) ?hr ?_; (case hd => rfl); (case hg => rfl); (case hr => first | (go_simp; done) | (go_simp; rfl)); intro gb206 hg w22 hbox hb; have n0_ := Aside0.mk (below_step (by repeat (first | (with_reducible first | exact HB.out | apply below_alloc | apply pw_below_drewN | apply below_drew1) | exact HB.out)) hb); have n1_ := Aside0.mk (hbox); have n2_ := Aside0.mk ((by rw [hg]; exact (below_size (by repeat (first | (with_reducible first | exact HB.out | apply below_alloc | apply pw_below_drewN | apply below_drew1) | exact HB.out))) : w.heap.size ≤ gb206)); have n3_ := Aside0.mk ((by rw [hg]; exact (below_size (by repeat (first | (with_reducible first | exact HB.out | apply below_alloc | apply pw_below_drewN | apply below_drew1) | exact HB.out))) : w.heap.size ≤ gb206)); clear HB; have HB := n0_; have BK206 := n1_; have GW206 := n2_; have GE206 := n3_; clear n0_ n1_ n2_ n3_; clear hb hbox hg) | ((with_reducible refine gate_dst (N := 3) rfl ?_); refine box_event ?hg (N := 3) ?hd (cs := #[.string a1_0, .string a1_1, .int .i64 a1_2, .slice A1_3 l1_3.length c1_3]) (t := 24) ?hr ?_; (case hd => rfl); (case hg => rfl); (case hr => first | (go_simp; done) | (go_simp; rfl)); intro gb207 hg w23 hbox hb; have n0_ := Aside0.mk (blk_below (g := gb206) (o := .cells #[.string a0_0, .string a0_1, .int .i64 a0_2, .slice A0_3 l0_3.length c0_3] 24 (0, 0)) (by (with_reducible repeat (first | refine blk_drewN ?_ _ | refine blk_drew ?_ | refine blk_alloc ?_ _)); exact BK206.out) hb); have n1_ := Aside0.mk (below_step (by repeat (first | (with_reducible first | exact HB.out | apply below_alloc | apply pw_below_drewN | apply below_drew1 | refine below_set ?_ GE206.out) | exact HB.out)) hb); have n2_ := Aside0.mk (hbox); have n3_ := Aside0.mk ((by rw [hg]; exact (below_size (by repeat (first | (with_reducible first | exact HB.out | apply below_alloc | apply pw_below_drewN | apply below_drew1 | refine below_set ?_ GE206.out) | exact HB.out))) : w.heap.size ≤ gb207)); have n4_ := Aside0.mk ((by rw [hg]; exact (below_size (by repeat (first | (with_reducible first | exact HB.out | apply below_alloc | apply pw_below_drewN | apply below_drew1 | refine below_set ?_ GE206.out) | exact HB.out))) : w.heap.size ≤ gb207)); have n5_ := Aside0.mk ((by rw [hg]; exact Nat.ne_of_lt (blk_lt (g := gb206) (o := .cells #[.string a0_0, .string a0_1, .int .i64 a0_2, .slice A0_3 l0_3.length c0_3] 24 (0, 0)) (by (with_reducible repeat (first | refine blk_drewN ?_ _ | refine blk_drew ?_ | refine blk_alloc ?_ _)); exact BK206.out)) : gb206 ≠ gb207)); have n6_ := Aside0.mk ((by rw [hg]; exact Nat.ne_of_gt (blk_lt (g := gb206) (o := .cells #[.string a0_0, .string a0_1, .int .i64 a0_2, .slice A0_3 l0_3.length c0_3] 24 (0, 0)) (by (with_reducible repeat (first | refine blk_drewN ?_ _ | refine blk_drew ?_ | refine blk_alloc ?_ _)); exact BK206.out)) : gb207 ≠ gb206)); clear BK206; clear HB; have BK206 := n0_; have HB := n1_; have BK207 := n2_; have GW207 := n3_; have GE207 := n4_; have NB206_207 := n5_; have NB207_206 := n6_; clear n0_ n1_ n2_ n3_ n4_ n5_ n6_; clear hb hbox hg; have hnb24 := NB206_207.out; have hnc24 := NB207_206.out; have hcz25_0 : w23.cell? ⟨gb206, 0, none⟩ = some (.string a0_0) := (blk_cell BK206.out 0).trans rfl; have hcz25_1 : w23.cell? ⟨gb206, 1, none⟩ = some (.string a0_1) := (blk_cell BK206.out 1).trans rfl; have hcz25_2 : w23.cell? ⟨gb206, 2, none⟩ = some (.int .i64 a0_2) := (blk_cell BK206.out 2).trans rfl; have hcz25_3 : w23.cell? ⟨gb206, 3, none⟩ = some (.slice A0_3 l0_3.length c0_3) := (blk_cell BK206.out 3).trans rfl; have hfz25_0 := blk_frozen BK206.out 0; have hfz25_1 := blk_frozen BK206.out 1; have hfz25_2 := blk_frozen BK206.out 2; have hfz25_3 := blk_frozen BK206.out 3; have hcz26_0 : w23.cell? ⟨gb207, 0, none⟩ = some (.string a1_0) := (blk_cell BK207.out 0).trans rfl; have hcz26_1 : w23.cell? ⟨gb207, 1, none⟩ = some (.string a1_1) := (blk_cell BK207.out 1).trans rfl; have hcz26_2 : w23.cell? ⟨gb207, 2, none⟩ = some (.int .i64 a1_2) := (blk_cell BK207.out 2).trans rfl; have hcz26_3 : w23.cell? ⟨gb207, 3, none⟩ = some (.slice A1_3 l1_3.length c1_3) := (blk_cell BK207.out 3).trans rfl; have hfz26_0 := blk_frozen BK207.out 0; have hfz26_1 := blk_frozen BK207.out 1; have hfz26_2 := blk_frozen BK207.out 2; have hfz26_3 := blk_frozen BK207.out 3))
    go_ret
    exact ⟨by first | rfl | (simp [errW_none, errW_some] <;> rfl) | (simp [*, errW_none, errW_some] <;> rfl), by repeat (first | (with_reducible first | exact HB.out | apply below_alloc | apply pw_below_drewN | apply below_drew1 | refine below_set ?_ GE206.out | refine below_set ?_ GE207.out) | exact HB.out)⟩

end Go.Proofs.Ytjgelmfkoefclaa.PAll


-- from SameLaw
/- The reference finds a delta the same as itself. -/
namespace Go.Proofs.Ytjgelmfkoefclaa.Pure
open Go.RowKit Go.Proofs.YtjgelmfkoefclaaW.PrintWords Go.Proofs.YtjgelmfkoefclaaW.PrintLast Go.Proofs.YtjgelmfkoefclaaW.PrintMore Go.Proofs.Ytjgelmfkoefclaa.PAll
set_option linter.unusedVariables false
set_option linter.unusedSimpArgs false

theorem same_l0 (l : List S54) (hn : l.length ≤ 1000000) (d : Nat) : ∀ (k i : Nat), l.length - i = d → i ≤ l.length → d < k → barqueref06_Steps.l0 k l l (i : Nat) = some true := by
  induction d with
  | zero =>
    intro k i hd hi hk
    obtain ⟨k, rfl⟩ : ∃ m, k = m + 1 := ⟨k - 1, by omega⟩
    rw [barqueref06_Steps.l0, if_neg (by omega)]
  | succ d ih =>
    intro k i hd hi hk
    obtain ⟨k, rfl⟩ : ∃ m, k = m + 1 := ⟨k - 1, by omega⟩
    rw [barqueref06_Steps.l0, if_pos (by omega), if_pos (by omega), if_pos (by omega), if_neg (by simp), show wrap64 ((i : Int) + 1) = ((i + 1 : Nat) : Int) from by unfold wrap64; omega, ih k (i + 1) (by omega) (by omega) (by omega)]
theorem same_f (l : List S54) (hn : l.length ≤ 1000000) (k : Nat) (hk : l.length < k) : barqueref06_Steps.f k l l = some true := by
  unfold barqueref06_Steps.f
  rw [if_pos rfl]
  exact same_l0 l hn l.length k 0 (by omega) (by omega) hk

theorem same_all (k : Nat) (a b : ByteArray) (c : Int) (l : List S54) (hl : l.length ≤ 1000000) (hk : l.length < k) : barqueref06_Same.f k a b c l a b c l = some true := by
  unfold barqueref06_Same.f
  rw [if_pos rfl, if_pos rfl, if_pos rfl, same_f l hl k hk, Option.bind_some]
end Go.Proofs.Ytjgelmfkoefclaa.Pure


-- from GivSort
/- Go's stable sort of whole numbers, as far as it is wanted: it ends, it stays in its bounds, and what lies in the row behind it lay there before (by a predicate). -/
namespace Go.Proofs.Ytjgelmfkoefclaa.PAll
open Go.RowKit Go.Proofs.YtjgelmfkoefclaaW.PrintWords Go.Proofs.YtjgelmfkoefclaaW.PrintLast Go.Proofs.YtjgelmfkoefclaaW.PrintMore
set_option linter.unusedVariables false
set_option linter.unusedSimpArgs false

/-- Every element of the row in block g is a number of P. -/
def Ar (w : World) (g n : Nat) (P : Int → Prop) : Prop := ∀ i, i < n → (∃ x, w.cell? ⟨g, i, none⟩ = some (.int .i64 x) ∧ P x) ∧ w.frozen? ⟨g, i, none⟩ = false
theorem Ar.at {w : World} {g n : Nat} {P : Int → Prop} (h : Ar w g n P) (i : Nat) (hi : i < n) : ∃ x, w.cell? ⟨g, i, none⟩ = some (.int .i64 x) ∧ P x ∧ w.frozen? ⟨g, i, none⟩ = false := by
  obtain ⟨⟨x, h1, h2⟩, h3⟩ := h i hi
  exact ⟨x, h1, h2, h3⟩
theorem Ar.below {w w' : World} {g n : Nat} {P : Int → Prop} (h : Ar w g n P) (hg : g < w.heap.size) (hb : Below w.heap.size w w') : Ar w' g n P := fun i hi => by
  obtain ⟨⟨x, h1, h2⟩, h3⟩ := h i hi
  exact ⟨⟨x, (hb.cell (p := ⟨g, i, none⟩) hg).trans h1, h2⟩, (hb.frozen (p := ⟨g, i, none⟩) hg).trans h3⟩
theorem Ar.set {w : World} {g n : Nat} {P : Int → Prop} (h : Ar w g n P) (j : Nat) (hj : j < n) (x : Int) (hx : P x) : Ar (w.setCell ⟨g, j, none⟩ (.int .i64 x)) g n P := fun i hi => by
  obtain ⟨⟨y, h1, h2⟩, h3⟩ := h i hi
  obtain ⟨⟨z, k1, k2⟩, k3⟩ := h j hj
  have hblk : ∃ cs t fr, w.heap[g]? = some (.cells cs t fr) := by
    unfold World.cell? at h1
    simp only at h1
    cases e : w.heap[g]? with
    | none => rw [e] at h1; cases h1
    | some o =>
      rw [e] at h1
      cases o with
      | cells cs t fr => exact ⟨cs, t, fr, rfl⟩
      | _ => cases h1
  obtain ⟨cs, t, fr, hb⟩ := hblk
  have hb2 : (w.setCell ⟨g, j, none⟩ (.int .i64 x)).heap[g]? = some (.cells (cs.setIfInBounds j (.int .i64 x)) t fr) := by
    simp [World.setCell, Array.getElem?_modify, hb]
  have c1 : ∀ i, w.cell? ⟨g, i, none⟩ = cs[i]? := fun i => by simp [World.cell?, hb]
  have c2 : ∀ i, (w.setCell ⟨g, j, none⟩ (.int .i64 x)).cell? ⟨g, i, none⟩ = (cs.setIfInBounds j (.int .i64 x))[i]? := fun i => by simp [World.cell?, hb2]
  refine ⟨?_, ?_⟩
  · rw [c2]
    by_cases e : j = i
    · subst e
      rw [c1] at k1
      have hlt : j < cs.size := (Array.getElem?_eq_some_iff.1 k1).1
      exact ⟨x, by rw [Array.getElem?_setIfInBounds_self_of_lt hlt], hx⟩
    · rw [Array.getElem?_setIfInBounds_ne e, ← c1]
      exact ⟨y, h1, h2⟩
  · have f1 : w.frozen? ⟨g, i, none⟩ = (fr.1 ≤ i && i < fr.2) := by simp [World.frozen?, hb]
    have f2 : (w.setCell ⟨g, j, none⟩ (.int .i64 x)).frozen? ⟨g, i, none⟩ = (fr.1 ≤ i && i < fr.2) := by simp [World.frozen?, hb2]
    rw [f2, ← f1]; exact h3
theorem Ar.lt {w : World} {g n : Nat} {P : Int → Prop} (h : Ar w g n P) (hn : 0 < n) : g < w.heap.size := by
  obtain ⟨x, h1, _⟩ := h.at 0 hn
  exact World.block_lt_of_cell? w ⟨g, 0, none⟩ h1
theorem gb_setg (w : World) (g j : Nat) (u : Value) : w.grownBy (w.setCell ⟨g, j, none⟩ u) (some g) := ⟨rfl, rfl, rfl, by simp [World.setCell], fun i hi hn => Below.heap_setCell w ⟨g, j, none⟩ u i (fun e => hn (by rw [e]))⟩
theorem gb_drew {a b : World} {row : Option Nat} (h : a.grownBy b row) : a.grownBy b.drew row := ⟨h.os, h.tape, h.output, h.size, h.block⟩
theorem gb_drewN {a b : World} {row : Option Nat} (h : a.grownBy b row) (m : Nat) : a.grownBy (b.drewN m) row := ⟨h.os, h.tape, h.output, h.size, h.block⟩
theorem Ar.drewN {w : World} {g n : Nat} {P : Int → Prop} (h : Ar w g n P) (m : Nat) : Ar (w.drewN m) g n P := h
theorem Ar.drew {w : World} {g n : Nat} {P : Int → Prop} (h : Ar w g n P) : Ar w.drew g n P := h

set_option maxHeartbeats 2000000 in
set_option maxRecDepth 100000 in
theorem swapRange_calls (g n c : Nat) (P : Int → Prop) (a b k : Nat) (cmp : Value) (w : World) (hA : Ar w g n P) (ha : a + k ≤ n) (hb : b + k ≤ n) (hab : a ≠ b) (hn : n ≤ 1000000) :
    Calls Try.prog 89 #[.slice (some ⟨g, 0, none⟩) n c, .int .i64 a, .int .i64 b, .int .i64 k, cmp] w fun e w' => e = .returned (.tuple #[]) ∧ Ar w' g n P ∧ w.grownBy w' (some g) := by
  have HA := Aside0.mk hA
  clear hA
  go_enter Try.func89, Try.ntmps89
  go_wp2_with fail
  go_loopw [10] (fun v10 wr => ∃ i : Nat, v10 = .int .i64 i ∧ i ≤ k ∧ Aside0 (Ar wr g n P) ∧ Aside0 (w.grownBy wr (some g))) (fun v10 _ => k - (intOf v10).toNat)
  case atStart => exact ⟨0, rfl, Nat.zero_le _, HA, ⟨gb_refl _ _⟩⟩
  case round =>
    obtain ⟨i, rfl, hi, HR, HG⟩ := hrel
    by_cases hlt : i < k
    · have hb1 : decide (i < k) = true := decide_eq_true hlt
      obtain ⟨x, hx, px, fx⟩ := HR.out.at (a + i) (by omega)
      obtain ⟨y, hy, py, fy⟩ := HR.out.at (b + i) (by omega)
      have q1 : (0 : Int) ≤ (a : Int) + (i : Int) := by omega
      have q2 : (a : Int) + (i : Int) < (n : Int) := by omega
      have q3 : (0 : Int) ≤ (b : Int) + (i : Int) := by omega
      have q4 : (b : Int) + (i : Int) < (n : Int) := by omega
      have HPX := Aside0.mk px
      have HPY := Aside0.mk py
      have hne1 : ¬ a + i = b + i := by omega
      have hne2 : ¬ b + i = a + i := by omega
      clear px py
      go_wp2_with fail
      go_region
      all_goals
        go_wp2_with fail
        go_roundw
        case rel =>
          exact ⟨i + 1, by go_num, by omega, ⟨(HR.out.drew.set (a + i) (by omega) y HPY.out).set (b + i) (by omega) x HPX.out⟩, ⟨gb_trans (gb_trans (gb_drew HG.out) (gb_setg _ _ _ _)) (gb_setg _ _ _ _)⟩⟩
        case measure => simp [intOf]; omega
    · have hb1 : decide (i < k) = false := decide_eq_false hlt
      go_wp2_with fail
      go_end0
      exact ⟨rfl, HR.out, HG.out⟩

theorem swapRange_any (g n c : Nat) (P : Int → Prop) (a b k : Nat) (a' b' k' : Int) (ea : a' = (a : Nat)) (eb : b' = (b : Nat)) (ek : k' = (k : Nat)) (cmp : Value) (w : World) (hA : Ar w g n P) (ha : a + k ≤ n) (hb : b + k ≤ n) (hab : a ≠ b) (hn : n ≤ 1000000) :
    Calls Try.prog 89 #[.slice (some ⟨g, 0, none⟩) n c, .int .i64 a', .int .i64 b', .int .i64 k', cmp] w fun e w' => e = .returned (.tuple #[]) ∧ Ar w' g n P ∧ w.grownBy w' (some g) := by
  subst ea eb ek
  exact swapRange_calls g n c P a b k cmp w hA ha hb hab hn
/-- What the comparing function does, wherever it is called from: it answers some number, reading alone. -/
def Cmp (f : FuncId) (cap : Value) (w0 : World) (g : Nat) (P : Int → Prop) (zf : Int → Int → Int) : Prop := ∀ wx x y, w0.grownBy wx (some g) → P x → P y → Calls Try.prog f #[.int .i64 x, .int .i64 y, cap] wx fun e w' => e = .returned (.int .i64 (zf x y)) ∧ ∃ m, w' = wx.drewN m

set_option maxHeartbeats 2000000 in
set_option maxRecDepth 100000 in
theorem insertion_calls (g n c : Nat) (P : Int → Prop) (a b : Nat) (w0 : World) (cap : Value) (zf : Int → Int → Int) (hC : Cmp 69 cap w0 g P zf) (w : World) (hw : w0.grownBy w (some g)) (hA : Ar w g n P) (hb : b ≤ n) (hn : n ≤ 1000000) (ha : a ≤ 1000000) :
    Calls Try.prog 82 #[.slice (some ⟨g, 0, none⟩) n c, .int .i64 a, .int .i64 b, .func (.func 69) #[] #[cap]] w fun e w' => e = .returned (.tuple #[]) ∧ Ar w' g n P ∧ w.grownBy w' (some g) := by
  have HA := Aside0.mk hA
  have HC := Aside0.mk hC
  have HW := Aside0.mk hw
  clear hA hC hw
  go_enter Try.func82, Try.ntmps82
  go_wp2_with fail
  go_loopw [8, 9] (fun v8 v9 wr => ∃ i : Nat, v8 = .int .i64 i ∧ a + 1 ≤ i ∧ i ≤ max b (a + 1) ∧ Aside0 (Ar wr g n P) ∧ Aside0 (w.grownBy wr (some g))) (fun v8 _ _ => b - (intOf v8).toNat)
  case atStart => exact ⟨a + 1, by go_num, Nat.le_refl _, by omega, HA, ⟨gb_refl _ _⟩⟩
  case round =>
    obtain ⟨i, rfl, hi0, hi, HR, HG⟩ := hrel
    by_cases hlt : i < b
    · have hb1 : decide (i < b) = true := decide_eq_true hlt
      obtain ⟨wo, rfl⟩ : ∃ wo : World, wo = wr := ⟨_, rfl⟩
      go_upto_region 4 with fail
      go_loopw [9] (fun v9 wi => ∃ j : Nat, v9 = .int .i64 j ∧ a ≤ j ∧ j ≤ i ∧ Aside0 (Ar wi g n P) ∧ Aside0 (w.grownBy wi (some g))) (fun v9 _ => (intOf v9).toNat)
      case atStart => exact ⟨i, rfl, by omega, Nat.le_refl _, HR, HG⟩
      case round =>
        obtain ⟨j, rfl, hja, hji, HRI, HGI⟩ := hrel
        by_cases hja2 : a < j
        · have hg1 : decide ((a : Int) < (j : Int)) = true := decide_eq_true (by omega)
          have hg2 : decide (a < j) = true := decide_eq_true hja2
          obtain ⟨x, hx, px, fx⟩ := HRI.out.at j (by omega)
          obtain ⟨y, hy, py, fy⟩ := HRI.out.at (j - 1) (by omega)
          obtain ⟨j1, rfl⟩ : ∃ j1, j = j1 + 1 := ⟨j - 1, by omega⟩
          rw [Nat.add_sub_cancel] at hy fy
          have q1 : (0 : Int) ≤ (j1 : Int) + 1 := by omega
          have q2 : (j1 : Int) + 1 < (n : Int) := by omega
          have q3 : (0 : Int) ≤ (j1 : Int) := by omega
          have q4 : (j1 : Int) < (n : Int) := by omega
          have hg3 : decide ((a : Int) < (j1 : Int) + 1) = true := decide_eq_true (by omega)
          have hne1 : ¬ j1 + 1 = j1 := by omega
          have hne2 : ¬ j1 = j1 + 1 := by omega
          have HCX := Aside0.mk (fun m => HC.out (wr.drewN m) x y (gb_drewN (gb_trans HW.out HGI.out) m) px py)
          have HPX := Aside0.mk px
          have HPY := Aside0.mk py
          clear px py
          by_cases hz : zf x y < 0
          · have hzb : decide (zf x y < 0) = true := decide_eq_true hz
            go_wp2_with fail
            go_quiet ((go_at_call 69; exact Calls.quiet_of (HCX.out _)))
            go_wp2_with fail
            go_region
            all_goals
              go_wp2_with fail
              go_roundw
              case rel =>
                exact ⟨j1, rfl, by omega, by omega, ⟨by first | exact ((HRI.out.drewN _).drew.set (j1 + 1) (by omega) y HPY.out).set j1 (by omega) x HPX.out⟩, ⟨gb_trans (gb_trans (gb_drew (gb_drewN HGI.out _)) (gb_setg _ _ _ _)) (gb_setg _ _ _ _)⟩⟩
              case measure => simp [intOf]
          · have hzb : decide (zf x y < 0) = false := decide_eq_false hz
            go_wp2_with fail
            go_quiet ((go_at_call 69; exact Calls.quiet_of (HCX.out _)))
            go_wp2_with fail
            go_roundw
            case rel => exact ⟨i + 1, by go_num, by omega, by omega, ⟨HRI.out.drewN _⟩, ⟨gb_drewN HGI.out _⟩⟩
            case measure => simp [intOf]; omega
        · have hg1 : decide ((a : Int) < (j : Int)) = false := decide_eq_false (by omega)
          have hg2 : decide (a < j) = false := decide_eq_false hja2
          go_wp2_with fail
          go_quiet (fail)
          go_wp2_with fail
          go_roundw
          case rel => exact ⟨i + 1, by go_num, by omega, by omega, ⟨HRI.out.drewN _⟩, ⟨gb_drewN HGI.out _⟩⟩
          case measure => simp [intOf]; omega
    · have hb1 : decide (i < b) = false := decide_eq_false hlt
      go_wp2_with fail
      go_end0
      exact ⟨rfl, HR.out, HG.out⟩

end Go.Proofs.Ytjgelmfkoefclaa.PAll


