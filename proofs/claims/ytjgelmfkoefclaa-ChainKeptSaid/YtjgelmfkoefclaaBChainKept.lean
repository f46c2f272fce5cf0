/- The last part of the proof of the law ChainKept (texts of this session, joined by wip/tools/tail.py): every call of it answers true, and what it was handed reads behind the call as it did before. No condition. -/
import Derived.Test.YtjgelmfkoefclaaPAllx0
import Derived.Test.YtjgelmfkoefclaaPAllx2
import Derived.Test.YtjgelmfkoefclaaPAllx4
import Derived.Test.YtjgelmfkoefclaaPAllx22
import Derived.Test.YtjgelmfkoefclaaPAllx24
import Derived.Test.YtjgelmfkoefclaaPAllx25
import Derived.Test.YtjgelmfkoefclaaPureRefComp
import Derived.Test.YtjgelmfkoefclaaRead
import Derived.BigQuiet
import Derived.Deep.DeepMust
import Derived.Test.YtjgelmfkoefclaaGivCompose
import Derived.Test.YtjgelmfkoefclaaPAllx21
import Derived.Test.YtjgelmfkoefclaaRows
import Derived.Test.YtjgelmfkoefclaaOpens
import Derived.WalkKit
import Derived.ProofKit
import Derived.OpenShut
import Derived.ShutString
import Derived.ChangeOld
import Derived.Below
import Derived.SizedLaws
import Derived.Lib.SmallJoins
-- from YtjgelmfkoefclaaPAllx26
-- Written by a program of this session (wip/tools/hookprint.py, over the print); Lean checks it.
namespace Go.Proofs.Ytjgelmfkoefclaa.PAll
open Go.RowKit Go.Proofs.YtjgelmfkoefclaaW.PrintWords Go.Proofs.YtjgelmfkoefclaaW.PrintLast Go.Proofs.YtjgelmfkoefclaaW.PrintMore
attribute [local go_sem] max2_int min2_int max_two min_two max_three min_three max_four min_four   -- for this text's walks alone
set_option linter.unusedVariables false
set_option linter.unusedSimpArgs false

/-! ### barquelaw07_ChainFolds: function 4 -/
def barquelaw07_ChainFolds.l0 : Nat → List (S24) → Int → Option (Bool)
  | 0, _, _ => none
  | k + 1, x0, x3 => if x3 < (x0.length : Int) then (if 0 ≤ x3 then ((barquelaw07_small.f k ((rd_T24 x0 x3).f0) ((rd_T24 x0 x3).f1) ((rd_T24 x0 x3).f2) ((rd_T24 x0 x3).f3)).bind fun t275 => (if t275 = true then (barquelaw07_ChainFolds.l0 k x0 (wrap64 (x3 + 1))) else ((barquelaw07_awake.f k).bind fun t276 => (some t276)))) else (none)) else ((chain_Fold.f k x0).bind fun bt277 => ((barqueref07_Fold.f k x0).bind fun bt285 => ((barqueref06_Same.f k bt277.1 bt277.2.1 bt277.2.2.1 bt277.2.2.2.1 bt285.1 bt285.2.1 bt285.2.2.1 bt285.2.2.2.1).bind fun t293 => (if t293 = true then (if bt277.2.2.2.2 = bt285.2.2.2.2 then ((barquelaw07_awake.f k).bind fun t294 => (some t294)) else (some false)) else (some false)))))
def barquelaw07_ChainFolds.f (k : Nat) (l0 : List (S24)) : Option (Bool) := if (l0.length : Int) > 8 then ((barquelaw07_awake.f k).bind fun t273 => (some t273)) else (barquelaw07_ChainFolds.l0 k l0 0)
theorem barquelaw07_ChainFolds.mono_l : ∀ k, (∀ y0 y1, LeO (barquelaw07_ChainFolds.l0 k y0 y1) (barquelaw07_ChainFolds.l0 (k + 1) y0 y1))
  | 0 => fun _ _ r h => by simp [barquelaw07_ChainFolds.l0] at h
  | k + 1 => by
    have ih0 := barquelaw07_ChainFolds.mono_l k
    · intro y0 y1
      unfold barquelaw07_ChainFolds.l0
      repeat' first
      | (with_reducible exact ih0 _ _)
      | (with_reducible exact barquelaw07_awake.mono _)
      | (with_reducible exact barquelaw07_small.mono _ _ _ _ _)
      | (with_reducible exact barqueref06_Same.mono _ _ _ _ _ _ _ _ _)
      | (with_reducible exact barqueref07_Fold.mono _ _)
      | (with_reducible exact chain_Fold.mono _ _)
      | (with_reducible exact LeO.refl _)
      | (with_reducible exact LeO.none _)
      | (with_reducible refine LeO.ite ?_ ?_)
      | (with_reducible refine LeO.bind ?_ (fun _ => ?_))
      | exact ih0 _ _
      | exact barquelaw07_awake.mono _
      | exact barquelaw07_small.mono _ _ _ _ _
      | exact barqueref06_Same.mono _ _ _ _ _ _ _ _ _
      | exact barqueref07_Fold.mono _ _
      | exact chain_Fold.mono _ _
      | exact LeO.none _
      | refine LeO.ite ?_ ?_
      | refine LeO.bind ?_ (fun _ => ?_)
theorem barquelaw07_ChainFolds.mono : ∀ a0 k, LeO (barquelaw07_ChainFolds.f k a0) (barquelaw07_ChainFolds.f (k + 1) a0) := by
  intro a0 k
  have ih0 := barquelaw07_ChainFolds.mono_l k
  unfold barquelaw07_ChainFolds.f
  repeat' first
      | (with_reducible exact ih0 _ _)
      | (with_reducible exact barquelaw07_awake.mono _)
      | (with_reducible exact barquelaw07_small.mono _ _ _ _ _)
      | (with_reducible exact barqueref06_Same.mono _ _ _ _ _ _ _ _ _)
      | (with_reducible exact barqueref07_Fold.mono _ _)
      | (with_reducible exact chain_Fold.mono _ _)
      | (with_reducible exact LeO.refl _)
      | (with_reducible exact LeO.none _)
      | (with_reducible refine LeO.ite ?_ ?_)
      | (with_reducible refine LeO.bind ?_ (fun _ => ?_))
      | exact ih0 _ _
      | exact barquelaw07_awake.mono _
      | exact barquelaw07_small.mono _ _ _ _ _
      | exact barqueref06_Same.mono _ _ _ _ _ _ _ _ _
      | exact barqueref07_Fold.mono _ _
      | exact chain_Fold.mono _ _
      | exact LeO.none _
      | refine LeO.ite ?_ ?_
      | refine LeO.bind ?_ (fun _ => ?_)
set_option maxHeartbeats 8000000 in
set_option maxRecDepth 100000 in
theorem barquelaw07_ChainFolds.calls (k : Nat) (A0 : Option Addr) (c0 : Nat) (l0 : List (S24)) (r : Bool) (w : World) (hr0 : Kd.C k24 w A0 l0.length l0) (hc0 : l0.length ≤ c0) (h : barquelaw07_ChainFolds.f k l0 = some r) :
    Calls Try.prog 4 #[.slice A0 l0.length c0] w fun e w' => e = .returned (.bool r) ∧ Below w.heap.size w w' := by
  have hu24 := Try.underlying24
  have HR0 := Aside0.mk hr0
  have HC0 := Aside0.mk hc0
  clear hr0 hc0
  have HB := Aside0.mk (Below.refl w.heap.size w)
  have H : (if (l0.length : Int) > 8 then ((barquelaw07_awake.f k).bind fun t273 => (some t273)) else (barquelaw07_ChainFolds.l0 k l0 0)) = some r := h
  clear h
  by_cases c2 : (l0.length : Int) > 8
  · rw [if_pos c2] at H
    have c2b0 : decide (8 < (l0.length : Int)) = true := decide_eq_true c2
    have c2b1 : decide (8 < l0.length) = true := decide_eq_true (by omega)
    clear c2
    replace H := Option.bind_eq_some_iff.mp H
    obtain ⟨t273, A30, H⟩ := H
    replace H : (some t273) = some r := H
    have A3 := Aside0.mk A30
    clear A30
    obtain rfl := Option.some.inj H
    go_enter Try.func4, Try.ntmps4
    go_wp2_with (first | ((with_reducible refine gate_callee (f := 11) rfl ?_); refine goesL_ (some 11) rfl rfl Try.func11 (by kernel_rfl) rfl #[] rfl (by (try simp only [List.map_toArray, List.map_cons, List.map_nil]); first | done | rfl | (simp only [List.length_drop, List.length_take]; rfl)) ?_; (with_reducible refine (barquelaw07_awake.calls k  t273 _ A3.out).mono ?_); rintro e w4 ⟨rfl, hb⟩; refine ⟨_, rfl, ?_⟩; have n0_ := Aside0.mk (below_step (by repeat (first | (with_reducible first | exact HB.out | apply below_alloc | apply pw_below_drewN | apply below_drew1) | exact HB.out)) hb); clear HB; have HB := n0_; clear n0_; (try clear hb); (try clear hb2); (try clear hk); (try clear hi)))
    go_ret
    exact ⟨by first | rfl | (simp [errW_none, errW_some] <;> rfl) | (simp [*, errW_none, errW_some] <;> rfl), by repeat (first | (with_reducible first | exact HB.out | apply below_alloc | apply pw_below_drewN | apply below_drew1) | exact HB.out)⟩
  · rw [if_neg c2] at H
    have c2b0 : decide (8 < (l0.length : Int)) = false := decide_eq_false c2
    have c2b1 : decide (8 < l0.length) = false := decide_eq_false (by omega)
    clear c2
    have H' := Aside0.mk H
    clear H
    go_enter Try.func4, Try.ntmps4
    go_wp2
    go_loopg [3] k (fun kq v3 w' => ∃ (x3_1 : Int), v3 = .int .i64 x3_1 ∧ Aside0 (barquelaw07_ChainFolds.l0 kq l0 x3_1 = some r) ∧ Aside0 (kq ≤ k) ∧ Aside0 (Below w.heap.size w w'))
    case atStart => exact ⟨(0), (by first | rfl | (simp; done) | (simp [*]; done)), H', ⟨Nat.le_refl _⟩, ⟨by repeat (first | (with_reducible first | exact HB.out | apply below_alloc | apply pw_below_drewN | apply below_drew1) | exact HB.out)⟩⟩
    case round =>
      clear H'
      try clear c1
      try clear c2
      try clear c2b0
      try clear c2b1
      try clear p2
      try clear c4
      obtain ⟨x3_1, rfl, HA, HK1, HB⟩ := hrel
      cases gk with
      | zero => exact absurd HA.out (by simp [barquelaw07_ChainFolds.l0])
      | succ k1 =>
        have H := HA.out
        clear HA
        simp only [barquelaw07_ChainFolds.l0] at H
        by_cases c5 : x3_1 < (l0.length : Int)
        · rw [if_pos c5] at H
          have c5b0 : decide (x3_1 < (l0.length : Int)) = true := decide_eq_true c5
          clear c5
          by_cases c6 : 0 ≤ x3_1
          · rw [if_pos c6] at H
            have c6b0 : decide (0 ≤ x3_1) = true := decide_eq_true c6
            clear c6
            replace H := Option.bind_eq_some_iff.mp H
            obtain ⟨t275, A70, H⟩ := H
            replace H : (if t275 = true then (barquelaw07_ChainFolds.l0 k1 l0 (wrap64 (x3_1 + 1))) else ((barquelaw07_awake.f k1).bind fun t276 => (some t276))) = some r := H
            have A7 := Aside0.mk A70
            clear A70
            by_cases c8 : t275 = true
            · subst c8
              have H1 : (barquelaw07_ChainFolds.l0 k1 l0 (wrap64 (x3_1 + 1))) = some r := by rw [if_pos rfl] at H; exact H
              clear H
              have H := H1
              clear H1
              have H' := Aside0.mk H
              clear H
              have p274 : 0 ≤ (x3_1 : Int) := of_decide_eq_true (by first | (with_reducible assumption) | assumption)
              have q274 : x3_1 < (l0.length : Int) := of_decide_eq_true (by first | (with_reducible assumption) | assumption)
              obtain ⟨ad274, A274_3, c274_3, e274, hx274_0, hx274_1, hx274_2, hx274_3, hl274_3, hi274_3⟩ := at_T24 HR0.out x3_1 p274 q274
              cases e274
              replace hx274_0 := (HB.out.cell (World.block_lt_of_cell? w _ hx274_0)).trans hx274_0
              replace hx274_1 := (HB.out.cell (World.block_lt_of_cell? w _ hx274_1)).trans hx274_1
              replace hx274_2 := (HB.out.cell (World.block_lt_of_cell? w _ hx274_2)).trans hx274_2
              replace hx274_3 := (HB.out.cell (World.block_lt_of_cell? w _ hx274_3)).trans hx274_3
              have HR274_3 := Aside0.mk hi274_3
              have HC274_3 := Aside0.mk hl274_3
              clear hi274_3 hl274_3
              replace p274 := eq_true p274
              replace q274 := eq_true q274
              go_wp2_with (first | ((with_reducible refine gate_callee (f := 10) rfl ?_); refine goesL_ (some 22) rfl rfl Try.func10 (by kernel_rfl) rfl #[.agg #[.string ((rd_T24 l0 x3_1).f0), .string ((rd_T24 l0 x3_1).f1), .int .i64 ((rd_T24 l0 x3_1).f2), .slice A274_3 ((rd_T24 l0 x3_1).f3).length c274_3]] rfl (by (try simp only [List.map_toArray, List.map_cons, List.map_nil]); first | done | rfl | (simp only [List.length_drop, List.length_take]; rfl)) ?_; (with_reducible refine (barquelaw07_small.calls k1 ((rd_T24 l0 x3_1).f0) ((rd_T24 l0 x3_1).f1) ((rd_T24 l0 x3_1).f2) _ _ ((rd_T24 l0 x3_1).f3) true _ ?side1 ?side2 A7.out).mono ?_); (case side1 => repeat (first | exact (Kd.C_below HR274_3.out HB.out) | (with_reducible refine Kd.C_alloc ?_ _) | (with_reducible refine Kd.C_drewN ?_ _) | (with_reducible refine Kd.C_drew ?_))); (case side2 => exact HC274_3.out); rintro e w9 ⟨rfl, hb⟩; refine ⟨_, rfl, ?_⟩; have n0_ := Aside0.mk (below_step (by repeat (first | (with_reducible first | exact HB.out | apply below_alloc | apply pw_below_drewN | apply below_drew1) | exact HB.out)) hb); clear HB; have HB := n0_; clear n0_; (try clear hb); (try clear hb2); (try clear hk); (try clear hi)))
              go_roundg k1
              case measure => have := HK1.out; omega
              case rel => exact ⟨(wrap64 (x3_1 + 1)), (by first | rfl | (simp; done) | (simp [*]; done)), H', ⟨by have := HK1.out; omega⟩, ⟨by repeat (first | (with_reducible first | exact HB.out | apply below_alloc | apply pw_below_drewN | apply below_drew1) | exact HB.out)⟩⟩
            · replace c8 := Bool.eq_false_iff.mpr c8
              subst c8
              have H1 : ((barquelaw07_awake.f k1).bind fun t276 => (some t276)) = some r := by rw [if_neg (show ¬ (false = true) by decide)] at H; exact H
              clear H
              have H := H1
              clear H1
              replace H := Option.bind_eq_some_iff.mp H
              obtain ⟨t276, A100, H⟩ := H
              replace H : (some t276) = some r := H
              have A10 := Aside0.mk A100
              clear A100
              obtain rfl := Option.some.inj H
              have p274 : 0 ≤ (x3_1 : Int) := of_decide_eq_true (by first | (with_reducible assumption) | assumption)
              have q274 : x3_1 < (l0.length : Int) := of_decide_eq_true (by first | (with_reducible assumption) | assumption)
              obtain ⟨ad274, A274_3, c274_3, e274, hx274_0, hx274_1, hx274_2, hx274_3, hl274_3, hi274_3⟩ := at_T24 HR0.out x3_1 p274 q274
              cases e274
              replace hx274_0 := (HB.out.cell (World.block_lt_of_cell? w _ hx274_0)).trans hx274_0
              replace hx274_1 := (HB.out.cell (World.block_lt_of_cell? w _ hx274_1)).trans hx274_1
              replace hx274_2 := (HB.out.cell (World.block_lt_of_cell? w _ hx274_2)).trans hx274_2
              replace hx274_3 := (HB.out.cell (World.block_lt_of_cell? w _ hx274_3)).trans hx274_3
              have HR274_3 := Aside0.mk hi274_3
              have HC274_3 := Aside0.mk hl274_3
              clear hi274_3 hl274_3
              replace p274 := eq_true p274
              replace q274 := eq_true q274
              go_wp2_with (first | ((with_reducible refine gate_callee (f := 10) rfl ?_); refine goesL_ (some 22) rfl rfl Try.func10 (by kernel_rfl) rfl #[.agg #[.string ((rd_T24 l0 x3_1).f0), .string ((rd_T24 l0 x3_1).f1), .int .i64 ((rd_T24 l0 x3_1).f2), .slice A274_3 ((rd_T24 l0 x3_1).f3).length c274_3]] rfl (by (try simp only [List.map_toArray, List.map_cons, List.map_nil]); first | done | rfl | (simp only [List.length_drop, List.length_take]; rfl)) ?_; (with_reducible refine (barquelaw07_small.calls k1 ((rd_T24 l0 x3_1).f0) ((rd_T24 l0 x3_1).f1) ((rd_T24 l0 x3_1).f2) _ _ ((rd_T24 l0 x3_1).f3) false _ ?side1 ?side2 A7.out).mono ?_); (case side1 => repeat (first | exact (Kd.C_below HR274_3.out HB.out) | (with_reducible refine Kd.C_alloc ?_ _) | (with_reducible refine Kd.C_drewN ?_ _) | (with_reducible refine Kd.C_drew ?_))); (case side2 => exact HC274_3.out); rintro e w11 ⟨rfl, hb⟩; refine ⟨_, rfl, ?_⟩; have n0_ := Aside0.mk (below_step (by repeat (first | (with_reducible first | exact HB.out | apply below_alloc | apply pw_below_drewN | apply below_drew1) | exact HB.out)) hb); clear HB; have HB := n0_; clear n0_; (try clear hb); (try clear hb2); (try clear hk); (try clear hi)) | ((with_reducible refine gate_callee (f := 11) rfl ?_); refine goesL_ (some 24) rfl rfl Try.func11 (by kernel_rfl) rfl #[] rfl (by (try simp only [List.map_toArray, List.map_cons, List.map_nil]); first | done | rfl | (simp only [List.length_drop, List.length_take]; rfl)) ?_; (with_reducible refine (barquelaw07_awake.calls k1  t276 _ A10.out).mono ?_); rintro e w12 ⟨rfl, hb⟩; refine ⟨_, rfl, ?_⟩; have n0_ := Aside0.mk (below_step (by repeat (first | (with_reducible first | exact HB.out | apply below_alloc | apply pw_below_drewN | apply below_drew1) | exact HB.out)) hb); clear HB; have HB := n0_; clear n0_; (try clear hb); (try clear hb2); (try clear hk); (try clear hi)))
              go_ret
              exact ⟨by first | rfl | (simp [errW_none, errW_some] <;> rfl) | (simp [*, errW_none, errW_some] <;> rfl), by repeat (first | (with_reducible first | exact HB.out | apply below_alloc | apply pw_below_drewN | apply below_drew1) | exact HB.out)⟩
          · rw [if_neg c6] at H
            exact absurd H (by simp)
        · rw [if_neg c5] at H
          have c5b0 : decide (x3_1 < (l0.length : Int)) = false := decide_eq_false c5
          clear c5
          replace H := Option.bind_eq_some_iff.mp H
          obtain ⟨⟨t277, t278, t279, t280, t283⟩, A130, H⟩ := H
          replace H : ((barqueref07_Fold.f k1 l0).bind fun bt285 => ((barqueref06_Same.f k1 t277 t278 t279 t280 bt285.1 bt285.2.1 bt285.2.2.1 bt285.2.2.2.1).bind fun t293 => (if t293 = true then (if t283 = bt285.2.2.2.2 then ((barquelaw07_awake.f k1).bind fun t294 => (some t294)) else (some false)) else (some false)))) = some r := H
          have A13 := Aside0.mk A130
          clear A130
          replace H := Option.bind_eq_some_iff.mp H
          obtain ⟨⟨t285, t286, t287, t288, t291⟩, A140, H⟩ := H
          replace H : ((barqueref06_Same.f k1 t277 t278 t279 t280 t285 t286 t287 t288).bind fun t293 => (if t293 = true then (if t283 = t291 then ((barquelaw07_awake.f k1).bind fun t294 => (some t294)) else (some false)) else (some false))) = some r := H
          have A14 := Aside0.mk A140
          clear A140
          replace H := Option.bind_eq_some_iff.mp H
          obtain ⟨t293, A150, H⟩ := H
          replace H : (if t293 = true then (if t283 = t291 then ((barquelaw07_awake.f k1).bind fun t294 => (some t294)) else (some false)) else (some false)) = some r := H
          have A15 := Aside0.mk A150
          clear A150
          by_cases c16 : t293 = true
          · subst c16
            have H1 : (if t283 = t291 then ((barquelaw07_awake.f k1).bind fun t294 => (some t294)) else (some false)) = some r := by rw [if_pos rfl] at H; exact H
            clear H
            have H := H1
            clear H1
            by_cases c17 : t283 = t291
            · rw [if_pos c17] at H
              have c17b0 : (t283 == t291) = true := beq_iff_eq.mpr c17
              have c17b1 : (t283 != t291) = false := bne_eq_false_iff_eq.mpr c17
              clear c17
              replace H := Option.bind_eq_some_iff.mp H
              obtain ⟨t294, A180, H⟩ := H
              replace H : (some t294) = some r := H
              have A18 := Aside0.mk A180
              clear A180
              obtain rfl := Option.some.inj H
              go_wp2_with (first | ((with_reducible refine gate_callee (f := 15) rfl ?_); refine goesL_ (some 27) rfl rfl Try.func15 (by kernel_rfl) rfl #[.slice A0 l0.length c0] rfl (by (try simp only [List.map_toArray, List.map_cons, List.map_nil]); first | done | rfl | (simp only [List.length_drop, List.length_take]; rfl)) ?_; (with_reducible refine (chain_Fold.calls k1 _ _ l0 t277 t278 t279 t280 t283 _ ?side1 ?side2 A13.out).mono ?_); (case side1 => repeat (first | exact (Kd.C_below HR0.out HB.out) | (with_reducible refine Kd.C_alloc ?_ _) | (with_reducible refine Kd.C_drewN ?_ _) | (with_reducible refine Kd.C_drew ?_))); (case side2 => exact HC0.out); rintro e w19 ⟨v281, rfl, ho0, hb⟩; refine ⟨_, rfl, ?_⟩; have n0_ := Aside0.mk (Kd.R_lower ho0 (below_size (by repeat (first | (with_reducible first | exact HB.out | apply below_alloc | apply pw_below_drewN | apply below_drew1) | exact HB.out)))); have n1_ := Aside0.mk (below_step (by repeat (first | (with_reducible first | exact HB.out | apply below_alloc | apply pw_below_drewN | apply below_drew1) | exact HB.out)) hb); clear HB; have HO282 := n0_; have HB := n1_; clear n0_ n1_; (try clear hb); (try clear hb2); (try clear hk); (try clear hi); (try clear ho0)) | ((with_reducible refine gate_dst (N := 4) rfl ?_); refine box_event ?hg (N := 4) ?hd (cs := #[.string (⟨#[]⟩ : ByteArray), .string (⟨#[]⟩ : ByteArray), .int .i64 0, .slice none 0 0]) (t := 24) ?hr ?_; (case hd => rfl); (case hg => rfl); (case hr => first | (go_simp; done) | (go_simp; rfl)); intro gb284 hg w20 hbox hb; have n0_ := Aside0.mk (Kd.R_below (by (with_reducible repeat (first | apply Kd.R_alloc | apply Kd.R_drewN | apply Kd.R_drew)); exact HO282.out) hb); have n1_ := Aside0.mk (below_step (by repeat (first | (with_reducible first | exact HB.out | apply below_alloc | apply pw_below_drewN | apply below_drew1) | exact HB.out)) hb); have n2_ := Aside0.mk (hbox); have n3_ := Aside0.mk ((by rw [hg]; exact (below_size (by repeat (first | (with_reducible first | exact HB.out | apply below_alloc | apply pw_below_drewN | apply below_drew1) | exact HB.out))) : w.heap.size ≤ gb284)); have n4_ := Aside0.mk ((by rw [hg]; exact (below_size (by repeat (first | (with_reducible first | exact HB.out | apply below_alloc | apply pw_below_drewN | apply below_drew1) | exact HB.out))) : w.heap.size ≤ gb284)); clear HO282; clear HB; have HO282 := n0_; have HB := n1_; have BK284 := n2_; have GW284 := n3_; have GE284 := n4_; clear n0_ n1_ n2_ n3_ n4_; clear hb hbox hg; have hcz21_0 : w20.cell? ⟨gb284, 0, none⟩ = some (.string (⟨#[]⟩ : ByteArray)) := (blk_cell BK284.out 0).trans rfl; have hcz21_1 : w20.cell? ⟨gb284, 1, none⟩ = some (.string (⟨#[]⟩ : ByteArray)) := (blk_cell BK284.out 1).trans rfl; have hcz21_2 : w20.cell? ⟨gb284, 2, none⟩ = some (.int .i64 0) := (blk_cell BK284.out 2).trans rfl; have hcz21_3 : w20.cell? ⟨gb284, 3, none⟩ = some (.slice none 0 0) := (blk_cell BK284.out 3).trans rfl; have hfz21_0 := blk_frozen BK284.out 0; have hfz21_1 := blk_frozen BK284.out 1; have hfz21_2 := blk_frozen BK284.out 2; have hfz21_3 := blk_frozen BK284.out 3; obtain ⟨Ao22, co22, eo22⟩ := Kd.R_slice HO282.out; subst eo22) | ((with_reducible refine gate_callee (f := 16) rfl ?_); refine goesL_ (some 32) rfl rfl Try.func16 (by kernel_rfl) rfl #[.slice A0 l0.length c0] rfl (by (try simp only [List.map_toArray, List.map_cons, List.map_nil]); first | done | rfl | (simp only [List.length_drop, List.length_take]; rfl)) ?_; (with_reducible refine (barqueref07_Fold.calls k1 _ _ l0 t285 t286 t287 t288 t291 _ ?side1 ?side2 A14.out).mono ?_); (case side1 => exact Kd.C_below HR0.out (by repeat (first | (with_reducible first | exact HB.out | apply below_alloc | apply pw_below_drewN | apply below_drew1 | refine below_set ?_ GE284.out) | exact HB.out))); (case side2 => exact HC0.out); rintro e w23 ⟨v289, rfl, ho0, hb⟩; refine ⟨_, rfl, ?_⟩; have n0_ := Aside0.mk (Kd.R_elder' (by (with_reducible repeat (first | apply Kd.R_alloc | apply Kd.R_drewN | apply Kd.R_drew)); exact (Kd.R_mono (Kd.R_far (p := ⟨gb284, 3, none⟩) (Kd.R_far (p := ⟨gb284, 2, none⟩) (Kd.R_far (p := ⟨gb284, 1, none⟩) (Kd.R_far (p := ⟨gb284, 0, none⟩) (Kd.R_types HO282.out BK284.out (by decide)) (fun _ hk => hk.2) (.string t277)) (fun _ hk => hk.2) (.string t278)) (fun _ hk => hk.2) (.int .i64 t279)) (fun _ hk => hk.2) (.slice Ao22 t280.length co22)) (fun _ h_ => h_.1))) (Kd.R_base ho0) hb); have n1_ := Aside0.mk (Kd.R_lower (Kd.R_new' ho0 (Kd.R_lt (by (with_reducible repeat (first | apply Kd.R_alloc | apply Kd.R_drewN | apply Kd.R_drew)); exact (Kd.R_mono (Kd.R_far (p := ⟨gb284, 3, none⟩) (Kd.R_far (p := ⟨gb284, 2, none⟩) (Kd.R_far (p := ⟨gb284, 1, none⟩) (Kd.R_far (p := ⟨gb284, 0, none⟩) (Kd.R_types HO282.out BK284.out (by decide)) (fun _ hk => hk.2) (.string t277)) (fun _ hk => hk.2) (.string t278)) (fun _ hk => hk.2) (.int .i64 t279)) (fun _ hk => hk.2) (.slice Ao22 t280.length co22)) (fun _ h_ => h_.1))))) (below_size (by repeat (first | (with_reducible first | exact HB.out | apply below_alloc | apply pw_below_drewN | apply below_drew1 | refine below_set ?_ GE284.out) | exact HB.out)))); have n2_ := Aside0.mk (blk_below (g := gb284) (o := .cells #[.string t277, .string t278, .int .i64 t279, .slice Ao22 t280.length co22] 24 (0, 0)) (by (with_reducible repeat (first | refine blk_drewN ?_ _ | refine blk_drew ?_ | refine blk_alloc ?_ _)); refine blk_put (cs := #[.string t277, .string t278, .int .i64 t279, .slice none 0 0]) ?_ 3 _ rfl; (with_reducible repeat (first | refine blk_drewN ?_ _ | refine blk_drew ?_ | refine blk_alloc ?_ _)); refine blk_put (cs := #[.string t277, .string t278, .int .i64 0, .slice none 0 0]) ?_ 2 _ rfl; (with_reducible repeat (first | refine blk_drewN ?_ _ | refine blk_drew ?_ | refine blk_alloc ?_ _)); refine blk_put (cs := #[.string t277, .string (⟨#[]⟩ : ByteArray), .int .i64 0, .slice none 0 0]) ?_ 1 _ rfl; (with_reducible repeat (first | refine blk_drewN ?_ _ | refine blk_drew ?_ | refine blk_alloc ?_ _)); refine blk_put (cs := #[.string (⟨#[]⟩ : ByteArray), .string (⟨#[]⟩ : ByteArray), .int .i64 0, .slice none 0 0]) ?_ 0 _ rfl; (with_reducible repeat (first | refine blk_drewN ?_ _ | refine blk_drew ?_ | refine blk_alloc ?_ _)); exact BK284.out) hb); have n3_ := Aside0.mk (below_step (by repeat (first | (with_reducible first | exact HB.out | apply below_alloc | apply pw_below_drewN | apply below_drew1 | refine below_set ?_ GE284.out) | exact HB.out)) hb); clear HO282; clear BK284; clear HB; have HO282 := n0_; have HO290 := n1_; have BK284 := n2_; have HB := n3_; clear n0_ n1_ n2_ n3_; (try clear hb); (try clear hb2); (try clear hk); (try clear hi); (try clear ho0)) | ((with_reducible refine gate_dst (N := 6) rfl ?_); refine box_event ?hg (N := 6) ?hd (cs := #[.string (⟨#[]⟩ : ByteArray), .string (⟨#[]⟩ : ByteArray), .int .i64 0, .slice none 0 0]) (t := 24) ?hr ?_; (case hd => rfl); (case hg => rfl); (case hr => first | (go_simp; done) | (go_simp; rfl)); intro gb292 hg w24 hbox hb; have n0_ := Aside0.mk (Kd.R_below (by (with_reducible repeat (first | apply Kd.R_alloc | apply Kd.R_drewN | apply Kd.R_drew)); exact HO282.out) hb); have n1_ := Aside0.mk (Kd.R_below (by (with_reducible repeat (first | apply Kd.R_alloc | apply Kd.R_drewN | apply Kd.R_drew)); exact HO290.out) hb); have n2_ := Aside0.mk (blk_below (g := gb284) (o := .cells #[.string t277, .string t278, .int .i64 t279, .slice Ao22 t280.length co22] 24 (0, 0)) (by (with_reducible repeat (first | refine blk_drewN ?_ _ | refine blk_drew ?_ | refine blk_alloc ?_ _)); exact BK284.out) hb); have n3_ := Aside0.mk (below_step (by repeat (first | (with_reducible first | exact HB.out | apply below_alloc | apply pw_below_drewN | apply below_drew1 | refine below_set ?_ GE284.out) | exact HB.out)) hb); have n4_ := Aside0.mk (hbox); have n5_ := Aside0.mk ((by rw [hg]; exact (below_size (by repeat (first | (with_reducible first | exact HB.out | apply below_alloc | apply pw_below_drewN | apply below_drew1 | refine below_set ?_ GE284.out) | exact HB.out))) : w.heap.size ≤ gb292)); have n6_ := Aside0.mk ((by rw [hg]; exact (below_size (by repeat (first | (with_reducible first | exact HB.out | apply below_alloc | apply pw_below_drewN | apply below_drew1 | refine below_set ?_ GE284.out) | exact HB.out))) : w.heap.size ≤ gb292)); have n7_ := Aside0.mk ((by rw [hg]; exact Nat.ne_of_lt (blk_lt (g := gb284) (o := .cells #[.string t277, .string t278, .int .i64 t279, .slice Ao22 t280.length co22] 24 (0, 0)) (by (with_reducible repeat (first | refine blk_drewN ?_ _ | refine blk_drew ?_ | refine blk_alloc ?_ _)); exact BK284.out)) : gb284 ≠ gb292)); have n8_ := Aside0.mk ((by rw [hg]; exact Nat.ne_of_gt (blk_lt (g := gb284) (o := .cells #[.string t277, .string t278, .int .i64 t279, .slice Ao22 t280.length co22] 24 (0, 0)) (by (with_reducible repeat (first | refine blk_drewN ?_ _ | refine blk_drew ?_ | refine blk_alloc ?_ _)); exact BK284.out)) : gb292 ≠ gb284)); clear HO282; clear HO290; clear BK284; clear HB; have HO282 := n0_; have HO290 := n1_; have BK284 := n2_; have HB := n3_; have BK292 := n4_; have GW292 := n5_; have GE292 := n6_; have NB284_292 := n7_; have NB292_284 := n8_; clear n0_ n1_ n2_ n3_ n4_ n5_ n6_ n7_ n8_; clear hb hbox hg; have hnb25 := NB292_284.out; have hnc25 := NB284_292.out; have hcz26_0 : w24.cell? ⟨gb292, 0, none⟩ = some (.string (⟨#[]⟩ : ByteArray)) := (blk_cell BK292.out 0).trans rfl; have hcz26_1 : w24.cell? ⟨gb292, 1, none⟩ = some (.string (⟨#[]⟩ : ByteArray)) := (blk_cell BK292.out 1).trans rfl; have hcz26_2 : w24.cell? ⟨gb292, 2, none⟩ = some (.int .i64 0) := (blk_cell BK292.out 2).trans rfl; have hcz26_3 : w24.cell? ⟨gb292, 3, none⟩ = some (.slice none 0 0) := (blk_cell BK292.out 3).trans rfl; have hfz26_0 := blk_frozen BK292.out 0; have hfz26_1 := blk_frozen BK292.out 1; have hfz26_2 := blk_frozen BK292.out 2; have hfz26_3 := blk_frozen BK292.out 3; obtain ⟨Ao27, co27, eo27⟩ := Kd.R_slice HO290.out; subst eo27; have hcz28_0 : w24.cell? ⟨gb284, 0, none⟩ = some (.string t277) := (blk_cell BK284.out 0).trans rfl; have hcz28_1 : w24.cell? ⟨gb284, 1, none⟩ = some (.string t278) := (blk_cell BK284.out 1).trans rfl; have hcz28_2 : w24.cell? ⟨gb284, 2, none⟩ = some (.int .i64 t279) := (blk_cell BK284.out 2).trans rfl; have hcz28_3 : w24.cell? ⟨gb284, 3, none⟩ = some (.slice Ao22 t280.length co22) := (blk_cell BK284.out 3).trans rfl; have hfz28_0 := blk_frozen BK284.out 0; have hfz28_1 := blk_frozen BK284.out 1; have hfz28_2 := blk_frozen BK284.out 2; have hfz28_3 := blk_frozen BK284.out 3) | ((with_reducible refine gate_callee (f := 14) rfl ?_); refine goesL_ (some 37) rfl rfl Try.func14 (by kernel_rfl) rfl #[.agg #[.string t277, .string t278, .int .i64 t279, .slice Ao22 t280.length co22], .agg #[.string t285, .string t286, .int .i64 t287, .slice Ao27 t288.length co27]] rfl (by (try simp only [List.map_toArray, List.map_cons, List.map_nil]); first | done | rfl | (simp only [List.length_drop, List.length_take]; rfl)) ?_; (with_reducible refine (barqueref06_Same.calls k1 t277 t278 t279 _ _ t280 t285 t286 t287 _ _ t288 true _ ?side1 ?side2 ?side3 ?side4 A15.out).mono ?_); (case side1 => refine (Kd.R_reads' (e := 54) (base := w.heap.size) (ok := fun k_ => (True ∧ some k_ ≠ (.slice Ao27 t288.length co27 : Value).ownBlock)) (n := t280.length) (c := co22) ?_).2.2; exact (by (with_reducible repeat (first | apply Kd.R_alloc | apply Kd.R_drewN | apply Kd.R_drew)); exact (Kd.R_mono (Kd.R_far (p := ⟨gb292, 3, none⟩) (Kd.R_far (p := ⟨gb292, 2, none⟩) (Kd.R_far (p := ⟨gb292, 1, none⟩) (Kd.R_far (p := ⟨gb292, 0, none⟩) (Kd.R_types HO282.out BK292.out (by decide)) (fun _ hk => hk.2) (.string t285)) (fun _ hk => hk.2) (.string t286)) (fun _ hk => hk.2) (.int .i64 t287)) (fun _ hk => hk.2) (.slice Ao27 t288.length co27)) (fun _ h_ => h_.1)))); (case side2 => exact (Kd.R_reads' HO282.out).2.1); (case side3 => refine (Kd.R_reads' (e := 54) (base := w.heap.size) (ok := fun k_ => (True ∧ some k_ ≠ (.slice Ao22 t280.length co22 : Value).ownBlock)) (n := t288.length) (c := co27) ?_).2.2; exact (by (with_reducible repeat (first | apply Kd.R_alloc | apply Kd.R_drewN | apply Kd.R_drew)); exact (Kd.R_mono (Kd.R_far (p := ⟨gb292, 3, none⟩) (Kd.R_far (p := ⟨gb292, 2, none⟩) (Kd.R_far (p := ⟨gb292, 1, none⟩) (Kd.R_far (p := ⟨gb292, 0, none⟩) (Kd.R_types HO290.out BK292.out (by decide)) (fun _ hk => hk.2) (.string t285)) (fun _ hk => hk.2) (.string t286)) (fun _ hk => hk.2) (.int .i64 t287)) (fun _ hk => hk.2) (.slice Ao27 t288.length co27)) (fun _ h_ => h_.1)))); (case side4 => exact (Kd.R_reads' HO290.out).2.1); rintro e w29 ⟨rfl, hb⟩; refine ⟨_, rfl, ?_⟩; have n0_ := Aside0.mk (Kd.R_below (by (with_reducible repeat (first | apply Kd.R_alloc | apply Kd.R_drewN | apply Kd.R_drew)); exact (Kd.R_mono (Kd.R_far (p := ⟨gb292, 3, none⟩) (Kd.R_far (p := ⟨gb292, 2, none⟩) (Kd.R_far (p := ⟨gb292, 1, none⟩) (Kd.R_far (p := ⟨gb292, 0, none⟩) (Kd.R_types HO282.out BK292.out (by decide)) (fun _ hk => hk.2) (.string t285)) (fun _ hk => hk.2) (.string t286)) (fun _ hk => hk.2) (.int .i64 t287)) (fun _ hk => hk.2) (.slice Ao27 t288.length co27)) (fun _ h_ => h_.1))) hb); have n1_ := Aside0.mk (Kd.R_below (by (with_reducible repeat (first | apply Kd.R_alloc | apply Kd.R_drewN | apply Kd.R_drew)); exact (Kd.R_mono (Kd.R_far (p := ⟨gb292, 3, none⟩) (Kd.R_far (p := ⟨gb292, 2, none⟩) (Kd.R_far (p := ⟨gb292, 1, none⟩) (Kd.R_far (p := ⟨gb292, 0, none⟩) (Kd.R_types HO290.out BK292.out (by decide)) (fun _ hk => hk.2) (.string t285)) (fun _ hk => hk.2) (.string t286)) (fun _ hk => hk.2) (.int .i64 t287)) (fun _ hk => hk.2) (.slice Ao27 t288.length co27)) (fun _ h_ => h_.1))) hb); have n2_ := Aside0.mk (blk_below (g := gb284) (o := .cells #[.string t277, .string t278, .int .i64 t279, .slice Ao22 t280.length co22] 24 (0, 0)) (by (with_reducible repeat (first | refine blk_drewN ?_ _ | refine blk_drew ?_ | refine blk_alloc ?_ _)); refine blk_far ?_ NB284_292.out _; (with_reducible repeat (first | refine blk_drewN ?_ _ | refine blk_drew ?_ | refine blk_alloc ?_ _)); refine blk_far ?_ NB284_292.out _; (with_reducible repeat (first | refine blk_drewN ?_ _ | refine blk_drew ?_ | refine blk_alloc ?_ _)); refine blk_far ?_ NB284_292.out _; (with_reducible repeat (first | refine blk_drewN ?_ _ | refine blk_drew ?_ | refine blk_alloc ?_ _)); refine blk_far ?_ NB284_292.out _; (with_reducible repeat (first | refine blk_drewN ?_ _ | refine blk_drew ?_ | refine blk_alloc ?_ _)); exact BK284.out) hb); have n3_ := Aside0.mk (blk_below (g := gb292) (o := .cells #[.string t285, .string t286, .int .i64 t287, .slice Ao27 t288.length co27] 24 (0, 0)) (by (with_reducible repeat (first | refine blk_drewN ?_ _ | refine blk_drew ?_ | refine blk_alloc ?_ _)); refine blk_put (cs := #[.string t285, .string t286, .int .i64 t287, .slice none 0 0]) ?_ 3 _ rfl; (with_reducible repeat (first | refine blk_drewN ?_ _ | refine blk_drew ?_ | refine blk_alloc ?_ _)); refine blk_put (cs := #[.string t285, .string t286, .int .i64 0, .slice none 0 0]) ?_ 2 _ rfl; (with_reducible repeat (first | refine blk_drewN ?_ _ | refine blk_drew ?_ | refine blk_alloc ?_ _)); refine blk_put (cs := #[.string t285, .string (⟨#[]⟩ : ByteArray), .int .i64 0, .slice none 0 0]) ?_ 1 _ rfl; (with_reducible repeat (first | refine blk_drewN ?_ _ | refine blk_drew ?_ | refine blk_alloc ?_ _)); refine blk_put (cs := #[.string (⟨#[]⟩ : ByteArray), .string (⟨#[]⟩ : ByteArray), .int .i64 0, .slice none 0 0]) ?_ 0 _ rfl; (with_reducible repeat (first | refine blk_drewN ?_ _ | refine blk_drew ?_ | refine blk_alloc ?_ _)); exact BK292.out) hb); have n4_ := Aside0.mk (below_step (by repeat (first | (with_reducible first | exact HB.out | apply below_alloc | apply pw_below_drewN | apply below_drew1 | refine below_set ?_ GE284.out | refine below_set ?_ GE292.out) | exact HB.out)) hb); clear HO282; clear HO290; clear BK284; clear BK292; clear HB; have HO282 := n0_; have HO290 := n1_; have BK284 := n2_; have BK292 := n3_; have HB := n4_; clear n0_ n1_ n2_ n3_ n4_; (try clear hb); (try clear hb2); (try clear hk); (try clear hi)) | (go_at_call 11; (with_reducible refine (barquelaw07_awake.calls k1  t294 _ A18.out).mono ?_); rintro e w30 ⟨rfl, hb⟩; have n0_ := Aside0.mk (Kd.R_below (by (with_reducible repeat (first | apply Kd.R_alloc | apply Kd.R_drewN | apply Kd.R_drew)); exact HO282.out) hb); have n1_ := Aside0.mk (Kd.R_below (by (with_reducible repeat (first | apply Kd.R_alloc | apply Kd.R_drewN | apply Kd.R_drew)); exact HO290.out) hb); have n2_ := Aside0.mk (blk_below (g := gb284) (o := .cells #[.string t277, .string t278, .int .i64 t279, .slice Ao22 t280.length co22] 24 (0, 0)) (by (with_reducible repeat (first | refine blk_drewN ?_ _ | refine blk_drew ?_ | refine blk_alloc ?_ _)); exact BK284.out) hb); have n3_ := Aside0.mk (blk_below (g := gb292) (o := .cells #[.string t285, .string t286, .int .i64 t287, .slice Ao27 t288.length co27] 24 (0, 0)) (by (with_reducible repeat (first | refine blk_drewN ?_ _ | refine blk_drew ?_ | refine blk_alloc ?_ _)); exact BK292.out) hb); have n4_ := Aside0.mk (below_step (by repeat (first | (with_reducible first | exact HB.out | apply below_alloc | apply pw_below_drewN | apply below_drew1 | refine below_set ?_ GE284.out | refine below_set ?_ GE292.out) | exact HB.out)) hb); clear HO282; clear HO290; clear BK284; clear BK292; clear HB; have HO282 := n0_; have HO290 := n1_; have BK284 := n2_; have BK292 := n3_; have HB := n4_; clear n0_ n1_ n2_ n3_ n4_; (try clear hb); (try clear hb2); (try clear hk); (try clear hi)))
              go_ret
              exact ⟨by first | rfl | (simp [errW_none, errW_some] <;> rfl) | (simp [*, errW_none, errW_some] <;> rfl), by repeat (first | (with_reducible first | exact HB.out | apply below_alloc | apply pw_below_drewN | apply below_drew1 | refine below_set ?_ GE284.out | refine below_set ?_ GE292.out) | exact HB.out)⟩
            · rw [if_neg c17] at H
              have c17b0 : (t283 == t291) = false := beq_eq_false_iff_ne.mpr c17
              have c17b1 : (t283 != t291) = true := bne_iff_ne.mpr c17
              obtain rfl := Option.some.inj H
              go_wp2_with (first | ((with_reducible refine gate_callee (f := 15) rfl ?_); refine goesL_ (some 27) rfl rfl Try.func15 (by kernel_rfl) rfl #[.slice A0 l0.length c0] rfl (by (try simp only [List.map_toArray, List.map_cons, List.map_nil]); first | done | rfl | (simp only [List.length_drop, List.length_take]; rfl)) ?_; (with_reducible refine (chain_Fold.calls k1 _ _ l0 t277 t278 t279 t280 t283 _ ?side1 ?side2 A13.out).mono ?_); (case side1 => repeat (first | exact (Kd.C_below HR0.out HB.out) | (with_reducible refine Kd.C_alloc ?_ _) | (with_reducible refine Kd.C_drewN ?_ _) | (with_reducible refine Kd.C_drew ?_))); (case side2 => exact HC0.out); rintro e w31 ⟨v281, rfl, ho0, hb⟩; refine ⟨_, rfl, ?_⟩; have n0_ := Aside0.mk (Kd.R_lower ho0 (below_size (by repeat (first | (with_reducible first | exact HB.out | apply below_alloc | apply pw_below_drewN | apply below_drew1) | exact HB.out)))); have n1_ := Aside0.mk (below_step (by repeat (first | (with_reducible first | exact HB.out | apply below_alloc | apply pw_below_drewN | apply below_drew1) | exact HB.out)) hb); clear HB; have HO282 := n0_; have HB := n1_; clear n0_ n1_; (try clear hb); (try clear hb2); (try clear hk); (try clear hi); (try clear ho0)) | ((with_reducible refine gate_dst (N := 4) rfl ?_); refine box_event ?hg (N := 4) ?hd (cs := #[.string (⟨#[]⟩ : ByteArray), .string (⟨#[]⟩ : ByteArray), .int .i64 0, .slice none 0 0]) (t := 24) ?hr ?_; (case hd => rfl); (case hg => rfl); (case hr => first | (go_simp; done) | (go_simp; rfl)); intro gb284 hg w32 hbox hb; have n0_ := Aside0.mk (Kd.R_below (by (with_reducible repeat (first | apply Kd.R_alloc | apply Kd.R_drewN | apply Kd.R_drew)); exact HO282.out) hb); have n1_ := Aside0.mk (below_step (by repeat (first | (with_reducible first | exact HB.out | apply below_alloc | apply pw_below_drewN | apply below_drew1) | exact HB.out)) hb); have n2_ := Aside0.mk (hbox); have n3_ := Aside0.mk ((by rw [hg]; exact (below_size (by repeat (first | (with_reducible first | exact HB.out | apply below_alloc | apply pw_below_drewN | apply below_drew1) | exact HB.out))) : w.heap.size ≤ gb284)); have n4_ := Aside0.mk ((by rw [hg]; exact (below_size (by repeat (first | (with_reducible first | exact HB.out | apply below_alloc | apply pw_below_drewN | apply below_drew1) | exact HB.out))) : w.heap.size ≤ gb284)); clear HO282; clear HB; have HO282 := n0_; have HB := n1_; have BK284 := n2_; have GW284 := n3_; have GE284 := n4_; clear n0_ n1_ n2_ n3_ n4_; clear hb hbox hg; have hcz33_0 : w32.cell? ⟨gb284, 0, none⟩ = some (.string (⟨#[]⟩ : ByteArray)) := (blk_cell BK284.out 0).trans rfl; have hcz33_1 : w32.cell? ⟨gb284, 1, none⟩ = some (.string (⟨#[]⟩ : ByteArray)) := (blk_cell BK284.out 1).trans rfl; have hcz33_2 : w32.cell? ⟨gb284, 2, none⟩ = some (.int .i64 0) := (blk_cell BK284.out 2).trans rfl; have hcz33_3 : w32.cell? ⟨gb284, 3, none⟩ = some (.slice none 0 0) := (blk_cell BK284.out 3).trans rfl; have hfz33_0 := blk_frozen BK284.out 0; have hfz33_1 := blk_frozen BK284.out 1; have hfz33_2 := blk_frozen BK284.out 2; have hfz33_3 := blk_frozen BK284.out 3; obtain ⟨Ao34, co34, eo34⟩ := Kd.R_slice HO282.out; subst eo34) | ((with_reducible refine gate_callee (f := 16) rfl ?_); refine goesL_ (some 32) rfl rfl Try.func16 (by kernel_rfl) rfl #[.slice A0 l0.length c0] rfl (by (try simp only [List.map_toArray, List.map_cons, List.map_nil]); first | done | rfl | (simp only [List.length_drop, List.length_take]; rfl)) ?_; (with_reducible refine (barqueref07_Fold.calls k1 _ _ l0 t285 t286 t287 t288 t291 _ ?side1 ?side2 A14.out).mono ?_); (case side1 => exact Kd.C_below HR0.out (by repeat (first | (with_reducible first | exact HB.out | apply below_alloc | apply pw_below_drewN | apply below_drew1 | refine below_set ?_ GE284.out) | exact HB.out))); (case side2 => exact HC0.out); rintro e w35 ⟨v289, rfl, ho0, hb⟩; refine ⟨_, rfl, ?_⟩; have n0_ := Aside0.mk (Kd.R_elder' (by (with_reducible repeat (first | apply Kd.R_alloc | apply Kd.R_drewN | apply Kd.R_drew)); exact (Kd.R_mono (Kd.R_far (p := ⟨gb284, 3, none⟩) (Kd.R_far (p := ⟨gb284, 2, none⟩) (Kd.R_far (p := ⟨gb284, 1, none⟩) (Kd.R_far (p := ⟨gb284, 0, none⟩) (Kd.R_types HO282.out BK284.out (by decide)) (fun _ hk => hk.2) (.string t277)) (fun _ hk => hk.2) (.string t278)) (fun _ hk => hk.2) (.int .i64 t279)) (fun _ hk => hk.2) (.slice Ao34 t280.length co34)) (fun _ h_ => h_.1))) (Kd.R_base ho0) hb); have n1_ := Aside0.mk (Kd.R_lower (Kd.R_new' ho0 (Kd.R_lt (by (with_reducible repeat (first | apply Kd.R_alloc | apply Kd.R_drewN | apply Kd.R_drew)); exact (Kd.R_mono (Kd.R_far (p := ⟨gb284, 3, none⟩) (Kd.R_far (p := ⟨gb284, 2, none⟩) (Kd.R_far (p := ⟨gb284, 1, none⟩) (Kd.R_far (p := ⟨gb284, 0, none⟩) (Kd.R_types HO282.out BK284.out (by decide)) (fun _ hk => hk.2) (.string t277)) (fun _ hk => hk.2) (.string t278)) (fun _ hk => hk.2) (.int .i64 t279)) (fun _ hk => hk.2) (.slice Ao34 t280.length co34)) (fun _ h_ => h_.1))))) (below_size (by repeat (first | (with_reducible first | exact HB.out | apply below_alloc | apply pw_below_drewN | apply below_drew1 | refine below_set ?_ GE284.out) | exact HB.out)))); have n2_ := Aside0.mk (blk_below (g := gb284) (o := .cells #[.string t277, .string t278, .int .i64 t279, .slice Ao34 t280.length co34] 24 (0, 0)) (by (with_reducible repeat (first | refine blk_drewN ?_ _ | refine blk_drew ?_ | refine blk_alloc ?_ _)); refine blk_put (cs := #[.string t277, .string t278, .int .i64 t279, .slice none 0 0]) ?_ 3 _ rfl; (with_reducible repeat (first | refine blk_drewN ?_ _ | refine blk_drew ?_ | refine blk_alloc ?_ _)); refine blk_put (cs := #[.string t277, .string t278, .int .i64 0, .slice none 0 0]) ?_ 2 _ rfl; (with_reducible repeat (first | refine blk_drewN ?_ _ | refine blk_drew ?_ | refine blk_alloc ?_ _)); refine blk_put (cs := #[.string t277, .string (⟨#[]⟩ : ByteArray), .int .i64 0, .slice none 0 0]) ?_ 1 _ rfl; (with_reducible repeat (first | refine blk_drewN ?_ _ | refine blk_drew ?_ | refine blk_alloc ?_ _)); refine blk_put (cs := #[.string (⟨#[]⟩ : ByteArray), .string (⟨#[]⟩ : ByteArray), .int .i64 0, .slice none 0 0]) ?_ 0 _ rfl; (with_reducible repeat (first | refine blk_drewN ?_ _ | refine blk_drew ?_ | refine blk_alloc ?_ _)); exact BK284.out) hb); have n3_ := Aside0.mk (below_step (by repeat (first | (with_reducible first | exact HB.out | apply below_alloc | apply pw_below_drewN | apply below_drew1 | refine below_set ?_ GE284.out) | exact HB.out)) hb); clear HO282; clear BK284; clear HB; have HO282 := n0_; have HO290 := n1_; have BK284 := n2_; have HB := n3_; clear n0_ n1_ n2_ n3_; (try clear hb); (try clear hb2); (try clear hk); (try clear hi); (try clear ho0)) | ((with_reducible refine gate_dst (N := 6) rfl ?_); refine box_event ?hg (N := 6) ?hd (cs := #[.string (⟨#[]⟩ : ByteArray), .string (⟨#[]⟩ : ByteArray), .int .i64 0, .slice none 0 0]) (t := 24) ?hr ?_; (case hd => rfl); (case hg => rfl); (case hr => first | (go_simp; done) | (go_simp; rfl)); intro gb292 hg w36 hbox hb; have n0_ := Aside0.mk (Kd.R_below (by (with_reducible repeat (first | apply Kd.R_alloc | apply Kd.R_drewN | apply Kd.R_drew)); exact HO282.out) hb); have n1_ := Aside0.mk (Kd.R_below (by (with_reducible repeat (first | apply Kd.R_alloc | apply Kd.R_drewN | apply Kd.R_drew)); exact HO290.out) hb); have n2_ := Aside0.mk (blk_below (g := gb284) (o := .cells #[.string t277, .string t278, .int .i64 t279, .slice Ao34 t280.length co34] 24 (0, 0)) (by (with_reducible repeat (first | refine blk_drewN ?_ _ | refine blk_drew ?_ | refine blk_alloc ?_ _)); exact BK284.out) hb); have n3_ := Aside0.mk (below_step (by repeat (first | (with_reducible first | exact HB.out | apply below_alloc | apply pw_below_drewN | apply below_drew1 | refine below_set ?_ GE284.out) | exact HB.out)) hb); have n4_ := Aside0.mk (hbox); have n5_ := Aside0.mk ((by rw [hg]; exact (below_size (by repeat (first | (with_reducible first | exact HB.out | apply below_alloc | apply pw_below_drewN | apply below_drew1 | refine below_set ?_ GE284.out) | exact HB.out))) : w.heap.size ≤ gb292)); have n6_ := Aside0.mk ((by rw [hg]; exact (below_size (by repeat (first | (with_reducible first | exact HB.out | apply below_alloc | apply pw_below_drewN | apply below_drew1 | refine below_set ?_ GE284.out) | exact HB.out))) : w.heap.size ≤ gb292)); have n7_ := Aside0.mk ((by rw [hg]; exact Nat.ne_of_lt (blk_lt (g := gb284) (o := .cells #[.string t277, .string t278, .int .i64 t279, .slice Ao34 t280.length co34] 24 (0, 0)) (by (with_reducible repeat (first | refine blk_drewN ?_ _ | refine blk_drew ?_ | refine blk_alloc ?_ _)); exact BK284.out)) : gb284 ≠ gb292)); have n8_ := Aside0.mk ((by rw [hg]; exact Nat.ne_of_gt (blk_lt (g := gb284) (o := .cells #[.string t277, .string t278, .int .i64 t279, .slice Ao34 t280.length co34] 24 (0, 0)) (by (with_reducible repeat (first | refine blk_drewN ?_ _ | refine blk_drew ?_ | refine blk_alloc ?_ _)); exact BK284.out)) : gb292 ≠ gb284)); clear HO282; clear HO290; clear BK284; clear HB; have HO282 := n0_; have HO290 := n1_; have BK284 := n2_; have HB := n3_; have BK292 := n4_; have GW292 := n5_; have GE292 := n6_; have NB284_292 := n7_; have NB292_284 := n8_; clear n0_ n1_ n2_ n3_ n4_ n5_ n6_ n7_ n8_; clear hb hbox hg; have hnb37 := NB292_284.out; have hnc37 := NB284_292.out; have hcz38_0 : w36.cell? ⟨gb292, 0, none⟩ = some (.string (⟨#[]⟩ : ByteArray)) := (blk_cell BK292.out 0).trans rfl; have hcz38_1 : w36.cell? ⟨gb292, 1, none⟩ = some (.string (⟨#[]⟩ : ByteArray)) := (blk_cell BK292.out 1).trans rfl; have hcz38_2 : w36.cell? ⟨gb292, 2, none⟩ = some (.int .i64 0) := (blk_cell BK292.out 2).trans rfl; have hcz38_3 : w36.cell? ⟨gb292, 3, none⟩ = some (.slice none 0 0) := (blk_cell BK292.out 3).trans rfl; have hfz38_0 := blk_frozen BK292.out 0; have hfz38_1 := blk_frozen BK292.out 1; have hfz38_2 := blk_frozen BK292.out 2; have hfz38_3 := blk_frozen BK292.out 3; obtain ⟨Ao39, co39, eo39⟩ := Kd.R_slice HO290.out; subst eo39; have hcz40_0 : w36.cell? ⟨gb284, 0, none⟩ = some (.string t277) := (blk_cell BK284.out 0).trans rfl; have hcz40_1 : w36.cell? ⟨gb284, 1, none⟩ = some (.string t278) := (blk_cell BK284.out 1).trans rfl; have hcz40_2 : w36.cell? ⟨gb284, 2, none⟩ = some (.int .i64 t279) := (blk_cell BK284.out 2).trans rfl; have hcz40_3 : w36.cell? ⟨gb284, 3, none⟩ = some (.slice Ao34 t280.length co34) := (blk_cell BK284.out 3).trans rfl; have hfz40_0 := blk_frozen BK284.out 0; have hfz40_1 := blk_frozen BK284.out 1; have hfz40_2 := blk_frozen BK284.out 2; have hfz40_3 := blk_frozen BK284.out 3) | ((with_reducible refine gate_callee (f := 14) rfl ?_); refine goesL_ (some 37) rfl rfl Try.func14 (by kernel_rfl) rfl #[.agg #[.string t277, .string t278, .int .i64 t279, .slice Ao34 t280.length co34], .agg #[.string t285, .string t286, .int .i64 t287, .slice Ao39 t288.length co39]] rfl (by (try simp only [List.map_toArray, List.map_cons, List.map_nil]); first | done | rfl | (simp only [List.length_drop, List.length_take]; rfl)) ?_; (with_reducible refine (barqueref06_Same.calls k1 t277 t278 t279 _ _ t280 t285 t286 t287 _ _ t288 true _ ?side1 ?side2 ?side3 ?side4 A15.out).mono ?_); (case side1 => refine (Kd.R_reads' (e := 54) (base := w.heap.size) (ok := fun k_ => (True ∧ some k_ ≠ (.slice Ao39 t288.length co39 : Value).ownBlock)) (n := t280.length) (c := co34) ?_).2.2; exact (by (with_reducible repeat (first | apply Kd.R_alloc | apply Kd.R_drewN | apply Kd.R_drew)); exact (Kd.R_mono (Kd.R_far (p := ⟨gb292, 3, none⟩) (Kd.R_far (p := ⟨gb292, 2, none⟩) (Kd.R_far (p := ⟨gb292, 1, none⟩) (Kd.R_far (p := ⟨gb292, 0, none⟩) (Kd.R_types HO282.out BK292.out (by decide)) (fun _ hk => hk.2) (.string t285)) (fun _ hk => hk.2) (.string t286)) (fun _ hk => hk.2) (.int .i64 t287)) (fun _ hk => hk.2) (.slice Ao39 t288.length co39)) (fun _ h_ => h_.1)))); (case side2 => exact (Kd.R_reads' HO282.out).2.1); (case side3 => refine (Kd.R_reads' (e := 54) (base := w.heap.size) (ok := fun k_ => (True ∧ some k_ ≠ (.slice Ao34 t280.length co34 : Value).ownBlock)) (n := t288.length) (c := co39) ?_).2.2; exact (by (with_reducible repeat (first | apply Kd.R_alloc | apply Kd.R_drewN | apply Kd.R_drew)); exact (Kd.R_mono (Kd.R_far (p := ⟨gb292, 3, none⟩) (Kd.R_far (p := ⟨gb292, 2, none⟩) (Kd.R_far (p := ⟨gb292, 1, none⟩) (Kd.R_far (p := ⟨gb292, 0, none⟩) (Kd.R_types HO290.out BK292.out (by decide)) (fun _ hk => hk.2) (.string t285)) (fun _ hk => hk.2) (.string t286)) (fun _ hk => hk.2) (.int .i64 t287)) (fun _ hk => hk.2) (.slice Ao39 t288.length co39)) (fun _ h_ => h_.1)))); (case side4 => exact (Kd.R_reads' HO290.out).2.1); rintro e w41 ⟨rfl, hb⟩; refine ⟨_, rfl, ?_⟩; have n0_ := Aside0.mk (Kd.R_below (by (with_reducible repeat (first | apply Kd.R_alloc | apply Kd.R_drewN | apply Kd.R_drew)); exact (Kd.R_mono (Kd.R_far (p := ⟨gb292, 3, none⟩) (Kd.R_far (p := ⟨gb292, 2, none⟩) (Kd.R_far (p := ⟨gb292, 1, none⟩) (Kd.R_far (p := ⟨gb292, 0, none⟩) (Kd.R_types HO282.out BK292.out (by decide)) (fun _ hk => hk.2) (.string t285)) (fun _ hk => hk.2) (.string t286)) (fun _ hk => hk.2) (.int .i64 t287)) (fun _ hk => hk.2) (.slice Ao39 t288.length co39)) (fun _ h_ => h_.1))) hb); have n1_ := Aside0.mk (Kd.R_below (by (with_reducible repeat (first | apply Kd.R_alloc | apply Kd.R_drewN | apply Kd.R_drew)); exact (Kd.R_mono (Kd.R_far (p := ⟨gb292, 3, none⟩) (Kd.R_far (p := ⟨gb292, 2, none⟩) (Kd.R_far (p := ⟨gb292, 1, none⟩) (Kd.R_far (p := ⟨gb292, 0, none⟩) (Kd.R_types HO290.out BK292.out (by decide)) (fun _ hk => hk.2) (.string t285)) (fun _ hk => hk.2) (.string t286)) (fun _ hk => hk.2) (.int .i64 t287)) (fun _ hk => hk.2) (.slice Ao39 t288.length co39)) (fun _ h_ => h_.1))) hb); have n2_ := Aside0.mk (blk_below (g := gb284) (o := .cells #[.string t277, .string t278, .int .i64 t279, .slice Ao34 t280.length co34] 24 (0, 0)) (by (with_reducible repeat (first | refine blk_drewN ?_ _ | refine blk_drew ?_ | refine blk_alloc ?_ _)); refine blk_far ?_ NB284_292.out _; (with_reducible repeat (first | refine blk_drewN ?_ _ | refine blk_drew ?_ | refine blk_alloc ?_ _)); refine blk_far ?_ NB284_292.out _; (with_reducible repeat (first | refine blk_drewN ?_ _ | refine blk_drew ?_ | refine blk_alloc ?_ _)); refine blk_far ?_ NB284_292.out _; (with_reducible repeat (first | refine blk_drewN ?_ _ | refine blk_drew ?_ | refine blk_alloc ?_ _)); refine blk_far ?_ NB284_292.out _; (with_reducible repeat (first | refine blk_drewN ?_ _ | refine blk_drew ?_ | refine blk_alloc ?_ _)); exact BK284.out) hb); have n3_ := Aside0.mk (blk_below (g := gb292) (o := .cells #[.string t285, .string t286, .int .i64 t287, .slice Ao39 t288.length co39] 24 (0, 0)) (by (with_reducible repeat (first | refine blk_drewN ?_ _ | refine blk_drew ?_ | refine blk_alloc ?_ _)); refine blk_put (cs := #[.string t285, .string t286, .int .i64 t287, .slice none 0 0]) ?_ 3 _ rfl; (with_reducible repeat (first | refine blk_drewN ?_ _ | refine blk_drew ?_ | refine blk_alloc ?_ _)); refine blk_put (cs := #[.string t285, .string t286, .int .i64 0, .slice none 0 0]) ?_ 2 _ rfl; (with_reducible repeat (first | refine blk_drewN ?_ _ | refine blk_drew ?_ | refine blk_alloc ?_ _)); refine blk_put (cs := #[.string t285, .string (⟨#[]⟩ : ByteArray), .int .i64 0, .slice none 0 0]) ?_ 1 _ rfl; (with_reducible repeat (first | refine blk_drewN ?_ _ | refine blk_drew ?_ | refine blk_alloc ?_ _)); refine blk_put (cs := #[.string (⟨#[]⟩ : ByteArray), .string (⟨#[]⟩ : ByteArray), .int .i64 0, .slice none 0 0]) ?_ 0 _ rfl; (with_reducible repeat (first | refine blk_drewN ?_ _ | refine blk_drew ?_ | refine blk_alloc ?_ _)); exact BK292.out) hb); have n4_ := Aside0.mk (below_step (by repeat (first | (with_reducible first | exact HB.out | apply below_alloc | apply pw_below_drewN | apply below_drew1 | refine below_set ?_ GE284.out | refine below_set ?_ GE292.out) | exact HB.out)) hb); clear HO282; clear HO290; clear BK284; clear BK292; clear HB; have HO282 := n0_; have HO290 := n1_; have BK284 := n2_; have BK292 := n3_; have HB := n4_; clear n0_ n1_ n2_ n3_ n4_; (try clear hb); (try clear hb2); (try clear hk); (try clear hi)))
              go_ret
              exact ⟨by first | rfl | (simp [errW_none, errW_some] <;> rfl) | (simp [*, errW_none, errW_some] <;> rfl), by repeat (first | (with_reducible first | exact HB.out | apply below_alloc | apply pw_below_drewN | apply below_drew1 | refine below_set ?_ GE284.out | refine below_set ?_ GE292.out) | exact HB.out)⟩
          · replace c16 := Bool.eq_false_iff.mpr c16
            subst c16
            have H1 : (some false) = some r := by rw [if_neg (show ¬ (false = true) by decide)] at H; exact H
            clear H
            have H := H1
            clear H1
            obtain rfl := Option.some.inj H
            go_wp2_with (first | ((with_reducible refine gate_callee (f := 15) rfl ?_); refine goesL_ (some 27) rfl rfl Try.func15 (by kernel_rfl) rfl #[.slice A0 l0.length c0] rfl (by (try simp only [List.map_toArray, List.map_cons, List.map_nil]); first | done | rfl | (simp only [List.length_drop, List.length_take]; rfl)) ?_; (with_reducible refine (chain_Fold.calls k1 _ _ l0 t277 t278 t279 t280 t283 _ ?side1 ?side2 A13.out).mono ?_); (case side1 => repeat (first | exact (Kd.C_below HR0.out HB.out) | (with_reducible refine Kd.C_alloc ?_ _) | (with_reducible refine Kd.C_drewN ?_ _) | (with_reducible refine Kd.C_drew ?_))); (case side2 => exact HC0.out); rintro e w42 ⟨v281, rfl, ho0, hb⟩; refine ⟨_, rfl, ?_⟩; have n0_ := Aside0.mk (Kd.R_lower ho0 (below_size (by repeat (first | (with_reducible first | exact HB.out | apply below_alloc | apply pw_below_drewN | apply below_drew1) | exact HB.out)))); have n1_ := Aside0.mk (below_step (by repeat (first | (with_reducible first | exact HB.out | apply below_alloc | apply pw_below_drewN | apply below_drew1) | exact HB.out)) hb); clear HB; have HO282 := n0_; have HB := n1_; clear n0_ n1_; (try clear hb); (try clear hb2); (try clear hk); (try clear hi); (try clear ho0)) | ((with_reducible refine gate_dst (N := 4) rfl ?_); refine box_event ?hg (N := 4) ?hd (cs := #[.string (⟨#[]⟩ : ByteArray), .string (⟨#[]⟩ : ByteArray), .int .i64 0, .slice none 0 0]) (t := 24) ?hr ?_; (case hd => rfl); (case hg => rfl); (case hr => first | (go_simp; done) | (go_simp; rfl)); intro gb284 hg w43 hbox hb; have n0_ := Aside0.mk (Kd.R_below (by (with_reducible repeat (first | apply Kd.R_alloc | apply Kd.R_drewN | apply Kd.R_drew)); exact HO282.out) hb); have n1_ := Aside0.mk (below_step (by repeat (first | (with_reducible first | exact HB.out | apply below_alloc | apply pw_below_drewN | apply below_drew1) | exact HB.out)) hb); have n2_ := Aside0.mk (hbox); have n3_ := Aside0.mk ((by rw [hg]; exact (below_size (by repeat (first | (with_reducible first | exact HB.out | apply below_alloc | apply pw_below_drewN | apply below_drew1) | exact HB.out))) : w.heap.size ≤ gb284)); have n4_ := Aside0.mk ((by rw [hg]; exact (below_size (by repeat (first | (with_reducible first | exact HB.out | apply below_alloc | apply pw_below_drewN | apply below_drew1) | exact HB.out))) : w.heap.size ≤ gb284)); clear HO282; clear HB; have HO282 := n0_; have HB := n1_; have BK284 := n2_; have GW284 := n3_; have GE284 := n4_; clear n0_ n1_ n2_ n3_ n4_; clear hb hbox hg; have hcz44_0 : w43.cell? ⟨gb284, 0, none⟩ = some (.string (⟨#[]⟩ : ByteArray)) := (blk_cell BK284.out 0).trans rfl; have hcz44_1 : w43.cell? ⟨gb284, 1, none⟩ = some (.string (⟨#[]⟩ : ByteArray)) := (blk_cell BK284.out 1).trans rfl; have hcz44_2 : w43.cell? ⟨gb284, 2, none⟩ = some (.int .i64 0) := (blk_cell BK284.out 2).trans rfl; have hcz44_3 : w43.cell? ⟨gb284, 3, none⟩ = some (.slice none 0 0) := (blk_cell BK284.out 3).trans rfl; have hfz44_0 := blk_frozen BK284.out 0; have hfz44_1 := blk_frozen BK284.out 1; have hfz44_2 := blk_frozen BK284.out 2; have hfz44_3 := blk_frozen BK284.out 3; obtain ⟨Ao45, co45, eo45⟩ := Kd.R_slice HO282.out; subst eo45) | ((with_reducible refine gate_callee (f := 16) rfl ?_); refine goesL_ (some 32) rfl rfl Try.func16 (by kernel_rfl) rfl #[.slice A0 l0.length c0] rfl (by (try simp only [List.map_toArray, List.map_cons, List.map_nil]); first | done | rfl | (simp only [List.length_drop, List.length_take]; rfl)) ?_; (with_reducible refine (barqueref07_Fold.calls k1 _ _ l0 t285 t286 t287 t288 t291 _ ?side1 ?side2 A14.out).mono ?_); (case side1 => exact Kd.C_below HR0.out (by repeat (first | (with_reducible first | exact HB.out | apply below_alloc | apply pw_below_drewN | apply below_drew1 | refine below_set ?_ GE284.out) | exact HB.out))); (case side2 => exact HC0.out); rintro e w46 ⟨v289, rfl, ho0, hb⟩; refine ⟨_, rfl, ?_⟩; have n0_ := Aside0.mk (Kd.R_elder' (by (with_reducible repeat (first | apply Kd.R_alloc | apply Kd.R_drewN | apply Kd.R_drew)); exact (Kd.R_mono (Kd.R_far (p := ⟨gb284, 3, none⟩) (Kd.R_far (p := ⟨gb284, 2, none⟩) (Kd.R_far (p := ⟨gb284, 1, none⟩) (Kd.R_far (p := ⟨gb284, 0, none⟩) (Kd.R_types HO282.out BK284.out (by decide)) (fun _ hk => hk.2) (.string t277)) (fun _ hk => hk.2) (.string t278)) (fun _ hk => hk.2) (.int .i64 t279)) (fun _ hk => hk.2) (.slice Ao45 t280.length co45)) (fun _ h_ => h_.1))) (Kd.R_base ho0) hb); have n1_ := Aside0.mk (Kd.R_lower (Kd.R_new' ho0 (Kd.R_lt (by (with_reducible repeat (first | apply Kd.R_alloc | apply Kd.R_drewN | apply Kd.R_drew)); exact (Kd.R_mono (Kd.R_far (p := ⟨gb284, 3, none⟩) (Kd.R_far (p := ⟨gb284, 2, none⟩) (Kd.R_far (p := ⟨gb284, 1, none⟩) (Kd.R_far (p := ⟨gb284, 0, none⟩) (Kd.R_types HO282.out BK284.out (by decide)) (fun _ hk => hk.2) (.string t277)) (fun _ hk => hk.2) (.string t278)) (fun _ hk => hk.2) (.int .i64 t279)) (fun _ hk => hk.2) (.slice Ao45 t280.length co45)) (fun _ h_ => h_.1))))) (below_size (by repeat (first | (with_reducible first | exact HB.out | apply below_alloc | apply pw_below_drewN | apply below_drew1 | refine below_set ?_ GE284.out) | exact HB.out)))); have n2_ := Aside0.mk (blk_below (g := gb284) (o := .cells #[.string t277, .string t278, .int .i64 t279, .slice Ao45 t280.length co45] 24 (0, 0)) (by (with_reducible repeat (first | refine blk_drewN ?_ _ | refine blk_drew ?_ | refine blk_alloc ?_ _)); refine blk_put (cs := #[.string t277, .string t278, .int .i64 t279, .slice none 0 0]) ?_ 3 _ rfl; (with_reducible repeat (first | refine blk_drewN ?_ _ | refine blk_drew ?_ | refine blk_alloc ?_ _)); refine blk_put (cs := #[.string t277, .string t278, .int .i64 0, .slice none 0 0]) ?_ 2 _ rfl; (with_reducible repeat (first | refine blk_drewN ?_ _ | refine blk_drew ?_ | refine blk_alloc ?_ _)); refine blk_put (cs := #[.string t277, .string (⟨#[]⟩ : ByteArray), .int .i64 0, .slice none 0 0]) ?_ 1 _ rfl; (with_reducible repeat (first | refine blk_drewN ?_ _ | refine blk_drew ?_ | refine blk_alloc ?_ _)); refine blk_put (cs := #[.string (⟨#[]⟩ : ByteArray), .string (⟨#[]⟩ : ByteArray), .int .i64 0, .slice none 0 0]) ?_ 0 _ rfl; (with_reducible repeat (first | refine blk_drewN ?_ _ | refine blk_drew ?_ | refine blk_alloc ?_ _)); exact BK284.out) hb); have n3_ := Aside0.mk (below_step (by repeat (first | (with_reducible first | exact HB.out | apply below_alloc | apply pw_below_drewN | apply below_drew1 | refine below_set ?_ GE284.out) | exact HB.out)) hb); clear HO282; clear BK284; clear HB; have HO282 := n0_; have HO290 := n1_; have BK284 := n2_; have HB := n3_; clear n0_ n1_ n2_ n3_; (try clear hb); (try clear hb2); (try clear hk); (try clear hi); (try clear ho0)) | ((with_reducible refine gate_dst (N := 6) rfl ?_); refine box_event ?hg (N := 6) ?hd (cs := #[.string (⟨#[]⟩ : ByteArray), .string (⟨#[]⟩ : ByteArray), .int .i64 0, .slice none 0 0]) (t := 24) ?hr ?_; (case hd => rfl); (case hg => rfl); (case hr => first | (go_simp; done) | (go_simp; rfl)); intro gb292 hg w47 hbox hb; have n0_ := Aside0.mk (Kd.R_below (by (with_reducible repeat (first | apply Kd.R_alloc | apply Kd.R_drewN | apply Kd.R_drew)); exact HO282.out) hb); have n1_ := Aside0.mk (Kd.R_below (by (with_reducible repeat (first | apply Kd.R_alloc | apply Kd.R_drewN | apply Kd.R_drew)); exact HO290.out) hb); have n2_ := Aside0.mk (blk_below (g := gb284) (o := .cells #[.string t277, .string t278, .int .i64 t279, .slice Ao45 t280.length co45] 24 (0, 0)) (by (with_reducible repeat (first | refine blk_drewN ?_ _ | refine blk_drew ?_ | refine blk_alloc ?_ _)); exact BK284.out) hb); have n3_ := Aside0.mk (below_step (by repeat (first | (with_reducible first | exact HB.out | apply below_alloc | apply pw_below_drewN | apply below_drew1 | refine below_set ?_ GE284.out) | exact HB.out)) hb); have n4_ := Aside0.mk (hbox); have n5_ := Aside0.mk ((by rw [hg]; exact (below_size (by repeat (first | (with_reducible first | exact HB.out | apply below_alloc | apply pw_below_drewN | apply below_drew1 | refine below_set ?_ GE284.out) | exact HB.out))) : w.heap.size ≤ gb292)); have n6_ := Aside0.mk ((by rw [hg]; exact (below_size (by repeat (first | (with_reducible first | exact HB.out | apply below_alloc | apply pw_below_drewN | apply below_drew1 | refine below_set ?_ GE284.out) | exact HB.out))) : w.heap.size ≤ gb292)); have n7_ := Aside0.mk ((by rw [hg]; exact Nat.ne_of_lt (blk_lt (g := gb284) (o := .cells #[.string t277, .string t278, .int .i64 t279, .slice Ao45 t280.length co45] 24 (0, 0)) (by (with_reducible repeat (first | refine blk_drewN ?_ _ | refine blk_drew ?_ | refine blk_alloc ?_ _)); exact BK284.out)) : gb284 ≠ gb292)); have n8_ := Aside0.mk ((by rw [hg]; exact Nat.ne_of_gt (blk_lt (g := gb284) (o := .cells #[.string t277, .string t278, .int .i64 t279, .slice Ao45 t280.length co45] 24 (0, 0)) (by (with_reducible repeat (first | refine blk_drewN ?_ _ | refine blk_drew ?_ | refine blk_alloc ?_ _)); exact BK284.out)) : gb292 ≠ gb284)); clear HO282; clear HO290; clear BK284; clear HB; have HO282 := n0_; have HO290 := n1_; have BK284 := n2_; have HB := n3_; have BK292 := n4_; have GW292 := n5_; have GE292 := n6_; have NB284_292 := n7_; have NB292_284 := n8_; clear n0_ n1_ n2_ n3_ n4_ n5_ n6_ n7_ n8_; clear hb hbox hg; have hnb48 := NB292_284.out; have hnc48 := NB284_292.out; have hcz49_0 : w47.cell? ⟨gb292, 0, none⟩ = some (.string (⟨#[]⟩ : ByteArray)) := (blk_cell BK292.out 0).trans rfl; have hcz49_1 : w47.cell? ⟨gb292, 1, none⟩ = some (.string (⟨#[]⟩ : ByteArray)) := (blk_cell BK292.out 1).trans rfl; have hcz49_2 : w47.cell? ⟨gb292, 2, none⟩ = some (.int .i64 0) := (blk_cell BK292.out 2).trans rfl; have hcz49_3 : w47.cell? ⟨gb292, 3, none⟩ = some (.slice none 0 0) := (blk_cell BK292.out 3).trans rfl; have hfz49_0 := blk_frozen BK292.out 0; have hfz49_1 := blk_frozen BK292.out 1; have hfz49_2 := blk_frozen BK292.out 2; have hfz49_3 := blk_frozen BK292.out 3; obtain ⟨Ao50, co50, eo50⟩ := Kd.R_slice HO290.out; subst eo50; have hcz51_0 : w47.cell? ⟨gb284, 0, none⟩ = some (.string t277) := (blk_cell BK284.out 0).trans rfl; have hcz51_1 : w47.cell? ⟨gb284, 1, none⟩ = some (.string t278) := (blk_cell BK284.out 1).trans rfl; have hcz51_2 : w47.cell? ⟨gb284, 2, none⟩ = some (.int .i64 t279) := (blk_cell BK284.out 2).trans rfl; have hcz51_3 : w47.cell? ⟨gb284, 3, none⟩ = some (.slice Ao45 t280.length co45) := (blk_cell BK284.out 3).trans rfl; have hfz51_0 := blk_frozen BK284.out 0; have hfz51_1 := blk_frozen BK284.out 1; have hfz51_2 := blk_frozen BK284.out 2; have hfz51_3 := blk_frozen BK284.out 3) | ((with_reducible refine gate_callee (f := 14) rfl ?_); refine goesL_ (some 37) rfl rfl Try.func14 (by kernel_rfl) rfl #[.agg #[.string t277, .string t278, .int .i64 t279, .slice Ao45 t280.length co45], .agg #[.string t285, .string t286, .int .i64 t287, .slice Ao50 t288.length co50]] rfl (by (try simp only [List.map_toArray, List.map_cons, List.map_nil]); first | done | rfl | (simp only [List.length_drop, List.length_take]; rfl)) ?_; (with_reducible refine (barqueref06_Same.calls k1 t277 t278 t279 _ _ t280 t285 t286 t287 _ _ t288 false _ ?side1 ?side2 ?side3 ?side4 A15.out).mono ?_); (case side1 => refine (Kd.R_reads' (e := 54) (base := w.heap.size) (ok := fun k_ => (True ∧ some k_ ≠ (.slice Ao50 t288.length co50 : Value).ownBlock)) (n := t280.length) (c := co45) ?_).2.2; exact (by (with_reducible repeat (first | apply Kd.R_alloc | apply Kd.R_drewN | apply Kd.R_drew)); exact (Kd.R_mono (Kd.R_far (p := ⟨gb292, 3, none⟩) (Kd.R_far (p := ⟨gb292, 2, none⟩) (Kd.R_far (p := ⟨gb292, 1, none⟩) (Kd.R_far (p := ⟨gb292, 0, none⟩) (Kd.R_types HO282.out BK292.out (by decide)) (fun _ hk => hk.2) (.string t285)) (fun _ hk => hk.2) (.string t286)) (fun _ hk => hk.2) (.int .i64 t287)) (fun _ hk => hk.2) (.slice Ao50 t288.length co50)) (fun _ h_ => h_.1)))); (case side2 => exact (Kd.R_reads' HO282.out).2.1); (case side3 => refine (Kd.R_reads' (e := 54) (base := w.heap.size) (ok := fun k_ => (True ∧ some k_ ≠ (.slice Ao45 t280.length co45 : Value).ownBlock)) (n := t288.length) (c := co50) ?_).2.2; exact (by (with_reducible repeat (first | apply Kd.R_alloc | apply Kd.R_drewN | apply Kd.R_drew)); exact (Kd.R_mono (Kd.R_far (p := ⟨gb292, 3, none⟩) (Kd.R_far (p := ⟨gb292, 2, none⟩) (Kd.R_far (p := ⟨gb292, 1, none⟩) (Kd.R_far (p := ⟨gb292, 0, none⟩) (Kd.R_types HO290.out BK292.out (by decide)) (fun _ hk => hk.2) (.string t285)) (fun _ hk => hk.2) (.string t286)) (fun _ hk => hk.2) (.int .i64 t287)) (fun _ hk => hk.2) (.slice Ao50 t288.length co50)) (fun _ h_ => h_.1)))); (case side4 => exact (Kd.R_reads' HO290.out).2.1); rintro e w52 ⟨rfl, hb⟩; refine ⟨_, rfl, ?_⟩; have n0_ := Aside0.mk (Kd.R_below (by (with_reducible repeat (first | apply Kd.R_alloc | apply Kd.R_drewN | apply Kd.R_drew)); exact (Kd.R_mono (Kd.R_far (p := ⟨gb292, 3, none⟩) (Kd.R_far (p := ⟨gb292, 2, none⟩) (Kd.R_far (p := ⟨gb292, 1, none⟩) (Kd.R_far (p := ⟨gb292, 0, none⟩) (Kd.R_types HO282.out BK292.out (by decide)) (fun _ hk => hk.2) (.string t285)) (fun _ hk => hk.2) (.string t286)) (fun _ hk => hk.2) (.int .i64 t287)) (fun _ hk => hk.2) (.slice Ao50 t288.length co50)) (fun _ h_ => h_.1))) hb); have n1_ := Aside0.mk (Kd.R_below (by (with_reducible repeat (first | apply Kd.R_alloc | apply Kd.R_drewN | apply Kd.R_drew)); exact (Kd.R_mono (Kd.R_far (p := ⟨gb292, 3, none⟩) (Kd.R_far (p := ⟨gb292, 2, none⟩) (Kd.R_far (p := ⟨gb292, 1, none⟩) (Kd.R_far (p := ⟨gb292, 0, none⟩) (Kd.R_types HO290.out BK292.out (by decide)) (fun _ hk => hk.2) (.string t285)) (fun _ hk => hk.2) (.string t286)) (fun _ hk => hk.2) (.int .i64 t287)) (fun _ hk => hk.2) (.slice Ao50 t288.length co50)) (fun _ h_ => h_.1))) hb); have n2_ := Aside0.mk (blk_below (g := gb284) (o := .cells #[.string t277, .string t278, .int .i64 t279, .slice Ao45 t280.length co45] 24 (0, 0)) (by (with_reducible repeat (first | refine blk_drewN ?_ _ | refine blk_drew ?_ | refine blk_alloc ?_ _)); refine blk_far ?_ NB284_292.out _; (with_reducible repeat (first | refine blk_drewN ?_ _ | refine blk_drew ?_ | refine blk_alloc ?_ _)); refine blk_far ?_ NB284_292.out _; (with_reducible repeat (first | refine blk_drewN ?_ _ | refine blk_drew ?_ | refine blk_alloc ?_ _)); refine blk_far ?_ NB284_292.out _; (with_reducible repeat (first | refine blk_drewN ?_ _ | refine blk_drew ?_ | refine blk_alloc ?_ _)); refine blk_far ?_ NB284_292.out _; (with_reducible repeat (first | refine blk_drewN ?_ _ | refine blk_drew ?_ | refine blk_alloc ?_ _)); exact BK284.out) hb); have n3_ := Aside0.mk (blk_below (g := gb292) (o := .cells #[.string t285, .string t286, .int .i64 t287, .slice Ao50 t288.length co50] 24 (0, 0)) (by (with_reducible repeat (first | refine blk_drewN ?_ _ | refine blk_drew ?_ | refine blk_alloc ?_ _)); refine blk_put (cs := #[.string t285, .string t286, .int .i64 t287, .slice none 0 0]) ?_ 3 _ rfl; (with_reducible repeat (first | refine blk_drewN ?_ _ | refine blk_drew ?_ | refine blk_alloc ?_ _)); refine blk_put (cs := #[.string t285, .string t286, .int .i64 0, .slice none 0 0]) ?_ 2 _ rfl; (with_reducible repeat (first | refine blk_drewN ?_ _ | refine blk_drew ?_ | refine blk_alloc ?_ _)); refine blk_put (cs := #[.string t285, .string (⟨#[]⟩ : ByteArray), .int .i64 0, .slice none 0 0]) ?_ 1 _ rfl; (with_reducible repeat (first | refine blk_drewN ?_ _ | refine blk_drew ?_ | refine blk_alloc ?_ _)); refine blk_put (cs := #[.string (⟨#[]⟩ : ByteArray), .string (⟨#[]⟩ : ByteArray), .int .i64 0, .slice none 0 0]) ?_ 0 _ rfl; (with_reducible repeat (first | refine blk_drewN ?_ _ | refine blk_drew ?_ | refine blk_alloc ?_ _)); exact BK292.out) hb); have n4_ := Aside0.mk (below_step (by repeat (first | (with_reducible first | exact HB.out | apply below_alloc | apply pw_below_drewN | apply below_drew1 | refine below_set ?_ GE284.out | refine below_set ?_ GE292.out) | exact HB.out)) hb); clear HO282; clear HO290; clear BK284; clear BK292; clear HB; have HO282 := n0_; have HO290 := n1_; have BK284 := n2_; have BK292 := n3_; have HB := n4_; clear n0_ n1_ n2_ n3_ n4_; (try clear hb); (try clear hb2); (try clear hk); (try clear hi)))
            go_ret
            exact ⟨by first | rfl | (simp [errW_none, errW_some] <;> rfl) | (simp [*, errW_none, errW_some] <;> rfl), by repeat (first | (with_reducible first | exact HB.out | apply below_alloc | apply pw_below_drewN | apply below_drew1 | refine below_set ?_ GE284.out | refine below_set ?_ GE292.out) | exact HB.out)⟩

end Go.Proofs.Ytjgelmfkoefclaa.PAll

-- from YtjgelmfkoefclaaPureFold
/- Chapter 7: folding (the law, over numbers and lists). -/
namespace Go.Proofs.Ytjgelmfkoefclaa.Pure
open Go.RowKit Go.Proofs.YtjgelmfkoefclaaW.PrintWords Go.Proofs.YtjgelmfkoefclaaW.PrintLast Go.Proofs.YtjgelmfkoefclaaW.PrintMore Go.Proofs.Ytjgelmfkoefclaa.PAll
set_option linter.unusedVariables false
set_option linter.unusedSimpArgs false


/-! ### folding -/
abbrev Res := ByteArray × ByteArray × Int × List S54 × Int
def foldW : List S24 → ByteArray → ByteArray → Int → List S54 → Res
  | [], a0, a1, a2, l0 => (a0, a1, a2, l0, 0)
  | y :: r, a0, a1, a2, l0 =>
    if (compV a0 a1 a2 l0 y.f0 y.f1 y.f2 y.f3).2.2.2.2 = 0 then foldW r (compV a0 a1 a2 l0 y.f0 y.f1 y.f2 y.f3).1 (compV a0 a1 a2 l0 y.f0 y.f1 y.f2 y.f3).2.1 (compV a0 a1 a2 l0 y.f0 y.f1 y.f2 y.f3).2.2.1 (compV a0 a1 a2 l0 y.f0 y.f1 y.f2 y.f3).2.2.2.1
    else (⟨#[]⟩, ⟨#[]⟩, 0, [], (compV a0 a1 a2 l0 y.f0 y.f1 y.f2 y.f3).2.2.2.2)
def SmallD (y : S24) : Prop := y.f3.length ≤ 100 ∧ textSum y.f3 + lenSum y.f3 ≤ 6000 ∧ FitS y.f3
theorem rdD_nat (l : List S24) (i : Nat) (h : i < l.length) : rd_T24 l (i : Int) = l[i] := by
  unfold rd_T24
  rw [Int.toNat_natCast, List.getD_eq_getElem?_getD, List.getElem?_eq_getElem h]; rfl
theorem foldW_len (r : List S24) (hr : ∀ y ∈ r, SmallD y) : ∀ a0 a1 a2 l0, l0.length ≤ 12000 → (foldW r a0 a1 a2 l0).2.2.2.1.length ≤ 12000 := by
  induction r with
  | nil => intro a0 a1 a2 l0 h; exact h
  | cons y r ih =>
    intro a0 a1 a2 l0 h
    have hy := hr y (List.mem_cons_self ..)
    have hc := compV_small a0 a1 a2 l0 y.f0 y.f1 y.f2 y.f3 6000 (by omega) (fun _ => by rw [sum_split]; exact hy.2.1)
    rw [foldW]
    split
    · exact ih (fun z hz => hr z (List.mem_cons_of_mem _ hz)) _ _ _ _ (by omega)
    · show ([] : List S54).length ≤ 12000
      simp
theorem fold_l0 (l : List S24) (hl : l.length ≤ 1000) (hs : ∀ y ∈ l, SmallD y) (d : Nat) : ∀ (k i : Nat) (a0 a1 : ByteArray) (a2 : Int) (l0 : List S54), l.length - i = d → i ≤ l.length → l0.length ≤ 12000 → FitS l0 → 20000 + d < k →
    chain_Fold.l0 k l (l.length : Int) (i : Nat) a0 a1 a2 l0 = some (foldW (l.drop i) a0 a1 a2 l0) := by
  induction d with
  | zero =>
    intro k i a0 a1 a2 l0 hd hi h0 hf hk
    obtain ⟨k, rfl⟩ : ∃ m, k = m + 1 := ⟨k - 1, by omega⟩
    rw [chain_Fold.l0, if_neg (by omega), List.drop_of_length_le (by omega), foldW]
  | succ d ih =>
    intro k i a0 a1 a2 l0 hd hi h0 hf hk
    obtain ⟨k, rfl⟩ : ∃ m, k = m + 1 := ⟨k - 1, by omega⟩
    have hil : i < l.length := by omega
    rw [chain_Fold.l0, if_pos (by omega), if_pos (by omega), if_pos (by omega), rdD_nat l i hil, List.drop_eq_getElem_cons hil, foldW]
    have hy := hs _ (List.getElem_mem hil)
    obtain ⟨y, hye⟩ : ∃ y, l[i] = y := ⟨_, rfl⟩
    rw [hye] at hy ⊢
    have hok : CompOk k l0 y.f3 := ⟨by have := hy.1; omega, by omega, by have := hy.1; omega, hf.in, hy.2.2.in⟩
    unfold chain_Compose.f
    rw [if_pos hok, Option.bind_some]
    have hc := compV_small a0 a1 a2 l0 y.f0 y.f1 y.f2 y.f3 6000 (by omega) (fun _ => by rw [sum_split]; exact hy.2.1)
    generalize compV a0 a1 a2 l0 y.f0 y.f1 y.f2 y.f3 = c at hc ⊢
    by_cases he : c.2.2.2.2 = 0
    · rw [if_pos he, if_pos he, show wrap64 ((i : Int) + 1) = ((i + 1 : Nat) : Int) from wrap_nat i 1 (by omega)]
      exact ih k (i + 1) c.1 c.2.1 c.2.2.1 c.2.2.2.1 (by omega) (by omega) (by omega) hc.2 (by omega)
    · rw [if_neg he, if_neg he]
theorem refFold_l0 (l : List S24) (hl : l.length ≤ 1000) (hs : ∀ y ∈ l, SmallD y) (d : Nat) : ∀ (k i : Nat) (a0 a1 : ByteArray) (a2 : Int) (l0 : List S54), l.length - i = d → i ≤ l.length → l0.length ≤ 12000 → FitS l0 → 4000010 + d < k →
    barqueref07_Fold.l0 k l (i : Nat) a0 a1 a2 l0 = some (foldW (l.drop i) a0 a1 a2 l0) := by
  induction d with
  | zero =>
    intro k i a0 a1 a2 l0 hd hi h0 hf hk
    obtain ⟨k, rfl⟩ : ∃ m, k = m + 1 := ⟨k - 1, by omega⟩
    rw [barqueref07_Fold.l0, if_neg (by omega), List.drop_of_length_le (by omega), foldW]
  | succ d ih =>
    intro k i a0 a1 a2 l0 hd hi h0 hf hk
    obtain ⟨k, rfl⟩ : ∃ m, k = m + 1 := ⟨k - 1, by omega⟩
    have hil : i < l.length := by omega
    rw [barqueref07_Fold.l0, if_pos (by omega), if_pos (by omega), rdD_nat l i hil, List.drop_eq_getElem_cons hil, foldW]
    have hy := hs _ (List.getElem_mem hil)
    obtain ⟨y, hye⟩ : ∃ y, l[i] = y := ⟨_, rfl⟩
    rw [hye] at hy ⊢
    rw [refCompose_f a0 a1 a2 l0 y.f0 y.f1 y.f2 y.f3 hf.in hy.2.2.in (by omega) (by have := hy.1; omega) k (by omega), Option.bind_some]
    have hc := compV_small a0 a1 a2 l0 y.f0 y.f1 y.f2 y.f3 6000 (by omega) (fun _ => by rw [sum_split]; exact hy.2.1)
    generalize compV a0 a1 a2 l0 y.f0 y.f1 y.f2 y.f3 = c at hc ⊢
    by_cases he : c.2.2.2.2 = 0
    · rw [if_pos he, if_pos he, show wrap64 ((i : Int) + 1) = ((i + 1 : Nat) : Int) from wrap_nat i 1 (by omega)]
      exact ih k (i + 1) c.1 c.2.1 c.2.2.1 c.2.2.2.1 (by omega) (by omega) (by omega) hc.2 (by omega)
    · rw [if_neg he, if_neg he]
def foldV (l : List S24) : Res :=
  match l with
  | [] => (⟨#[]⟩, ⟨#[]⟩, 0, [], 1)
  | y :: r => if rightV y.f0 y.f1 y.f2 y.f3 = true then foldW r y.f0 y.f1 y.f2 (tidyV y.f3) else (⟨#[]⟩, ⟨#[]⟩, 0, [], 1)
theorem foldV_cons (y : S24) (r : List S24) : foldV (y :: r) = if rightV y.f0 y.f1 y.f2 y.f3 = true then foldW r y.f0 y.f1 y.f2 (tidyV y.f3) else (⟨#[]⟩, ⟨#[]⟩, 0, [], 1) := rfl
theorem tidy_small (y : S24) (hy : SmallD y) : (tidyV y.f3).length ≤ 12000 ∧ FitS (tidyV y.f3) := by
  obtain ⟨h1, h2, h3⟩ := hy
  have := tidyV_len y.f3
  exact ⟨by omega, tidyV_fit _ (fun x hx => (h3 x hx).1) (by omega)⟩
theorem fold_f (l : List S24) (hl : l.length ≤ 1000) (hs : ∀ y ∈ l, SmallD y) (k : Nat) (hk : 30000 < k) : chain_Fold.f k l = some (foldV l) := by
  have hj : ∀ k x, 0 < k → chain_Fold.j0 k x true = some (⟨#[]⟩, ⟨#[]⟩, 0, [], 1) := fun k x hk => by
    obtain ⟨k, rfl⟩ : ∃ m, k = m + 1 := ⟨k - 1, by omega⟩
    rw [chain_Fold.j0, if_pos rfl]
  unfold chain_Fold.f
  cases l with
  | nil => rw [if_pos (by simp)]; exact hj k _ (by omega)
  | cons y r =>
    have hy := hs y (List.mem_cons_self ..)
    have hr0 : rd_T24 (y :: r) 0 = y := rdD_nat (y :: r) 0 (by simp)
    rw [foldV_cons, if_neg (by rw [List.length_cons]; omega), if_pos (by rw [List.length_cons]; omega), hr0]
    rw [Right_f y.f0 y.f1 y.f2 y.f3 hy.2.2.in (by have := hy.1; omega) k (by have := hy.1; omega), Option.bind_some]
    cases hb : rightV y.f0 y.f1 y.f2 y.f3 with
    | false => rw [if_neg (by decide)]; exact hj k _ (by omega)
    | true =>
      obtain ⟨k, rfl⟩ : ∃ m, k = m + 1 := ⟨k - 1, by omega⟩
      rw [if_pos rfl, Bool.not_true, chain_Fold.j0, if_neg (by decide), if_pos (by rw [List.length_cons]; omega), hr0]
      have ht : TidyOk y.f3 := ⟨by have := hy.1; omega, by have := hy.2.1; omega⟩
      unfold chain_Tidy.f
      rw [if_pos ht, Option.bind_some, if_pos (by rw [List.length_cons]; omega), Option.bind_some]
      obtain ⟨t1, t2⟩ := tidy_small y hy
      have := fold_l0 r (by rw [List.length_cons] at hl; omega) (fun z hz => hs z (List.mem_cons_of_mem _ hz)) r.length k 0 y.f0 y.f1 y.f2 (tidyV y.f3) (by omega) (by omega) t1 t2 (by rw [List.length_cons] at hl; omega)
      rw [List.drop_zero] at this
      exact this
theorem refFold_f (l : List S24) (hl : l.length ≤ 1000) (hs : ∀ y ∈ l, SmallD y) (k : Nat) (hk : 5000000 < k) : barqueref07_Fold.f k l = some (foldV l) := by
  have hj : ∀ k x, 0 < k → barqueref07_Fold.j0 k x true = some (⟨#[]⟩, ⟨#[]⟩, 0, [], 1) := fun k x hk => by
    obtain ⟨k, rfl⟩ : ∃ m, k = m + 1 := ⟨k - 1, by omega⟩
    rw [barqueref07_Fold.j0, if_pos rfl]
  unfold barqueref07_Fold.f
  cases l with
  | nil => rw [if_pos (by simp)]; exact hj k _ (by omega)
  | cons y r =>
    have hy := hs y (List.mem_cons_self ..)
    have hr0 : rd_T24 (y :: r) 0 = y := rdD_nat (y :: r) 0 (by simp)
    rw [foldV_cons, if_neg (by rw [List.length_cons]; omega), if_pos (by rw [List.length_cons]; omega), hr0]
    rw [refRight_f y.f0 y.f1 y.f2 y.f3 hy.2.2.in (by have := hy.1; omega) k (by have := hy.1; omega), Option.bind_some]
    cases hb : rightV y.f0 y.f1 y.f2 y.f3 with
    | false => rw [if_neg (by decide)]; exact hj k _ (by omega)
    | true =>
      obtain ⟨k, rfl⟩ : ∃ m, k = m + 1 := ⟨k - 1, by omega⟩
      rw [if_pos rfl, Bool.not_true, barqueref07_Fold.j0, if_neg (by decide), if_pos (by rw [List.length_cons]; omega), hr0]
      have hb2 := bytesV_length y.f3
      rw [bytes_f y.f3 (by have := hy.1; omega) (fun x hx => ⟨by have := text_mem y.f3 x hx; have := hy.2.1; omega, by have := lenSum_mem y.f3 x hx; have := hy.2.1; omega⟩) k (by have := hy.1; have := hy.2.1; omega) (by have := hy.2.1; omega), Option.bind_some,
        steps_f _ (by have := hy.2.1; omega) k (by have := hy.2.1; omega), Option.bind_some, steps_bytes y.f3 hy.2.2]
      obtain ⟨t1, t2⟩ := tidy_small y hy
      have := refFold_l0 (y :: r) hl hs r.length k 1 y.f0 y.f1 y.f2 (tidyV y.f3) (by rw [List.length_cons]; omega) (by rw [List.length_cons]; omega) t1 t2 (by rw [List.length_cons] at hl; omega)
      rw [List.drop_succ_cons, List.drop_zero] at this
      exact this
theorem folds_l0 (l : List S24) (hl : l.length ≤ 8) (hf : ∀ y ∈ l, FitS y.f3) (d : Nat) : ∀ (k i : Nat), l.length - i = d → i ≤ l.length → (∀ j (h : j < l.length), j < i → SmallD l[j]) → 6000000 + d < k →
    barquelaw07_ChainFolds.l0 k l (i : Nat) = some true := by
  induction d with
  | zero =>
    intro k i hd hi hs hk
    obtain ⟨k, rfl⟩ : ∃ m, k = m + 1 := ⟨k - 1, by omega⟩
    have hall : ∀ y ∈ l, SmallD y := fun y hy => by
      obtain ⟨j, hj, rfl⟩ := List.getElem_of_mem hy
      exact hs j hj (by omega)
    rw [barquelaw07_ChainFolds.l0, if_neg (by omega), fold_f l (by omega) hall k (by omega), Option.bind_some, refFold_f l (by omega) hall k (by omega), Option.bind_some]
    have hlen : (foldV l).2.2.2.1.length ≤ 12000 := by
      unfold foldV
      cases l with
      | nil => simp
      | cons y r =>
        simp only
        split
        · exact foldW_len r (fun z hz => hall z (List.mem_cons_of_mem _ hz)) _ _ _ _ (tidy_small y (hall y (List.mem_cons_self ..))).1
        · simp
    generalize foldV l = c at hlen ⊢
    rw [same_all k _ _ _ _ (by omega) (by omega), Option.bind_some, if_pos rfl, if_pos rfl, awake07]
    rfl
  | succ d ih =>
    intro k i hd hi hs hk
    obtain ⟨k, rfl⟩ : ∃ m, k = m + 1 := ⟨k - 1, by omega⟩
    have hil : i < l.length := by omega
    rw [barquelaw07_ChainFolds.l0, if_pos (by omega), if_pos (by omega), rdD_nat l i hil]
    obtain ⟨b, hb, hc⟩ := small_f l[i].f3 l[i].f0 l[i].f1 l[i].f2 k (by omega)
    rw [hb, Option.bind_some]
    cases b with
    | false => rw [if_neg (by decide), awake07]; rfl
    | true =>
      rw [if_pos rfl, show wrap64 ((i : Int) + 1) = ((i + 1 : Nat) : Int) from wrap_nat i 1 (by omega)]
      refine ih k (i + 1) (by omega) (by omega) (fun j h hj => ?_) (by omega)
      rcases Nat.lt_or_ge j i with h2 | h2
      · exact hs j h h2
      · obtain rfl : j = i := by omega
        obtain ⟨c1, c2⟩ := hc rfl
        exact ⟨c1, c2, hf _ (List.getElem_mem h)⟩
theorem ChainFolds (l : List S24) (hf : ∀ y ∈ l, FitS y.f3) : barquelaw07_ChainFolds.f 10000000 l = some true := by
  unfold barquelaw07_ChainFolds.f
  by_cases h : (l.length : Int) > 8
  · rw [if_pos h, awake07]; rfl
  · rw [if_neg h]
    exact folds_l0 l (by omega) hf l.length 10000000 0 (by omega) (by omega) (fun j _ hj => by omega) (by omega)
end Go.Proofs.Ytjgelmfkoefclaa.Pure

-- from YtjgelmfkoefclaaGivKept
namespace Go.Proofs.Ytjgelmfkoefclaa.PAll
open Go.RowKit Go.Proofs.YtjgelmfkoefclaaW.PrintWords Go.Proofs.YtjgelmfkoefclaaW.PrintLast Go.Proofs.YtjgelmfkoefclaaW.PrintMore Go.Proofs.Ytjgelmfkoefclaa.Pure
set_option linter.unusedVariables false
set_option linter.unusedSimpArgs false
attribute [local go_sem] max2_int min2_int max_two min_two

theorem R_lit0 {α : Type} (d : Kd α) (e base : Nat) (W : World) (hb : base ≤ W.heap.size) (ok : Nat → Prop) (hok : ok W.heap.size) : d.R e (W.alloc (.cells #[] e (0, 0))) base ok (.slice (some ⟨W.heap.size, 0, none⟩) 0 0) [] := by
  refine ⟨fun k hk => ?_, [], ?_, Reps.none _ _⟩
  · have : W.heap.size = k := by simpa [Value.ownBlock] using hk
    subst this; exact hok
  · have h2 := World.ownsRow_lit (base := base) (e := e) (size := d.sz) W #[] 0 hb (by simp [maxLen]) (by simp)
    simpa using h2
theorem C_two (W : World) (g : Nat) (a0 a1 : ByteArray) (a2 : Int) (A0 : Option Addr) (c0 : Nat) (l0 : List S54) (b0 b1 : ByteArray) (b2 : Int) (A1 : Option Addr) (c1 : Nat) (l1 : List S54)
    (hr0 : Kd.C k54 W A0 l0.length l0) (hc0 : l0.length ≤ c0) (hr1 : Kd.C k54 W A1 l1.length l1) (hc1 : l1.length ≤ c1)
    (hb : W.heap[g]? = some (.cells #[.string a0, .string a1, .int .i64 a2, .slice A0 l0.length c0, .string b0, .string b1, .int .i64 b2, .slice A1 l1.length c1] 24 (0, 0))) :
    Kd.C k24 W (some ⟨g, 0, none⟩) 2 [⟨a0, a1, a2, l0⟩, ⟨b0, b1, b2, l1⟩] := by
  refine ⟨rfl, by omega, fun _ => ⟨⟨g, 0, none⟩, rfl, fun j p hp => ?_⟩⟩
  match j, hp with
  | 0, hp =>
    obtain rfl := Option.some.inj hp
    refine ⟨_, rfl, k24_mk W ⟨a0, a1, a2, l0⟩ hc0 hr0, fun i u hu => ?_⟩
    match i, hu with
    | 0, hu => exact (blk_cell hb 0).trans hu
    | 1, hu => exact (blk_cell hb 1).trans hu
    | 2, hu => exact (blk_cell hb 2).trans hu
    | 3, hu => exact (blk_cell hb 3).trans hu
    | n + 4, hu => cases hu
  | 1, hp =>
    obtain rfl := Option.some.inj hp
    refine ⟨_, rfl, k24_mk W ⟨b0, b1, b2, l1⟩ hc1 hr1, fun i u hu => ?_⟩
    match i, hu with
    | 0, hu => exact (blk_cell hb 4).trans hu
    | 1, hu => exact (blk_cell hb 5).trans hu
    | 2, hu => exact (blk_cell hb 6).trans hu
    | 3, hu => exact (blk_cell hb 7).trans hu
    | n + 4, hu => cases hu
  | n + 2, hp => cases hp
end Go.Proofs.Ytjgelmfkoefclaa.PAll

-- from YtjgelmfkoefclaaWalkChainKept
namespace Go.Proofs.Ytjgelmfkoefclaa.chainKept
open Go.RowKit
open Go.Proofs.YtjgelmfkoefclaaW.PrintWords
open Go.Proofs.YtjgelmfkoefclaaW.PrintLast
open Go.Proofs.YtjgelmfkoefclaaW.PrintMore
open Go.Proofs.Ytjgelmfkoefclaa.PAll
open Go.Proofs.Ytjgelmfkoefclaa
open Go.Proofs.Ytjgelmfkoefclaa.Pure
set_option linter.unusedVariables false
set_option linter.unusedSimpArgs false
set_option maxHeartbeats 2000000 in
set_option maxRecDepth 100000 in
theorem walked0 (a0 : ByteArray) (a1 : ByteArray) (a2 : Int) (A0 : Option Addr) (c0 : Nat) (l0 : List S54) (b0 : ByteArray) (b1 : ByteArray) (b2 : Int) (A1 : Option Addr) (c1 : Nat) (l1 : List S54) (w : World)
    (hc0 : l0.length ≤ c0) (hr0 : Kd.C k54 w A0 l0.length l0) (hf0 : FitS l0) (hc1 : l1.length ≤ c1) (hr1 : Kd.C k54 w A1 l1.length l1) (hf1 : FitS l1) :
    Calls Try.prog 5 #[.agg #[.string a0, .string a1, .int .i64 a2, .slice A0 l0.length c0], .agg #[.string b0, .string b1, .int .i64 b2, .slice A1 l1.length c1]] w fun e w' => e = .returned (.bool true) ∧ Below w.heap.size w w' := by
  obtain ⟨sa, hsa, ca⟩ := small_f l0 a0 a1 a2 10000000 (by omega)
  obtain ⟨sb, hsb, cb⟩ := small_f l1 b0 b1 b2 10000000 (by omega)
  have HSA := Aside0.mk (fun wx h => barquelaw07_small.calls 10000000 a0 a1 a2 A0 c0 l0 sa wx h hc0 hsa)
  have HSB := Aside0.mk (fun wx h => barquelaw07_small.calls 10000000 b0 b1 b2 A1 c1 l1 sb wx h hc1 hsb)
  have HAW := Aside0.mk (fun wx => barquelaw07_awake.calls 0 true wx (awake07 0))
  have H0 := Aside0.mk hr0
  have H1 := Aside0.mk hr1
  have HC0 := Aside0.mk hc0
  have HC1 := Aside0.mk hc1
  have HF0 := Aside0.mk hf0
  have HF1 := Aside0.mk hf1
  have HCA := Aside0.mk ca
  have HCB := Aside0.mk cb
  clear hr0 hr1 hc0 hc1 hf0 hf1 ca cb hsa hsb
  obtain ⟨W3, hW3⟩ : ∃ W3, W3 = (w.alloc (.cells #[.string a0, .string a1, .int .i64 a2, .slice A0 l0.length c0] 24 (0, 0))).alloc (.cells #[.string b0, .string b1, .int .i64 b2, .slice A1 l1.length c1] 24 (0, 0)) := ⟨_, rfl⟩
  have HA : Aside0 (W3.heap[w.heap.size]? = some (.cells #[.string a0, .string a1, .int .i64 a2, .slice A0 l0.length c0] 24 (0, 0))) := ⟨by rw [hW3]; exact blk_alloc (blk_new _ _) _⟩
  have HB : Aside0 (W3.heap[w.heap.size + 1]? = some (.cells #[.string b0, .string b1, .int .i64 b2, .slice A1 l1.length c1] 24 (0, 0))) := ⟨by
    rw [hW3]; have := blk_new (w.alloc (.cells #[.string a0, .string a1, .int .i64 a2, .slice A0 l0.length c0] 24 (0, 0))) (.cells #[.string b0, .string b1, .int .i64 b2, .slice A1 l1.length c1] 24 (0, 0)); rw [World.size_alloc] at this; exact this⟩
  have HBW : Aside0 (Below w.heap.size w W3) := ⟨by rw [hW3]; exact below_alloc (below_alloc (Below.refl _ _) _) _⟩
  have HW3 := Aside0.mk hW3
  clear hW3
  go_enter Try.func5, Try.ntmps5
  go_upto_region 1 with fail
  rw [← HW3.out]
  obtain ⟨p0, p1, p2, p3⟩ := blk4 HA.out
  have HC3 : Aside0 (Kd.C k54 W3 A0 l0.length l0) := ⟨Kd.C_below H0.out HBW.out⟩
  cases sa with
  | false =>
    go_wp2_with (first | (go_at_call 10; go_loud ((with_reducible refine (HSA.out _ HC3.out).mono ?_); rintro _ wa ⟨rfl, hbb⟩; have HBA := Aside0.mk (below_step HBW.out hbb); clear hbb)) | (go_at_call 11; go_loud (refine (HAW.out _).mono ?_; rintro _ wx ⟨rfl, hbb⟩; have HBX := Aside0.mk (below_step HBA.out hbb); clear hbb)))
    go_ret
    exact ⟨rfl, HBX.out⟩
  | true =>
    cases sb with
    | false =>
      go_wp2_with (first | (go_at_call 10; go_loud (first | ((with_reducible refine (HSA.out _ HC3.out).mono ?_); rintro _ wa ⟨rfl, hbb⟩; have HBA := Aside0.mk (below_step HBW.out hbb); have HAA := Aside0.mk (blk_below HA.out hbb); have HBBA := Aside0.mk (blk_below HB.out hbb); clear hbb p0 p1 p2 p3; have HC4 : Aside0 (Kd.C k54 wa A1 l1.length l1) := ⟨Kd.C_below H1.out HBA.out⟩; obtain ⟨q0, q1, q2, q3⟩ := blk4 HBBA.out) | ((with_reducible refine (HSB.out _ HC4.out).mono ?_); rintro _ wb ⟨rfl, hbb⟩; have HBB := Aside0.mk (below_step HBA.out hbb); have HAB := Aside0.mk (blk_below HAA.out hbb); have HBBB := Aside0.mk (blk_below HBBA.out hbb); clear hbb q0 q1 q2 q3; have pa3 : ∀ X, (wb.alloc X).cell? ⟨w.heap.size, 3, none⟩ = some (.slice A0 l0.length c0) := fun X => (blk4 (blk_alloc HAB.out X)).2.2.2))) | (go_at_call 11; go_loud (refine (HAW.out _).mono ?_; rintro _ wx ⟨rfl, hbb⟩; have HBX := Aside0.mk (below_step HBB.out hbb); clear hbb)))
      go_ret
      exact ⟨rfl, HBX.out⟩
    | true =>
      obtain ⟨n0, m0⟩ := HCA.out rfl
      obtain ⟨n1, m1⟩ := HCB.out rfl
      have HTD := Aside0.mk (fun wx h => tidy_calls A0 c0 l0 wx h HC0.out (⟨by omega, by omega⟩ : TidyOk l0))
      have hok : CompOk 10000000 l0 l1 := ⟨by omega, by omega, by omega, HF0.out.in, HF1.out.in⟩
      obtain ⟨cr, hcr⟩ : ∃ cr, cr = compV a0 a1 a2 l0 b0 b1 b2 l1 := ⟨_, rfl⟩
      obtain ⟨r1, r2, r3, r4, r5⟩ := cr
      have hce : chain_Compose.f 10000000 a0 a1 a2 l0 b0 b1 b2 l1 = some (r1, r2, r3, r4, r5) := by unfold chain_Compose.f; rw [if_pos hok, ← hcr]
      have HCC := Aside0.mk (fun wx h h' => chain_Compose.calls 10000000 a0 a1 a2 A0 c0 l0 b0 b1 b2 A1 c1 l1 r1 r2 r3 r4 r5 wx h HC0.out h' HC1.out hce)
      obtain ⟨fr, hfr⟩ : ∃ fr, fr = foldV [⟨a0, a1, a2, l0⟩, ⟨b0, b1, b2, l1⟩] := ⟨_, rfl⟩
      obtain ⟨s1, s2, s3, s4, s5⟩ := fr
      have hfe : chain_Fold.f 10000000 [⟨a0, a1, a2, l0⟩, ⟨b0, b1, b2, l1⟩] = some (s1, s2, s3, s4, s5) := by
        rw [fold_f _ (by simp) (fun y hy => by
          rcases List.mem_cons.mp hy with rfl | hy
          · exact ⟨n0, m0, HF0.out⟩
          · rw [List.mem_singleton.mp hy]; exact ⟨n1, m1, HF1.out⟩) 10000000 (by omega), ← hfr]
      have HFC := Aside0.mk (fun A wx h => chain_Fold.calls 10000000 A 2 [⟨a0, a1, a2, l0⟩, ⟨b0, b1, b2, l1⟩] s1 s2 s3 s4 s5 wx h (Nat.le_refl _) hfe)
      have HSX := Aside0.mk (fun Ax cx A c wx h hx h' h2 => barqueref06_Steps.calls 10000000 Ax cx l0 A c l0 true wx h hx h' h2 (same_f l0 (by omega) 10000000 (by omega)))
      have HSY := Aside0.mk (fun Ax cx A c wx h hx h' h2 => barqueref06_Steps.calls 10000000 Ax cx l1 A c l1 true wx h hx h' h2 (same_f l1 (by omega) 10000000 (by omega)))
      have HN := Aside0.mk (And.intro n0 n1)
      clear hok hcr hce hfr hfe m0 m1
      go_upto_region 5 with (first | (go_at_call 10; go_loud (first | ((with_reducible refine (HSA.out _ HC3.out).mono ?_); rintro _ wa ⟨rfl, hbb⟩; have HBA := Aside0.mk (below_step HBW.out hbb); have HAA := Aside0.mk (blk_below HA.out hbb); have HBBA := Aside0.mk (blk_below HB.out hbb); clear hbb p0 p1 p2 p3; have HC4 : Aside0 (Kd.C k54 wa A1 l1.length l1) := ⟨Kd.C_below H1.out HBA.out⟩; obtain ⟨q0, q1, q2, q3⟩ := blk4 HBBA.out) | ((with_reducible refine (HSB.out _ HC4.out).mono ?_); rintro _ wb ⟨rfl, hbb⟩; have HBB := Aside0.mk (below_step HBA.out hbb); have HAB := Aside0.mk (blk_below HAA.out hbb); have HBBB := Aside0.mk (blk_below HBBA.out hbb); clear hbb q0 q1 q2 q3; have pa3 : ∀ X, (wb.alloc X).cell? ⟨w.heap.size, 3, none⟩ = some (.slice A0 l0.length c0) := fun X => (blk4 (blk_alloc HAB.out X)).2.2.2))) | ((with_reducible refine gate_builtin (b := .append) (xs := #[.tmp 16, .tmp 18]) rfl ?_); at_builtin; go_loud (refine Kd.R_append_rows k54 (Rr := k54.K wb) (w0 := wb) (W := wb.alloc (.cells #[] 54 (0, 0))) wb.heap.size rfl (.tmp 16) (.tmp 18) 22 54 (.agg #[(.int .i64 0), (.int .i64 0), (.string ⟨#[]⟩)]) 32 rfl Try.underlying22 info54 rfl (by decide) (by omega) (.slice (some ⟨wb.heap.size, 0, none⟩) 0 0) [] l0 A0 l0.length c0 (fun _ => True) (fun _ => False) rfl rfl ?aO ?aR ?aK (fun _ hk => hk.elim) (fun _ _ => trivial) ?aB ?aS ?aL ?_; (case aO => exact R_lit0 k54 54 wb.heap.size wb (Nat.le_refl _) _ trivial); (case aR => exact ReadsRow.imp_ (Kd.C_below H0.out HBB.out) (below_alloc (Below.refl _ _) _) (fun _ _ hp => hp)); (case aK => exact (fun x_ cs_ h_ => by rw [k54_open h_]; exact k54_mkM _ _ _ x_)); (case aB => exact below_alloc (Below.refl _ _) _); (case aS => simp); (case aL => simp only [List.length_nil]; omega); intro v1 wc hR1 hB1 hG1 hO1; have HBC := Aside0.mk (below_step HBB.out hB1); have HAC := Aside0.mk (blk_below HAB.out hB1); have HBBC := Aside0.mk (blk_below HBBB.out hB1); obtain ⟨Ax, cx, rfl, hcx, hCx⟩ := Kd.R_reads hR1; rw [List.nil_append] at hcx hCx; have HCX := Aside0.mk hCx; have HLX := Aside0.mk hcx; clear hR1 hB1 hG1 hO1 hcx hCx; clear pa3; have qa3 : ∀ X, (wc.alloc X).cell? ⟨w.heap.size + 1, 3, none⟩ = some (.slice A1 l1.length c1) := fun X => (blk4 (blk_alloc HBBC.out X)).2.2.2)) | ((with_reducible refine gate_builtin (b := .append) (xs := #[.tmp 20, .tmp 22]) rfl ?_); at_builtin; go_loud (refine Kd.R_append_rows k54 (Rr := k54.K wc) (w0 := wc) (W := wc.alloc (.cells #[] 54 (0, 0))) wc.heap.size rfl (.tmp 20) (.tmp 22) 22 54 (.agg #[(.int .i64 0), (.int .i64 0), (.string ⟨#[]⟩)]) 32 rfl Try.underlying22 info54 rfl (by decide) (by omega) (.slice (some ⟨wc.heap.size, 0, none⟩) 0 0) [] l1 A1 l1.length c1 (fun _ => True) (fun _ => False) rfl rfl ?aO ?aR ?aK (fun _ hk => hk.elim) (fun _ _ => trivial) ?aB ?aS ?aL ?_; (case aO => exact R_lit0 k54 54 wc.heap.size wc (Nat.le_refl _) _ trivial); (case aR => exact ReadsRow.imp_ (Kd.C_below H1.out HBC.out) (below_alloc (Below.refl _ _) _) (fun _ _ hp => hp)); (case aK => exact (fun x_ cs_ h_ => by rw [k54_open h_]; exact k54_mkM _ _ _ x_)); (case aB => exact below_alloc (Below.refl _ _) _); (case aS => simp); (case aL => simp only [List.length_nil]; omega); intro v1 wd hR1 hB1 hG1 hO1; have HBD := Aside0.mk (below_step HBC.out hB1); have HAD := Aside0.mk (blk_below HAC.out hB1); have HBBD := Aside0.mk (blk_below HBBC.out hB1); obtain ⟨Ay, cy, rfl, hcy, hCy⟩ := Kd.R_reads hR1; rw [List.nil_append] at hcy hCy; have HCXD := Aside0.mk (Kd.C_below HCX.out hB1); have HCY := Aside0.mk hCy; have HLY := Aside0.mk hcy; clear hR1 hB1 hG1 hO1 hcy hCy; clear qa3; obtain ⟨p0, p1, p2, p3⟩ := blk4 HAD.out; obtain ⟨q0, q1, q2, q3⟩ := blk4 HBBD.out)))
      have HKEEP := Aside0.mk (fun (u v : World) (h : Below u.heap.size u v) (ha : u.heap[w.heap.size]? = some (.cells #[.string a0, .string a1, .int .i64 a2, .slice A0 l0.length c0] 24 (0, 0))) (hb : u.heap[w.heap.size + 1]? = some (.cells #[.string b0, .string b1, .int .i64 b2, .slice A1 l1.length c1] 24 (0, 0))) => And.intro (blk_below ha h) (blk_below hb h))
      go_upto_region 6 with (go_at_call 17; go_loud (refine (HTD.out _ (Kd.C_below H0.out HBD.out)).mono ?_; rintro _ we ⟨vt, rfl, _, hbb⟩; have HBE := Aside0.mk (below_step HBD.out hbb); have HAE := Aside0.mk (blk_below HAD.out hbb); have HBBE := Aside0.mk (blk_below HBBD.out hbb); have HCXE := Aside0.mk (Kd.C_below HCXD.out hbb); have HCYE := Aside0.mk (Kd.C_below HCY.out hbb); clear hbb p0 p1 p2 p3 q0 q1 q2 q3; obtain ⟨p0, p1, p2, p3⟩ := blk4 HAE.out; obtain ⟨q0, q1, q2, q3⟩ := blk4 HBBE.out))
      go_upto_region 7 with (go_at_call 12; go_loud (refine (HCC.out _ (Kd.C_below H0.out HBE.out) (Kd.C_below H1.out HBE.out)).mono ?_; rintro _ wf ⟨vt2, rfl, _, hbb⟩; have HBF := Aside0.mk (below_step HBE.out hbb); have HAF := Aside0.mk (blk_below HAE.out hbb); have HBBF := Aside0.mk (blk_below HBBE.out hbb); have HCXF := Aside0.mk (Kd.C_below HCXE.out hbb); have HCYF := Aside0.mk (Kd.C_below HCYE.out hbb); clear hbb p0 p1 p2 p3 q0 q1 q2 q3; obtain ⟨p0, p1, p2, p3⟩ := blk4 HAF.out; obtain ⟨q0, q1, q2, q3⟩ := blk4 HBBF.out))
      have hl : Below wf.heap.size wf (wf.alloc (.cells #[.string a0, .string a1, .int .i64 a2, .slice A0 l0.length c0, .string b0, .string b1, .int .i64 b2, .slice A1 l1.length c1] 24 (0, 0))) := below_alloc (Below.refl _ _) _
      have HLB := Aside0.mk hl
      have HFD := Aside0.mk (HFC.out (some ⟨wf.heap.size, 0, none⟩) (wf.alloc (.cells #[.string a0, .string a1, .int .i64 a2, .slice A0 l0.length c0, .string b0, .string b1, .int .i64 b2, .slice A1 l1.length c1] 24 (0, 0))) (C_two _ wf.heap.size a0 a1 a2 A0 c0 l0 b0 b1 b2 A1 c1 l1 (Kd.C_below H0.out (below_step HBF.out hl)) HC0.out (Kd.C_below H1.out (below_step HBF.out hl)) HC1.out (blk_new _ _)))
      clear hl
      go_upto_region 8 with (go_at_call 15; go_loud (refine HFD.out.mono ?_; rintro _ wg ⟨vt3, rfl, _, hbb⟩; have HBG := Aside0.mk (below_step (below_step HBF.out HLB.out) hbb); have HAG := Aside0.mk (blk_below (blk_below HAF.out HLB.out) hbb); have HBBG := Aside0.mk (blk_below (blk_below HBBF.out HLB.out) hbb); have HCXG := Aside0.mk (Kd.C_below (Kd.C_below HCXF.out HLB.out) hbb); have HCYG := Aside0.mk (Kd.C_below (Kd.C_below HCYF.out HLB.out) hbb); clear hbb p0 p1 p2 p3 q0 q1 q2 q3; obtain ⟨p0, p1, p2, p3⟩ := blk4 HAG.out; obtain ⟨q0, q1, q2, q3⟩ := blk4 HBBG.out))
      go_wp2_with (first | (go_at_call 18; go_loud (first | ((with_reducible refine (HSX.out Ax cx A0 c0 _ HCXG.out HLX.out (Kd.C_below H0.out HBG.out) HC0.out).mono ?_); rintro _ wh ⟨rfl, hbb⟩; have HBH := Aside0.mk (below_step HBG.out hbb.below); have HBBH := Aside0.mk (blk_below HBBG.out hbb.below); have HCYH := Aside0.mk (Kd.C_below HCYG.out hbb.below); clear hbb p0 p1 p2 p3 q0 q1 q2 q3; obtain ⟨q0, q1, q2, q3⟩ := blk4 HBBH.out) | ((with_reducible refine (HSY.out Ay cy A1 c1 _ HCYH.out HLY.out (Kd.C_below H1.out HBH.out) HC1.out).mono ?_); rintro _ wi ⟨rfl, hbb⟩; have HBI := Aside0.mk (below_step HBH.out hbb.below); clear hbb))) | (go_at_call 11; go_loud (refine (HAW.out _).mono ?_; rintro _ wx ⟨rfl, hbb⟩; have HBX := Aside0.mk (below_step HBI.out hbb); clear hbb)))
      go_ret
      exact ⟨rfl, HBX.out⟩
theorem walked (a0_0 : ByteArray) (a0_1 : ByteArray) (a0_2 : Int) (a0_3 : Option Addr) (c0_3 : Nat) (z0_3 : List S54) (a1_0 : ByteArray) (a1_1 : ByteArray) (a1_2 : Int) (a1_3 : Option Addr) (c1_3 : Nat) (z1_3 : List S54) (W : World) (w0_0 : a0_0.size ≤ maxLen) (w0_1 : a0_1.size ≤ maxLen) (w0_2 : (Lit.int .i64 a0_2).wf = true) (hc0_3 : z0_3.length ≤ c0_3) (hC0_3 : Kd.C k54 W a0_3 z0_3.length z0_3) (hg0_3 : ∀ y ∈ z0_3, good54 y) (w1_0 : a1_0.size ≤ maxLen) (w1_1 : a1_1.size ≤ maxLen) (w1_2 : (Lit.int .i64 a1_2).wf = true) (hc1_3 : z1_3.length ≤ c1_3) (hC1_3 : Kd.C k54 W a1_3 z1_3.length z1_3) (hg1_3 : ∀ y ∈ z1_3, good54 y) :
    Calls Try.prog 5 #[.agg #[.string a0_0, .string a0_1, .int .i64 a0_2, .slice a0_3 z0_3.length c0_3], .agg #[.string a1_0, .string a1_1, .int .i64 a1_2, .slice a1_3 z1_3.length c1_3]] W fun e w' => e = .returned (.bool true) ∧ Below W.heap.size W w' :=
  walked0 a0_0 a0_1 a0_2 a0_3 c0_3 z0_3 a1_0 a1_1 a1_2 a1_3 c1_3 z1_3 W hc0_3 hC0_3 (fun x hx => ⟨bounds_i64 (hg0_3 x hx).1, bounds_i64 (hg0_3 x hx).2.1⟩) hc1_3 hC1_3 (fun x hx => ⟨bounds_i64 (hg1_3 x hx).1, bounds_i64 (hg1_3 x hx).2.1⟩)
end Go.Proofs.Ytjgelmfkoefclaa.chainKept

-- from YtjgelmfkoefclaaLawChainKept
/- The law ChainKept of the given program: every call of it answers true, and what it was handed reads behind the call as it did before. No condition. (The row, out of the walk; laid by wip/tools/rows.py.) -/
namespace Go.Proofs.Ytjgelmfkoefclaa.chainKept
open Go.ChangeShapes Go.WideShapes Go.ChangeAt Go.RowKit
open Go.ChangeMaps (open_string shut_string)
open Go.Proofs.YtjgelmfkoefclaaW.PrintWords
open Go.Proofs.YtjgelmfkoefclaaW.PrintLast
open Go.Proofs.YtjgelmfkoefclaaW.PrintMore
open Go.Proofs.Ytjgelmfkoefclaa.PAll
open Go.Proofs.Ytjgelmfkoefclaa
set_option linter.unusedVariables false
set_option linter.unusedSimpArgs false
theorem own : ownKnob Try.prog.godebug = none := by kernel_rfl
theorem laidOut : laidOutB Try.prog = true := by kernel_rfl
set_option maxRecDepth 100000 in
set_option maxHeartbeats 1000000 in
theorem lifted (os : Os) (started : os.Started) (H : Type) (enc : TypeId × Value → H) :
    ReturnsInHanded {} Try.checked os 5 .any (Rows.chainKeptSpec.pre6 enc Try.prog Try.f5 Rows.chainKeptRow.domain false) (Rows.chainKeptSpec.post enc Try.prog Try.f5 false true false false) := by
  refine returnsInHanded_of_change_sized (C := Try.checked) own started (by kernel_rfl) Try.func5
    (ChangeSpec.witness6 (enc := enc) (C := Try.checked) false ⟨#[], #[.agg #[.string ByteArray.empty, .string ByteArray.empty, .int .i64 0, .slice none 0 0], .agg #[.string ByteArray.empty, .string ByteArray.empty, .int .i64 0, .slice none 0 0]], []⟩ 8 (by kernel_rfl) (by kernel_rfl) (by kernel_rfl) (by kernel_rfl)) ?_
  intro W base args ds gs before hval0 hW hcnd hsz0 _
  have hsz : (DataW.weightsEach Try.prog (Try.f5.params.toList ++ Rows.chainKeptSpec.plain.varTypes Try.prog) (ds ++ gs)).all (· ≤ reachBytes) = true := hsz0
  have hval : ∀ (j : Nat) t v, Try.f5.params[j]? = some t → args[j]? = some v → Value.okWide Try.prog W .any base t v := hval0
  have hW' := hW
  obtain ⟨p, q, hA0, hV, rfl, hfz, hnd⟩ := hW
  have hA : DataW.TrodAll enc Try.prog W 0 (fun _ => true) true Try.f5.params.toList args.toList ds p := hA0
  rw [Try.params5] at hA hval hsz
  obtain ⟨v0, vs0, d0, ds0, p0, q0, hargs, rfl, rfl, h0, r0⟩ := trodAll_cons hA
  obtain ⟨v1, vs1, d1, ds1, p1, q1, rfl, rfl, rfl, h1, r1⟩ := trodAll_cons r0
  obtain ⟨rfl, rfl, rfl⟩ := trodAll_nil r1
  obtain rfl : args = #[v0, v1] := by cases args; simp_all
  obtain ⟨rfl, rfl⟩ := trodVars_none hV
  have k0 := h0
  have lt0 : ∀ x ∈ p0, x.block < W.heap.size := by obtain ⟨m, hm⟩ := k0; exact DataW.trod_lt m _ _ _ hm
  obtain ⟨v0_0, v0_1, v0_2, v0_3, y0_0, y0_1, y0_2, y0_3, fu0, rfl, hdd0, hpp0, h0_0, h0_1, h0_2, h0_3⟩ := Go.Joins.open_agg4 Try.underlying24 (by kernel_rfl) (by kernel_rfl) (hval 0 24 v0 rfl rfl) h0
  obtain ⟨a0_0, e0_0, _, w0_0⟩ := DataW.trod_string Try.underlying9 h0_0
  obtain rfl := (List.cons.inj e0_0).1
  obtain ⟨a0_1, e0_1, _, w0_1⟩ := DataW.trod_string Try.underlying9 h0_1
  obtain rfl := (List.cons.inj e0_1).1
  obtain ⟨a0_2, e0_2, _, w0_2⟩ := DataW.trod_int Try.underlying3 h0_2
  obtain rfl := (List.cons.inj e0_2).1
  obtain ⟨a0_3, len0_3, c0_3, e0_3⟩ := Go.Joins.slice_form Try.underlying22 h0_3
  obtain rfl := (List.cons.inj e0_3).1
  obtain ⟨z0_3, e20_3, hc0_3, hC0_3, hg0_3⟩ := Opens.opens_row (d := k54) (good := good54) opens54 (by kernel_rfl) Try.underlying22 h0_3
  subst e20_3
  have k1 := h1
  have lt1 : ∀ x ∈ p1, x.block < W.heap.size := by obtain ⟨m, hm⟩ := k1; exact DataW.trod_lt m _ _ _ hm
  obtain ⟨v1_0, v1_1, v1_2, v1_3, y1_0, y1_1, y1_2, y1_3, fu1, rfl, hdd1, hpp1, h1_0, h1_1, h1_2, h1_3⟩ := Go.Joins.open_agg4 Try.underlying24 (by kernel_rfl) (by kernel_rfl) (hval 1 24 v1 rfl rfl) h1
  obtain ⟨a1_0, e1_0, _, w1_0⟩ := DataW.trod_string Try.underlying9 h1_0
  obtain rfl := (List.cons.inj e1_0).1
  obtain ⟨a1_1, e1_1, _, w1_1⟩ := DataW.trod_string Try.underlying9 h1_1
  obtain rfl := (List.cons.inj e1_1).1
  obtain ⟨a1_2, e1_2, _, w1_2⟩ := DataW.trod_int Try.underlying3 h1_2
  obtain rfl := (List.cons.inj e1_2).1
  obtain ⟨a1_3, len1_3, c1_3, e1_3⟩ := Go.Joins.slice_form Try.underlying22 h1_3
  obtain rfl := (List.cons.inj e1_3).1
  obtain ⟨z1_3, e21_3, hc1_3, hC1_3, hg1_3⟩ := Opens.opens_row (d := k54) (good := good54) opens54 (by kernel_rfl) Try.underlying22 h1_3
  subst e21_3
  clear hA0 hval0 hsz0 hsz
  refine (walked a0_0 a0_1 a0_2 a0_3 c0_3 z0_3 a1_0 a1_1 a1_2 a1_3 c1_3 z1_3 W w0_0 w0_1 w0_2 hc0_3 hC0_3 hg0_3 w1_0 w1_1 w1_2 hc1_3 hC1_3 hg1_3).mono fun e W' ⟨he, bel⟩ => ?_
  subst he
  exact ⟨_, rfl, _, _, _, [], _, [], hW', trodAll_mk1 (shut_bool Try.underlying4 _), (trodAll_cons_mk (Below.trod laidOut (by kernel_rfl) (of_decide_eq_true (by kernel_rfl)) k0 bel lt0) (trodAll_cons_mk (Below.trod laidOut (by kernel_rfl) (of_decide_eq_true (by kernel_rfl)) k1 bel lt1) trodAll_mk0)), rfl, bel.frame _, fun h => by cases h⟩
theorem over : Rows.chainKeptRow.holds Try.pinned (OpenSpec.ofChange Rows.chainKeptSpec) :=
  OpenClaim.holds_of_wide 5 Try.f5 rfl rfl rfl rfl rfl rfl rfl ⟨rfl, rfl, rfl, rfl, rfl⟩ rfl rfl rfl rfl rfl (by kernel_rfl) Try.func5 (by kernel_rfl)
    (of_decide_eq_true (by kernel_rfl)) (by unfold Func.isWrapper; first | (rw [if_pos (by decide +kernel)]; kernel_rfl) | (rw [if_neg (by decide +kernel)]; exact ⟨rfl, rfl⟩))
    (fun os started H enc _ => lifted os started H enc)
theorem proved : Rows.ChainKeptSaid := over
#print axioms proved
end Go.Proofs.Ytjgelmfkoefclaa.chainKept
namespace Go.Proofs.Ytjgelmfkoefclaa
/-- The row, under a short name, for the claim. -/
theorem chainKept_holds : Rows.ChainKeptSaid := chainKept.proved
end Go.Proofs.Ytjgelmfkoefclaa

