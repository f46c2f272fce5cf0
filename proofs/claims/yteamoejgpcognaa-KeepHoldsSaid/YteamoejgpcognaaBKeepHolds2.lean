/- Part 2 of 3 of the proof of the law KeepHolds (texts of this session, joined by wip/tools/bundle.py). The law KeepHolds of the given program: every call of it answers true, and what it was handed reads behind the call as it did before. No condition. -/
import Derived.RegionTactic
import Derived.ChangeAlike
import Derived.Maps.RangeWalk
import Derived.Test.YteamoejgpcognaaBKeepHolds1
-- from YteamoejgpcognaaPureNeed
namespace Go.Proofs.Yteamoejgpcognaa.Pure
open Go.RowKit Go.Proofs.YteamoejgpcognaaW.PrintWords Go.Proofs.YteamoejgpcognaaW.PrintLast Go.Proofs.YteamoejgpcognaaW.PrintMore Go.Proofs.Yteamoejgpcognaa.PAll
set_option linter.unusedVariables false
set_option linter.unusedSimpArgs false

theorem rdi_nat (l : List Int) (j : Nat) : rd l (j : Int) = l.getD j 0 := by unfold rd; rw [Int.toNat_natCast]
theorem in_l0 (l : List Int) (g : Int) (hlen : l.length ≤ 1000000) (d : Nat) : ∀ (k i : Nat), l.length - i = d → i ≤ l.length → d < k → barqueref12_in.l0 k l g i = some ((l.drop i).contains g) := by
  induction d with
  | zero =>
    intro k i hd hi hk
    obtain ⟨k, rfl⟩ : ∃ m, k = m + 1 := ⟨k - 1, by omega⟩
    simp only [barqueref12_in.l0]
    rw [if_neg (by omega), List.drop_of_length_le (by omega)]; rfl
  | succ d ih =>
    intro k i hd hi hk
    obtain ⟨k, rfl⟩ : ∃ m, k = m + 1 := ⟨k - 1, by omega⟩
    have hil : i < l.length := by omega
    have e0 : l.getD i 0 = l[i] := by rw [List.getD_eq_getElem?_getD, List.getElem?_eq_getElem hil]; rfl
    simp only [barqueref12_in.l0]
    rw [if_pos (by omega), if_pos (by omega), rdi_nat, List.drop_eq_getElem_cons hil, List.contains_cons, e0]
    by_cases he : l[i] = g
    · rw [if_pos he, he]; simp
    · rw [if_neg he, show wrap64 ((i : Int) + 1) = ((i + 1 : Nat) : Int) by unfold wrap64; omega, ih k (i + 1) (by omega) (by omega) (by omega)]
      rw [show (g == l[i]) = false from beq_eq_false_iff_ne.2 (fun e => he e.symm), Bool.false_or]
theorem in_f (l : List Int) (g : Int) (hlen : l.length ≤ 1000000) (k : Nat) (hk : l.length < k) : barqueref12_in.f k l g = some (l.contains g) := by
  unfold barqueref12_in.f
  rw [show (0 : Int) = ((0 : Nat) : Int) from rfl, in_l0 l g hlen l.length k 0 (by omega) (by omega) hk, List.drop_zero]

theorem need_l1 (l : List S50) (ws : List Int) (h1 : l.length ≤ 4096) (h2 : ws.length ≤ 1000000) (d : Nat) : ∀ (k i : Nat), l.length - i = d → i ≤ l.length → d + ws.length + 1 < k →
    barqueref12_Need.l1 k l ws (needV (l.take i) ws) i = some (needV l ws, 0) := by
  induction d with
  | zero =>
    intro k i hd hi hk
    obtain ⟨k, rfl⟩ : ∃ m, k = m + 1 := ⟨k - 1, by omega⟩
    simp only [barqueref12_Need.l1]
    rw [if_neg (by omega), List.take_of_length_le (by omega)]
  | succ d ih =>
    intro k i hd hi hk
    obtain ⟨k, rfl⟩ : ∃ m, k = m + 1 := ⟨k - 1, by omega⟩
    have hil : i < l.length := by omega
    have hw : wrap64 ((i : Int) + 1) = ((i + 1 : Nat) : Int) := by unfold wrap64; omega
    have hn := ih k (i + 1) (by omega) (by omega) (by omega)
    have hlen : (needV (l.take i) ws).length < 17592186044416 := by have := needV_le l ws i; omega
    have c0 := in_f ws (nth l i).f0 h2 k (by omega)
    have c1 := in_f ws (nth l i).f1 h2 k (by omega)
    simp only [barqueref12_Need.l1]
    rw [if_pos (by omega), if_pos (by omega), rd_nat, c0]
    simp only [Option.bind_some]
    have hs : needV (l.take (i + 1)) ws = needV (l.take i) ws ++ ((if (ws.contains (nth l i).f0 && !ws.contains (nth l i).f1) = true then [(nth l i).f0] else [])) := by
      unfold needV
      rw [take_snoc_S l i hil, List.filter_append, List.map_append]
      congr 1
      by_cases hc : (ws.contains (nth l i).f0 && !ws.contains (nth l i).f1) = true
      · rw [if_pos hc]; simp only [List.filter_cons, hc]; rfl
      · rw [if_neg hc]; simp only [List.filter_cons, hc]; rfl
    by_cases hb0 : ws.contains (nth l i).f0 = true
    · rw [if_pos hb0, c1]
      simp only [Option.bind_some]
      by_cases hb1 : ws.contains (nth l i).f1 = true
      · rw [if_pos hb1, hw]
        rw [hb0, hb1, if_neg (by decide), List.append_nil] at hs
        rw [← hs]; exact hn
      · rw [if_neg hb1, if_pos hlen, hw]
        rw [hb0, Bool.eq_false_iff.2 hb1, if_pos (by decide)] at hs
        rw [← hs]; exact hn
    · rw [if_neg hb0, hw]
      rw [Bool.eq_false_iff.2 hb0, if_neg (by simp), List.append_nil] at hs
      rw [← hs]; exact hn

theorem need_l0 (l : List S50) (ws : List Int) (hg : GoodTo l l.length) (h1 : l.length ≤ 4096) (h2 : ws.length ≤ 1000000) (d : Nat) : ∀ (k i : Nat), ws.length - i = d → i ≤ ws.length → d + l.length + ws.length + 2 < k → (∀ j, j < i → 0 ≤ placeV l (ws.getD j 0)) →
    barqueref12_Need.l0 k l ws i = some (if allIn l ws = true then (needV l ws, 0) else ([], 8)) := by
  have hr : Rises l := fun a b => hg.rises a b
  induction d with
  | zero =>
    intro k i hd hi hk hlow
    obtain ⟨k, rfl⟩ : ∃ m, k = m + 1 := ⟨k - 1, by omega⟩
    simp only [barqueref12_Need.l0]
    rw [if_neg (by omega), if_pos ((allIn_iff l ws).2 (fun j hj => hlow j (by omega)))]
    exact need_l1 l ws h1 h2 l.length k 0 (by omega) (by omega) (by omega)
  | succ d ih =>
    intro k i hd hi hk hlow
    obtain ⟨k, rfl⟩ : ∃ m, k = m + 1 := ⟨k - 1, by omega⟩
    have hil : i < ws.length := by omega
    have hw : wrap64 ((i : Int) + 1) = ((i + 1 : Nat) : Int) := by unfold wrap64; omega
    obtain ⟨r, hr1, hs⟩ := at_f l (ws.getD i 0) (by omega) k (by omega)
    have hp : placeV l (ws.getD i 0) = r := (placeV_spec _ _ hr).unique hs
    simp only [barqueref12_Need.l0]
    rw [if_pos (by omega), if_pos (by omega), rdi_nat, hr1]
    simp only [Option.bind_some]
    by_cases hn : r < 0
    · rw [if_pos hn, if_neg]
      intro ha
      have := (allIn_iff l ws).1 ha i hil
      omega
    · rw [if_neg hn, hw]
      refine ih k (i + 1) (by omega) (by omega) (by omega) (fun j hj => ?_)
      rcases Nat.lt_or_ge j i with e | e
      · exact hlow j e
      · obtain rfl : j = i := by omega
        omega

/-- Both find the same. -/
theorem need_both (l : List S50) (ws : List Int) (k : Nat) (h1 : l.length ≤ 60) (h2 : ws.length ≤ 60) (hk : 400 ≤ k) (hg : ∀ y ∈ l, good50 y) (hw : ∀ y ∈ ws, good3 y) :
    ∃ r, keep_Need.f k l ws = some r ∧ barqueref12_Need.f k l ws = some r ∧ r.1.length ≤ 60 := by
  obtain ⟨e, c1, c2, c3, _⟩ := check_both l k (by omega)
  unfold keep_Need.f barqueref12_Need.f
  rw [c1, c2]
  simp only [Option.bind_some]
  by_cases he : e = 0
  · have hgo := (c3 he).1
    have hok : NeedOk l ws := ⟨by omega, by omega, fun g hg' => ⟨(hg g hg').1, (hg g hg').2.1⟩, hw⟩
    rw [if_pos he, if_pos he, if_pos hok, show (0 : Int) = ((0 : Nat) : Int) from rfl, need_l0 l ws hgo (by omega) (by omega) ws.length k 0 (by omega) (by omega) (by omega) (fun j hj => absurd hj (by omega))]
    change ∃ r, (if allIn l ws = true then some (needV l ws, ((0 : Nat) : Int)) else some ([], 8)) = some r ∧ _
    by_cases ha : allIn l ws = true
    · rw [if_pos ha, if_pos ha]
      refine ⟨_, rfl, rfl, ?_⟩
      have := needV_le l ws l.length
      rw [List.take_length] at this
      exact Nat.le_trans this h1
    · rw [if_neg ha, if_neg ha]; exact ⟨_, rfl, rfl, by simp⟩
  · rw [if_neg he, if_neg he]; exact ⟨_, rfl, rfl, by simp⟩

theorem ints_l0 (l : List Int) (h : l.length ≤ 1000000) (d : Nat) : ∀ (k i : Nat), l.length - i = d → i ≤ l.length → d < k → barqueref12_Ints.l0 k l l i = some true := by
  induction d with
  | zero =>
    intro k i hd hi hk
    obtain ⟨k, rfl⟩ : ∃ m, k = m + 1 := ⟨k - 1, by omega⟩
    simp only [barqueref12_Ints.l0]
    rw [if_neg (by omega)]
  | succ d ih =>
    intro k i hd hi hk
    obtain ⟨k, rfl⟩ : ∃ m, k = m + 1 := ⟨k - 1, by omega⟩
    simp only [barqueref12_Ints.l0]
    rw [if_pos (by omega), if_pos (by omega), if_pos (by omega), if_pos trivial, show wrap64 ((i : Int) + 1) = ((i + 1 : Nat) : Int) by unfold wrap64; omega]
    exact ih k (i + 1) (by omega) (by omega) (by omega)
theorem ints_refl (l : List Int) (h : l.length ≤ 1000000) (k : Nat) (hk : l.length < k) : barqueref12_Ints.f k l l = some true := by
  unfold barqueref12_Ints.f
  rw [if_pos rfl]
  exact ints_l0 l h l.length k 0 (by omega) (by omega) hk
end Go.Proofs.Yteamoejgpcognaa.Pure

-- from YteamoejgpcognaaPAllx56
-- Written by a program of this session (wip/tools/hookprint.py, over the print); Lean checks it.
namespace Go.Proofs.Yteamoejgpcognaa.PAll
open Go.RowKit Go.Proofs.YteamoejgpcognaaW.PrintWords Go.Proofs.YteamoejgpcognaaW.PrintLast Go.Proofs.YteamoejgpcognaaW.PrintMore
attribute [local go_sem] max2_int min2_int max_two min_two max_three min_three max_four min_four   -- for this text's walks alone
set_option linter.unusedVariables false
set_option linter.unusedSimpArgs false

/-! ### slices_Index_int_int: function 55 -/
def slices_Index_int_int.l0 : Nat → List Int → Int → Int → Int → Option (Int)
  | 0, _, _, _, _ => none
  | k + 1, x0, x1, x7, x8 => if x8 < x7 then (if 0 ≤ x8 then (if x8 < (x0.length : Int) then (if x1 = (rd x0 x8) then (some x8) else (slices_Index_int_int.l0 k x0 x1 x7 (wrap64 (x8 + 1)))) else (none)) else (none)) else (some (-1))
def slices_Index_int_int.f (k : Nat) (l0 : List Int) (a1 : Int) : Option (Int) := slices_Index_int_int.l0 k l0 a1 (l0.length : Int) 0
theorem slices_Index_int_int.mono_l : ∀ k, (∀ y0 y1 y2 y3, LeO (slices_Index_int_int.l0 k y0 y1 y2 y3) (slices_Index_int_int.l0 (k + 1) y0 y1 y2 y3))
  | 0 => fun _ _ _ _ r h => by simp [slices_Index_int_int.l0] at h
  | k + 1 => by
    have ih0 := slices_Index_int_int.mono_l k
    · intro y0 y1 y2 y3
      unfold slices_Index_int_int.l0
      repeat' first
      | (with_reducible exact ih0 _ _ _ _)
      | (with_reducible exact LeO.refl _)
      | (with_reducible exact LeO.none _)
      | (with_reducible refine LeO.ite ?_ ?_)
      | (with_reducible refine LeO.bind ?_ (fun _ => ?_))
      | exact ih0 _ _ _ _
      | exact LeO.none _
      | refine LeO.ite ?_ ?_
      | refine LeO.bind ?_ (fun _ => ?_)
theorem slices_Index_int_int.mono : ∀ a0 a1 k, LeO (slices_Index_int_int.f k a0 a1) (slices_Index_int_int.f (k + 1) a0 a1) := by
  intro a0 a1 k
  have ih0 := slices_Index_int_int.mono_l k
  unfold slices_Index_int_int.f
  repeat' first
      | (with_reducible exact ih0 _ _ _ _)
      | (with_reducible exact LeO.refl _)
      | (with_reducible exact LeO.none _)
      | (with_reducible refine LeO.ite ?_ ?_)
      | (with_reducible refine LeO.bind ?_ (fun _ => ?_))
      | exact ih0 _ _ _ _
      | exact LeO.none _
      | refine LeO.ite ?_ ?_
      | refine LeO.bind ?_ (fun _ => ?_)
set_option maxHeartbeats 8000000 in
set_option maxRecDepth 100000 in
theorem slices_Index_int_int.calls (k : Nat) (A0 : Option Addr) (c0 : Nat) (l0 : List Int) (a1 : Int) (r : Int) (w : World) (hr0 : Kd.C (Kd.int .i64) w A0 l0.length l0) (hc0 : l0.length ≤ c0) (h : slices_Index_int_int.f k l0 a1 = some r) :
    Calls Try.prog 55 #[.slice A0 l0.length c0, .int .i64 a1] w fun e w' => e = .returned (.int .i64 r) ∧ Drawn0 w w' := by
  have HR0 := Aside0.mk hr0
  have HC0 := Aside0.mk hc0
  clear hr0 hc0
  have H : (slices_Index_int_int.l0 k l0 a1 (l0.length : Int) 0) = some r := h
  clear h
  have H' := Aside0.mk H
  clear H
  go_enter Try.func55, Try.ntmps55
  go_wp2
  go_loopg [8] k (fun kq v8 w' => ∃ (x8_1 : Int), v8 = .int .i64 x8_1 ∧ Aside0 (slices_Index_int_int.l0 kq l0 a1 (l0.length : Int) x8_1 = some r) ∧ Aside0 (kq ≤ k) ∧ Drawn0 w w')
  case atStart => exact ⟨(0), (by first | rfl | (simp; done) | (simp [*]; done)), H', ⟨Nat.le_refl _⟩, by repeat (first | exact Drawn0.refl _ | apply Drawn0.step)⟩
  case round =>
    clear H'
    try clear p2
    obtain ⟨x8_1, rfl, HA, HK1, ⟨m1, rfl⟩⟩ := hrel
    cases gk with
    | zero => exact absurd HA.out (by simp [slices_Index_int_int.l0])
    | succ k1 =>
      have H := HA.out
      clear HA
      simp only [slices_Index_int_int.l0] at H
      by_cases c3 : x8_1 < (l0.length : Int)
      · rw [if_pos c3] at H
        have c3b0 : decide (x8_1 < (l0.length : Int)) = true := decide_eq_true c3
        clear c3
        by_cases c4 : 0 ≤ x8_1
        · rw [if_pos c4] at H
          have c4b0 : decide (0 ≤ x8_1) = true := decide_eq_true c4
          clear c4
          by_cases c5 : x8_1 < (l0.length : Int)
          · rw [if_pos c5] at H
            have c5b0 : decide (x8_1 < (l0.length : Int)) = true := decide_eq_true c5
            clear c5
            by_cases c6 : a1 = (rd l0 x8_1)
            · rw [if_pos c6] at H
              have c6b0 : (a1 == (rd l0 x8_1)) = true := beq_iff_eq.mpr c6
              have c6b1 : (a1 != (rd l0 x8_1)) = false := bne_eq_false_iff_eq.mpr c6
              clear c6
              obtain rfl := Option.some.inj H
              have p443 : 0 ≤ (x8_1 : Int) := of_decide_eq_true (by first | (with_reducible assumption) | assumption)
              have q443 : x8_1 < (l0.length : Int) := of_decide_eq_true (by first | (with_reducible assumption) | assumption)
              obtain ⟨ad443, e443, hx443_0⟩ := Kd.at_int HR0.out x8_1 p443 q443
              cases e443
              replace p443 := eq_true p443
              replace q443 := eq_true q443
              go_wp2
              go_ret
              exact ⟨by first | rfl | (simp; done) | (simp [*]; done), by repeat (first | exact Drawn0.refl _ | apply Drawn0.step)⟩
            · rw [if_neg c6] at H
              have c6b0 : (a1 == (rd l0 x8_1)) = false := beq_eq_false_iff_ne.mpr c6
              have c6b1 : (a1 != (rd l0 x8_1)) = true := bne_iff_ne.mpr c6
              have H' := Aside0.mk H
              clear H
              have p443 : 0 ≤ (x8_1 : Int) := of_decide_eq_true (by first | (with_reducible assumption) | assumption)
              have q443 : x8_1 < (l0.length : Int) := of_decide_eq_true (by first | (with_reducible assumption) | assumption)
              obtain ⟨ad443, e443, hx443_0⟩ := Kd.at_int HR0.out x8_1 p443 q443
              cases e443
              replace p443 := eq_true p443
              replace q443 := eq_true q443
              go_wp2
              go_roundg k1
              case measure => have := HK1.out; omega
              case rel => exact ⟨(wrap64 (x8_1 + 1)), (by first | rfl | (simp; done) | (simp [*]; done)), H', ⟨by have := HK1.out; omega⟩, by repeat (first | exact Drawn0.refl _ | apply Drawn0.step)⟩
          · rw [if_neg c5] at H
            exact absurd H (by simp)
        · rw [if_neg c4] at H
          exact absurd H (by simp)
      · rw [if_neg c3] at H
        have c3b0 : decide (x8_1 < (l0.length : Int)) = false := decide_eq_false c3
        clear c3
        obtain rfl := Option.some.inj H
        go_wp2
        go_ret
        exact ⟨by first | rfl | (simp; done) | (simp [*]; done), by repeat (first | exact Drawn0.refl _ | apply Drawn0.step)⟩

end Go.Proofs.Yteamoejgpcognaa.PAll

-- from YteamoejgpcognaaGivAfter
namespace Go.Proofs.Yteamoejgpcognaa.PAll
open Go.RowKit Go.Proofs.YteamoejgpcognaaW.PrintWords Go.Proofs.YteamoejgpcognaaW.PrintLast Go.Proofs.YteamoejgpcognaaW.PrintMore
set_option linter.unusedVariables false
set_option linter.unusedSimpArgs false
open Go.Maps

/-- The first place of a number that is there. -/
def idxV : List Int → Int → Nat
  | [], _ => 0
  | y :: ys, x => if y = x then 0 else idxV ys x + 1
theorem idxV_at : ∀ (xs : List Int) (x : Int) (i : Nat), (∀ j, j < i → xs.getD j 0 ≠ x) → i < xs.length → xs.getD i 0 = x → idxV xs x = i
  | [], _, i, _, h, _ => absurd h (by simp)
  | y :: ys, x, 0, _, _, he => by
    have : y = x := he
    simp [idxV, this]
  | y :: ys, x, i + 1, hl, hi, he => by
    have h0 : y ≠ x := hl 0 (by omega)
    simp only [idxV]
    rw [if_neg h0, idxV_at ys x i (fun j hj => hl (j + 1) (by omega)) (by simpa using hi) he]
/-- The first place of a number, or -1. -/
def IdxSpec (xs : List Int) (x r : Int) : Prop := (r = -1 ∧ xs.contains x = false) ∨ ∃ n : Nat, r = n ∧ n < xs.length ∧ xs.contains x = true ∧ idxV xs x = n
theorem idx_f (xs : List Int) (x : Int) (h : xs.length ≤ 1000000) (d : Nat) : ∀ (k i : Nat), xs.length - i = d → i ≤ xs.length → d < k → (∀ j, j < i → xs.getD j 0 ≠ x) → ∃ r, slices_Index_int_int.l0 k xs x (xs.length : Int) i = some r ∧ IdxSpec xs x r := by
  induction d with
  | zero =>
    intro k i hd hi hk hlow
    obtain ⟨k, rfl⟩ : ∃ m, k = m + 1 := ⟨k - 1, by omega⟩
    simp only [slices_Index_int_int.l0]
    rw [if_neg (by omega)]
    refine ⟨_, rfl, .inl ⟨rfl, ?_⟩⟩
    rw [Bool.eq_false_iff]
    intro hc
    rw [List.contains_iff_mem] at hc
    obtain ⟨j, hj, e⟩ := List.getElem_of_mem hc
    have := hlow j (by omega)
    rw [List.getD_eq_getElem?_getD, List.getElem?_eq_getElem hj] at this
    exact this e
  | succ d ih =>
    intro k i hd hi hk hlow
    obtain ⟨k, rfl⟩ : ∃ m, k = m + 1 := ⟨k - 1, by omega⟩
    have hil : i < xs.length := by omega
    have e0 : rd xs (i : Int) = xs.getD i 0 := by unfold rd; rw [Int.toNat_natCast]
    simp only [slices_Index_int_int.l0]
    rw [if_pos (by omega), if_pos (by omega), if_pos (by omega), e0]
    by_cases he : x = xs.getD i 0
    · rw [if_pos he]
      have e1 : xs.getD i 0 = xs[i] := by rw [List.getD_eq_getElem?_getD, List.getElem?_eq_getElem hil]; rfl
      refine ⟨_, rfl, .inr ⟨i, rfl, hil, ?_, ?_⟩⟩
      · rw [List.contains_iff_mem, he, e1]; exact List.getElem_mem hil
      · exact idxV_at xs x i hlow hil he.symm
    · rw [if_neg he, show wrap64 ((i : Int) + 1) = ((i + 1 : Nat) : Int) by unfold wrap64; omega]
      refine ih k (i + 1) (by omega) (by omega) (by omega) (fun j hj => ?_)
      rcases Nat.lt_or_ge j i with e | e
      · exact hlow j e
      · obtain rfl : j = i := by omega
        exact fun e => he e.symm
theorem idx_any (xs : List Int) (x : Int) (h : xs.length ≤ 1000000) (k : Nat) (hk : xs.length < k) : ∃ r, slices_Index_int_int.f k xs x = some r ∧ IdxSpec xs x r :=
  idx_f xs x h xs.length k 0 (by omega) (by omega) hk (fun j hj => absurd hj (by omega))

theorem Cnt.drewN {w : World} {B n : Nat} {f : Int → Int} (h : Cnt w B n f) (m : Nat) : Cnt (w.drewN m) B n f := h
/-- One that stays. -/
def turnG (need wh : List Int) (g : S50) : S50 := if need.contains g.f0 = true then ⟨g.f0, g.f0, wh.getD (idxV need g.f0) 0, g.f3⟩ else g
/-- All that stay. -/
def afterV (l : List S50) (ws need wh : List Int) : List S50 := (l.filter fun g => ws.contains g.f0).map (turnG need wh)
theorem afterV_le (l : List S50) (ws need wh : List Int) (k : Nat) : (afterV (l.take k) ws need wh).length ≤ k := by
  unfold afterV; rw [List.length_map]
  exact Nat.le_trans (List.length_filter_le _ _) (List.length_take_le _ _)
theorem afterV_yes {l : List S50} {ws need wh : List Int} {k : Nat} {el : S50} (h : k < l.length) (he : el = l.getD k z50) (h1 : ¬ cntI ws el.f0 = 0) : afterV (l.take (k + 1)) ws need wh = afterV (l.take k) ws need wh ++ [turnG need wh el] := by
  unfold afterV; rw [take_snoc_S l k h, List.filter_append, List.map_append, ← he]
  have e1 : ws.contains el.f0 = true := by unfold cntI at h1; rw [List.contains_iff_mem]; exact List.count_pos_iff.1 (by omega)
  have e3 : List.filter (fun g : S50 => ws.contains g.f0) [el] = [el] := by simp only [List.filter_cons, e1]; rfl
  rw [e3]; rfl
theorem afterV_no {l : List S50} {ws need wh : List Int} {k : Nat} {el : S50} (h : k < l.length) (he : el = l.getD k z50) (h1 : cntI ws el.f0 = 0) : afterV (l.take (k + 1)) ws need wh = afterV (l.take k) ws need wh := by
  unfold afterV; rw [take_snoc_S l k h, List.filter_append, List.map_append, ← he]
  have e1 : ws.contains el.f0 = false := by unfold cntI at h1; rw [Bool.eq_false_iff]; intro e; rw [List.contains_iff_mem] at e; have := List.count_pos_iff.2 e; omega
  have e3 : List.filter (fun g : S50 => ws.contains g.f0) [el] = [] := by simp only [List.filter_cons, e1]; rfl
  rw [e3]; exact List.append_nil _

set_option maxHeartbeats 4000000 in
set_option maxRecDepth 100000 in
theorem after_ok (k' : Nat) (A0 : Option Addr) (c0 : Nat) (l0 : List S50) (A1 : Option Addr) (c1 : Nat) (l1 : List Int) (A2 : Option Addr) (c2 : Nat) (l2 need : List Int) (w : World) (hr0 : Kd.C k50 w A0 l0.length l0) (hc0 : l0.length ≤ c0) (hr1 : Kd.C (Kd.int .i64) w A1 l1.length l1) (hc1 : l1.length ≤ c1) (hr2 : Kd.C (Kd.int .i64) w A2 l2.length l2) (hc2 : l2.length ≤ c2)
    (hn : keep_Need.f k' l0 l1 = some (need, 0)) (hwh : l2.length = need.length) (hok : NeedOk l0 l1) (hkk : need.length < k') (hk2 : need.length ≤ 1000000) (h4096 : l0.length ≤ 4096) :
    Calls Try.prog 42 #[.slice A0 l0.length c0, .slice A1 l1.length c1, .slice A2 l2.length c2] w fun e w' => ∃ v0_ : Value, e = .returned (.tuple #[v0_, .int .i64 0]) ∧ Kd.R k50 50 w' w.heap.size (fun _ => True) v0_ (afterV l0 l1 need l2) ∧ Below w.heap.size w w' := by
  have HR0 := Aside0.mk hr0
  have HC0 := Aside0.mk hc0
  have HR1 := Aside0.mk hr1
  have HC1 := Aside0.mk hc1
  have HR2 := Aside0.mk hr2
  have HN := Aside0.mk hn
  have HO := Aside0.mk hok
  have HWH := Aside0.mk hwh
  have hne : ((l2.length : Int) != (need.length : Int)) = false := bne_eq_false_iff_eq.mpr (by rw [hwh])
  have hne2 : (l2.length != need.length) = false := bne_eq_false_iff_eq.mpr hwh
  clear hr0 hc0 hr1 hc1 hn hok hr2 hwh
  have hmm := @run_makeMap Try.prog
  go_enter Try.func42, Try.ntmps42
  go_wp2_with (go_at_call 21; refine (keep_Need.calls k' _ _ l0 _ _ l1 need 0 _ HR0.out HC0.out HR1.out HC1.out HN.out).mono ?_; rintro e wa ⟨va, rfl, hoa, hb⟩; obtain ⟨Aa, da, rfl, qa, ra⟩ := Kd.R_reads hoa; have HOA := Aside0.mk ra; have HQA := Aside0.mk qa; have HBC := Aside0.mk hb; clear hoa hb ra qa)
  go_wp2_with fail
  go_loopw [34] (fun v34 wr => ∃ k : Nat, k ≤ l1.length ∧ v34 = .int .i64 k ∧ Aside0 (Cnt wr wa.heap.size k (cntI (l1.take k))) ∧ Aside0 (Below wa.heap.size wa wr)) (fun v34 _ => l1.length - (intOf v34).toNat)
  case atStart => exact ⟨0, by omega, rfl, ⟨cnt_made _⟩, ⟨(Below.refl _ _).alloc (Nat.le_refl _) _⟩⟩
  case round =>
    obtain ⟨k, hk, rfl, HM, HB⟩ := hrel
    by_cases hlt : k < l1.length
    · obtain ⟨ad, e, q1⟩ := Kd.at_int HR1.out (k : Nat) (by omega) (by omega)
      replace q1 := ((below_step HBC.out HB.out).cell (World.block_lt_of_cell? w _ q1)).trans q1
      subst e
      rw [Int.toNat_natCast] at q1
      have EL : Aside0 (rd l1 ((k : Nat) : Int) = l1.getD k 0) := ⟨by unfold rd; rw [Int.toNat_natCast]⟩
      have WF : Aside0 ((Lit.int .i64 (rd l1 ((k : Nat) : Int))).wf = true) := ⟨by rw [EL.out]; exact wf_at HO.out.2.2.2 hlt⟩
      have HS : Aside0 ((fun z => if z = rd l1 ((k : Nat) : Int) then cntI (l1.take k) (rd l1 ((k : Nat) : Int)) + 1 else cntI (l1.take k) z) = cntI (l1.take (k + 1))) := ⟨by rw [EL.out]; exact cntI_snoc l1 k hlt⟩
      generalize rd l1 ((k : Nat) : Int) = el at q1 EL WF HS
      have hcl := cntI_le (l1.take k) el
      have htl : (l1.take k).length ≤ k := List.length_take_le _ _
      have hll := HO.out.2.1
      have hL := HM.out.look el WF.out
      obtain ⟨c, HCE⟩ : ∃ c, Aside0 (cntI (l1.take k) el = c) := ⟨_, ⟨rfl⟩⟩
      rw [HCE.out] at hcl HS hL
      obtain ⟨wc, hput, hcn, hgr⟩ := HM.out.put (by unfold maxLen; omega) el WF.out (c + 1) (wf_small (by omega) (by omega))
      have HCN := Aside0.mk hcn
      have HGR := Aside0.mk hgr
      clear hcn hgr
      go_wp2_with fail
      go_roundw
      case rel => exact ⟨k + 1, by omega, by go_num, ⟨by rw [← HS.out]; exact HCN.out⟩, ⟨HB.out.grown HGR.out HB.out.size (fun j hj => by cases hj; exact Nat.le_refl _)⟩⟩
      case measure => simp [intOf]; omega
    · have hke : k = l1.length := by omega
      subst hke
      rw [List.take_length] at HM
      have HBw := Aside0.mk (below_step HBC.out HB.out)
      obtain ⟨B, HBE⟩ : ∃ B, Aside0 (wa.heap.size = B) := ⟨_, ⟨rfl⟩⟩
      have HWB : Aside0 (w.heap.size ≤ B) := ⟨by rw [← HBE.out]; exact HBC.out.size⟩
      rw [HBE.out] at HM ⊢
      generalize hn : l1.length = n at HM
      have HNN := Aside0.mk hn
      clear hn
      go_wp2_with fail
      go_loopw [13, 45] (fun v13 v45 wr => ∃ k : Nat, k ≤ l0.length ∧ v45 = .int .i64 k ∧ Aside0 (Kd.R k50 50 wr wa.heap.size (fun b => b ≠ B) v13 (afterV (l0.take k) l1 need l2)) ∧ Aside0 (Cnt wr B n (cntI l1)) ∧ Aside0 (Below wa.heap.size wa wr)) (fun _ v45 _ => l0.length - (intOf v45).toNat)
      case atStart => exact ⟨0, by omega, rfl, ⟨Kd.R_nil _ _ _ _ _⟩, HM, HB⟩
      case round =>
        clear HM HB
        obtain ⟨k, hk, rfl, HO13, HM, HB⟩ := hrel
        by_cases hlt : k < l0.length
        · have hx0 : 0 ≤ ((k : Nat) : Int) := by omega
          have hx1 : ((k : Nat) : Int) < (l0.length : Int) := by omega
          have HBw := Aside0.mk (below_step HBC.out HB.out)
          obtain ⟨ad, e, q1, q2, q3, q4⟩ := cells_T50 HR0.out HBw.out _ hx0 hx1
          have EL : Aside0 (rd_T50 l0 ((k : Nat) : Int) = l0.getD k z50) := ⟨by unfold rd_T50; rw [Int.toNat_natCast]⟩
          have WF : Aside0 (wf64 (rd_T50 l0 ((k : Nat) : Int)).f0 ∧ wf64 (rd_T50 l0 ((k : Nat) : Int)).f1) := ⟨by rw [EL.out, List.getD_eq_getElem?_getD, List.getElem?_eq_getElem hlt]; exact HO.out.2.2.1 _ (List.getElem_mem hlt)⟩
          generalize rd_T50 l0 ((k : Nat) : Int) = el at q1 q2 q3 q4 EL WF
          subst e
          rw [Int.toNat_natCast] at q1 q2 q3 q4
          have hlk := (HM.out.alloc (.cells #[.int .i64 el.f0, .int .i64 el.f1, .int .i64 el.f2, .string el.f3] 50)).look el.f0 WF.out.1
          have hll := HO.out.1
          have hnl := afterV_le l0 l1 need l2 k
          have HOB := Aside0.mk (show some B ≠ u13.ownBlock from fun e => HO13.out.1 B e.symm rfl)
          have HA := Aside0.mk (heap_alloc_new wr (.cells #[.int .i64 el.f0, .int .i64 el.f1, .int .i64 el.f2, .string el.f3] 50))
          by_cases h1 : cntI l1 el.f0 = 0
          · have h1b : (cntI l1 el.f0 == 0) = true := beq_iff_eq.mpr h1
            have HSN := Aside0.mk (afterV_no (need := need) (wh := l2) hlt EL.out h1)
            clear h1
            go_wp2_with fail
            go_roundw
            case rel => exact ⟨k + 1, by omega, by go_num, ⟨by rw [HSN.out]; exact Kd.R_alloc HO13.out _⟩, ⟨HM.out.alloc _⟩, ⟨HB.out.alloc HB.out.size _⟩⟩
            case measure => simp [intOf]; omega
          · have h1b : (cntI l1 el.f0 == 0) = false := beq_eq_false_iff_ne.mpr h1
            have HSN := Aside0.mk (afterV_yes (need := need) (wh := l2) hlt EL.out h1)
            clear h1
            obtain ⟨r, hr1, hr2⟩ := idx_any need el.f0 hk2 k' hkk
            have HX1 := Aside0.mk hr1
            rcases hr2 with ⟨rfl, hnc⟩ | ⟨q, rfl, hq, hc, hi⟩
            · have HT := Aside0.mk (show turnG need l2 el = el by unfold turnG; rw [if_neg (by rw [hnc]; decide)])
              clear hnc hr1
              go_wp2_with (first
                | (go_at_call 55; refine (slices_Index_int_int.calls k' _ _ need el.f0 _ _ (Kd.C_alloc (Kd.C_below HOA.out HB.out) _) HQA.out HX1.out).mono ?_; rintro e' wx ⟨rfl, ⟨nd, rfl⟩⟩)
                | ((with_reducible refine gate_builtin (b := .append) (xs := #[.tmp 68, .tmp 70]) rfl ?_); at_builtin; refine Kd.R_append k50 (w0 := wa) wa.heap.size rfl (.tmp 68) (.tmp 70) 33 50 (.agg #[(.int .i64 0), (.int .i64 0), (.int .i64 0), (.string ⟨#[]⟩)]) 40 rfl Try.underlying33 info50 rfl (by decide) (by omega) u13 (afterV (l0.take k) l1 need l2) el [.int .i64 el.f0, .int .i64 el.f1, .int .i64 el.f2, .string el.f3] (fun b => b ≠ B) (fun _ => False) rfl ?aX ?aP (fun _ hk => hk.elim) ?aF ?aO ?aB ?aS ?aL ?_; (case aX => (show (Value.slice (some ⟨wr.heap.size + 1, 0, none⟩) 1 1) = _; simp)); (case aP => exact k50_mkM _ _ _ el); (case aF => exact (fun q hq => by have := HM.out.lt; simp at hq; omega)); (case aO => exact Kd.R_drewN (Kd.R_alloc HO13.out _) _); (case aB => exact pw_below_drewN (HB.out.alloc HB.out.size _) _); (case aS => simp; have := HB.out.size; omega); (case aL => omega); intro v290 w19 ho hb hg hat; have n0_ := Aside0.mk hb; have n1_ := Aside0.mk ho; have n2_ := Aside0.mk (Cnt.grown ((HM.out.alloc _).drewN _) hg HOB.out); clear ho hb hg hat))
              go_roundw
              case rel => exact ⟨k + 1, by omega, by go_num, ⟨by rw [HSN.out, HT.out]; exact n1_.out⟩, n2_, n0_⟩
              case measure => simp [intOf]; omega
            · have HT := Aside0.mk (show turnG need l2 el = ⟨el.f0, el.f0, l2.getD q 0, el.f3⟩ by unfold turnG; rw [if_pos hc, hi])
              clear hc hi hr1
              have hq2 : q < l2.length := by have := HWH.out; omega
              obtain ⟨ad2, e2, p1⟩ := Kd.at_int HR2.out (q : Nat) (by omega) (by omega)
              replace p1 := (HBw.out.cell (World.block_lt_of_cell? w _ p1)).trans p1
              have ER : rd l2 ((q : Nat) : Int) = l2.getD q 0 := by unfold rd; rw [Int.toNat_natCast]
              rw [ER, Int.toNat_natCast] at p1
              generalize l2.getD q 0 = y at p1 HT
              clear ER
              subst e2
              have hq3 : (q : Int) < (l2.length : Int) := by omega
              have hq4 : 0 ≤ (q : Int) := by omega
              go_wp2_with (first
                | (go_at_call 55; refine (slices_Index_int_int.calls k' _ _ need el.f0 _ _ (Kd.C_alloc (Kd.C_below HOA.out HB.out) _) HQA.out HX1.out).mono ?_; rintro e' wx ⟨rfl, ⟨nd, rfl⟩⟩))
              have pb := World.block_lt_of_cell? wr _ p1
              have p2 := ((below_alloc (Below.refl wr.heap.size wr) (.cells #[.int .i64 el.f0, .int .i64 el.f1, .int .i64 el.f2, .string el.f3] 50)).cell pb).trans p1
              obtain ⟨W1, HW1⟩ : ∃ W1, Aside0 ((wr.alloc (.cells #[.int .i64 el.f0, .int .i64 el.f1, .int .i64 el.f2, .string el.f3] 50)).drewN nd = W1) := ⟨_, ⟨rfl⟩⟩
              have hblk : W1.heap[wr.heap.size]? = some (.cells #[.int .i64 el.f0, .int .i64 el.f1, .int .i64 el.f2, .string el.f3] 50 (0, 0)) := by rw [← HW1.out]; exact HA.out
              replace p2 : W1.cell? (ad2.add q) = some (.int .i64 y) := by rw [← HW1.out]; exact p2
              obtain ⟨b, HBB⟩ : ∃ b, Aside0 (wr.heap.size = b) := ⟨_, ⟨rfl⟩⟩
              rw [HBB.out] at hblk pb
              have p3 : ∀ v, (W1.setCell ⟨b, 1, none⟩ v).cell? (ad2.add q) = some (.int .i64 y) := fun v => (cell_far (by simp; omega) v).trans p2
              have z0 : W1.cell? ⟨b, 0, none⟩ = some (.int .i64 el.f0) := (blk_cell hblk 0).trans rfl
              have z1 : W1.cell? ⟨b, 1, none⟩ = some (.int .i64 el.f1) := (blk_cell hblk 1).trans rfl
              have z2 : W1.cell? ⟨b, 2, none⟩ = some (.int .i64 el.f2) := (blk_cell hblk 2).trans rfl
              have z3 : W1.cell? ⟨b, 3, none⟩ = some (.string el.f3) := (blk_cell hblk 3).trans rfl
              have y1 : W1.frozen? ⟨b, 1, none⟩ = false := blk_frozen hblk 1
              have y2 : W1.frozen? ⟨b, 2, none⟩ = false := blk_frozen hblk 2
              have HBK := Aside0.mk hblk
              have HBL := Aside0.mk (show b ≠ B from by have := HM.out.lt; have h2 := HBB.out; omega)
              have HGE := Aside0.mk (show wa.heap.size ≤ b by rw [← HBB.out]; exact HB.out.size)
              have HR1' := Aside0.mk (show Kd.R k50 50 W1 wa.heap.size (fun k => k ≠ B ∧ k < b) u13 (afterV (l0.take k) l1 need l2) by rw [← HW1.out]; exact Kd.R_drewN (Kd.R_alloc (Kd.R_mono (Kd.R_bound HO13.out) (fun k hk => ⟨hk.1, by rw [← HBB.out]; exact hk.2.2.1⟩)) _) _)
              have HM1 := Aside0.mk (show Cnt W1 B n (cntI l1) by rw [← HW1.out]; exact (HM.out.alloc _).drewN _)
              have HB1 := Aside0.mk (show Below wa.heap.size wa W1 by rw [← HW1.out]; exact pw_below_drewN (HB.out.alloc HB.out.size _) _)
              rw [HW1.out, HBB.out]
              clear p1 pb hblk
              go_region
              have HR2' := Aside0.mk (show Kd.R k50 50 ((W1.setCell ⟨b, 1, none⟩ (.int .i64 el.f0)).setCell ⟨b, 2, none⟩ (.int .i64 y)).drew wa.heap.size (fun b => b ≠ B) u13 (afterV (l0.take k) l1 need l2) from Kd.R_drew (Kd.R_mono (Kd.R_far (Kd.R_far HR1'.out (fun k hk e => by have := hk.2; simp at e; omega) _) (fun k hk e => by have := hk.2; simp at e; omega) _) (fun k hk => hk.1)))
              have HM2 := Aside0.mk (show Cnt ((W1.setCell ⟨b, 1, none⟩ (.int .i64 el.f0)).setCell ⟨b, 2, none⟩ (.int .i64 y)).drew B n (cntI l1) from (HM1.out.same (Below.heap_setCell W1 ⟨b, 1, none⟩ _ B (fun e => HBL.out e.symm))).same (Below.heap_setCell (W1.setCell ⟨b, 1, none⟩ (.int .i64 el.f0)) ⟨b, 2, none⟩ _ B (fun e => HBL.out e.symm)))
              have HB2 := Aside0.mk (show Below wa.heap.size wa ((W1.setCell ⟨b, 1, none⟩ (.int .i64 el.f0)).setCell ⟨b, 2, none⟩ (.int .i64 y)).drew from below_drew (below_set (below_set HB1.out HGE.out) HGE.out))
              have HS2 := Aside0.mk (show wa.heap.size ≤ ((W1.setCell ⟨b, 1, none⟩ (.int .i64 el.f0)).setCell ⟨b, 2, none⟩ (.int .i64 y)).drew.heap.size from HB2.out.size)
              have HF2 := Aside0.mk (show B < ((W1.setCell ⟨b, 1, none⟩ (.int .i64 el.f0)).setCell ⟨b, 2, none⟩ (.int .i64 y)).drew.heap.size from HM2.out.lt)
              have hsz : W1.heap.size = b + 1 := by rw [← HW1.out, ← HBB.out]; simp
              go_wp2_with ((with_reducible refine gate_builtin (b := .append) (xs := #[.tmp 68, .tmp 70]) rfl ?_); at_builtin; refine Kd.R_append k50 (w0 := wa) (W := ((W1.setCell ⟨b, 1, none⟩ (.int .i64 el.f0)).setCell ⟨b, 2, none⟩ (.int .i64 y)).drew) wa.heap.size rfl (.tmp 68) (.tmp 70) 33 50 (.agg #[(.int .i64 0), (.int .i64 0), (.int .i64 0), (.string ⟨#[]⟩)]) 40 rfl Try.underlying33 info50 rfl (by decide) (by omega) u13 (afterV (l0.take k) l1 need l2) ⟨el.f0, el.f0, y, el.f3⟩ [.int .i64 el.f0, .int .i64 el.f0, .int .i64 y, .string el.f3] (fun b => b ≠ B) (fun _ => False) rfl ?aX ?aP (fun _ hk => hk.elim) ?aF ?aO ?aB ?aS ?aL ?_; (case aX => (show (Value.slice (some ⟨b + 1, 0, none⟩) 1 1) = _; simp [hsz])); (case aP => exact k50_mkM _ _ _ ⟨el.f0, el.f0, y, el.f3⟩); (case aF => exact (fun q hq => by have := HF2.out; omega)); (case aO => exact HR2'.out); (case aB => exact HB2.out); (case aS => exact HS2.out); (case aL => omega); intro v290 w19 ho hb hg hat; have n0_ := Aside0.mk hb; have n1_ := Aside0.mk ho; have n2_ := Aside0.mk (Cnt.grown HM2.out hg HOB.out); clear ho hb hg hat)
              go_roundw
              case rel => exact ⟨k + 1, by omega, by go_num, ⟨by rw [HSN.out, HT.out]; exact n1_.out⟩, n2_, n0_⟩
              case measure => simp [intOf]; omega
        · have hke : k = l0.length := by omega
          subst hke
          rw [List.take_length] at HO13
          go_wp2_with fail
          go_ret2
          exact ⟨_, rfl, Kd.R_lower (Kd.R_mono HO13.out (fun _ _ => trivial)) HBC.out.size, below_step HBC.out HB.out⟩

set_option maxHeartbeats 1600000 in
set_option maxRecDepth 100000 in
theorem after_err (k : Nat) (A0 : Option Addr) (c0 : Nat) (l0 : List S50) (A1 : Option Addr) (c1 : Nat) (l1 : List Int) (A2 : Option Addr) (c2 : Nat) (l2 need : List Int) (e : Int) (w : World) (hr0 : Kd.C k50 w A0 l0.length l0) (hc0 : l0.length ≤ c0) (hr1 : Kd.C (Kd.int .i64) w A1 l1.length l1) (hc1 : l1.length ≤ c1)
    (hn : keep_Need.f k l0 l1 = some (need, e)) (he : e ≠ 0 ∨ l2.length ≠ need.length) :
    Calls Try.prog 42 #[.slice A0 l0.length c0, .slice A1 l1.length c1, .slice A2 l2.length c2] w fun e' w' => ∃ v0_ : Value, e' = .returned (.tuple #[v0_, .int .i64 (if e = 0 then 1 else e)]) ∧ Kd.R k50 50 w' w.heap.size (fun _ => True) v0_ [] ∧ Below w.heap.size w w' := by
  have HR0 := Aside0.mk hr0
  have HC0 := Aside0.mk hc0
  have HR1 := Aside0.mk hr1
  have HC1 := Aside0.mk hc1
  have HN := Aside0.mk hn
  clear hr0 hc0 hr1 hc1 hn
  by_cases h0 : e = 0
  · have hne : l2.length ≠ need.length := he.resolve_left (fun h => h h0)
    have hb1 : (l2.length != need.length) = true := by rw [bne_iff_ne]; exact hne
    have hb2 : ((l2.length : Int) != (need.length : Int)) = true := by rw [bne_iff_ne]; omega
    subst h0
    rw [if_pos rfl]
    clear he hne
    go_enter Try.func42, Try.ntmps42
    go_wp2_with (go_at_call 21; refine (keep_Need.calls k _ _ l0 _ _ l1 need 0 _ HR0.out HC0.out HR1.out HC1.out HN.out).mono ?_; rintro e wa ⟨va, rfl, hoa, hb⟩; obtain ⟨Aa, da, rfl, qa, ra⟩ := Kd.R_reads hoa; have HBC := Aside0.mk hb; clear hoa hb ra qa)
    go_ret2
    exact ⟨_, rfl, Kd.R_nil _ _ _ _ _, HBC.out⟩
  · have hb1 : (e == 0) = false := beq_eq_false_iff_ne.mpr h0
    have hb2 : (e != 0) = true := by rw [bne_iff_ne]; exact h0
    rw [if_neg h0]
    clear he h0
    go_enter Try.func42, Try.ntmps42
    go_wp2_with (go_at_call 21; refine (keep_Need.calls k _ _ l0 _ _ l1 need e _ HR0.out HC0.out HR1.out HC1.out HN.out).mono ?_; rintro e' wa ⟨va, rfl, hoa, hb⟩; obtain ⟨Aa, da, rfl, qa, ra⟩ := Kd.R_reads hoa; have HBC := Aside0.mk hb; clear hoa hb ra qa)
    go_ret2
    exact ⟨_, rfl, Kd.R_nil _ _ _ _ _, HBC.out⟩
end Go.Proofs.Yteamoejgpcognaa.PAll

-- from YteamoejgpcognaaPAllx58
-- Written by a program of this session (wip/tools/hookprint.py, over the print); Lean checks it.
namespace Go.Proofs.Yteamoejgpcognaa.PAll
open Go.RowKit Go.Proofs.YteamoejgpcognaaW.PrintWords Go.Proofs.YteamoejgpcognaaW.PrintLast Go.Proofs.YteamoejgpcognaaW.PrintMore
attribute [local go_sem] max2_int min2_int max_two min_two max_three min_three max_four min_four   -- for this text's walks alone
set_option linter.unusedVariables false
set_option linter.unusedSimpArgs false

/-! ### barqueref12_After: function 43 -/
mutual
def barqueref12_After.l0 : Nat → List (S50) → List Int → List Int → List Int → List (S50) → Int → Option ((List (S50)) × Int)
  | 0, _, _, _, _, _, _ => none
  | k + 1, x0, x1, x2, x8, x10, x11 => if x11 < (x0.length : Int) then (if 0 ≤ x11 then ((barqueref12_in.f k x1 ((rd_T50 x0 x11).f0)).bind fun t449 => (if t449 = true then (barqueref12_After.l1 k x0 x1 x2 x8 x10 x11 0 ((rd_T50 x0 x11).f0) ((rd_T50 x0 x11).f1) ((rd_T50 x0 x11).f2) ((rd_T50 x0 x11).f3)) else (barqueref12_After.l0 k x0 x1 x2 x8 x10 (wrap64 (x11 + 1))))) else (none)) else (some (x10, 0))
def barqueref12_After.l1 : Nat → List (S50) → List Int → List Int → List Int → List (S50) → Int → Int → Int → Int → Int → ByteArray → Option ((List (S50)) × Int)
  | 0, _, _, _, _, _, _, _, _, _, _, _ => none
  | k + 1, x0, x1, x2, x8, x10, x11, x13, x452000, x452001, x452002, x452003 => if x13 < (x8.length : Int) then (if 0 ≤ x13 then (if (rd x8 x13) = x452000 then (if x13 < (x2.length : Int) then (barqueref12_After.l1 k x0 x1 x2 x8 x10 x11 (wrap64 (x13 + 1)) x452000 x452000 (rd x2 x13) x452003) else (none)) else (barqueref12_After.l1 k x0 x1 x2 x8 x10 x11 (wrap64 (x13 + 1)) x452000 x452001 x452002 x452003)) else (none)) else (if x10.length < 3518437208883 then (barqueref12_After.l0 k x0 x1 x2 x8 (x10 ++ [(⟨x452000, x452001, x452002, x452003⟩ : S50)]) (wrap64 (x11 + 1))) else (none))
end
def barqueref12_After.f (k : Nat) (l0 : List (S50)) (l1 : List Int) (l2 : List Int) : Option ((List (S50)) × Int) := (barqueref12_Need.f k l0 l1).bind fun bt444 => (if bt444.2 = 0 then (if (bt444.1.length : Int) = (l2.length : Int) then (barqueref12_After.l0 k l0 l1 l2 bt444.1 ([] : List (S50)) 0) else (some (([] : List (S50)), 1))) else (some (([] : List (S50)), bt444.2)))
theorem barqueref12_After.mono_l : ∀ k, (∀ y0 y1 y2 y3 y4 y5, LeO (barqueref12_After.l0 k y0 y1 y2 y3 y4 y5) (barqueref12_After.l0 (k + 1) y0 y1 y2 y3 y4 y5)) ∧ (∀ y0 y1 y2 y3 y4 y5 y6 y7 y8 y9 y10, LeO (barqueref12_After.l1 k y0 y1 y2 y3 y4 y5 y6 y7 y8 y9 y10) (barqueref12_After.l1 (k + 1) y0 y1 y2 y3 y4 y5 y6 y7 y8 y9 y10))
  | 0 => ⟨fun _ _ _ _ _ _ r h => by simp [barqueref12_After.l0] at h, fun _ _ _ _ _ _ _ _ _ _ _ r h => by simp [barqueref12_After.l1] at h⟩
  | k + 1 => by
    obtain ⟨ih0, ih1⟩ := barqueref12_After.mono_l k
    refine ⟨?_, ?_⟩
    · intro y0 y1 y2 y3 y4 y5
      unfold barqueref12_After.l0
      repeat' first
      | (with_reducible exact ih0 _ _ _ _ _ _)
      | (with_reducible exact ih1 _ _ _ _ _ _ _ _ _ _ _)
      | (with_reducible exact barqueref12_Need.mono _ _ _)
      | (with_reducible exact barqueref12_in.mono _ _ _)
      | (with_reducible exact LeO.refl _)
      | (with_reducible exact LeO.none _)
      | (with_reducible refine LeO.ite ?_ ?_)
      | (with_reducible refine LeO.bind ?_ (fun _ => ?_))
      | exact ih0 _ _ _ _ _ _
      | exact ih1 _ _ _ _ _ _ _ _ _ _ _
      | exact barqueref12_Need.mono _ _ _
      | exact barqueref12_in.mono _ _ _
      | exact LeO.none _
      | refine LeO.ite ?_ ?_
      | refine LeO.bind ?_ (fun _ => ?_)
    · intro y0 y1 y2 y3 y4 y5 y6 y7 y8 y9 y10
      unfold barqueref12_After.l1
      repeat' first
      | (with_reducible exact ih0 _ _ _ _ _ _)
      | (with_reducible exact ih1 _ _ _ _ _ _ _ _ _ _ _)
      | (with_reducible exact barqueref12_Need.mono _ _ _)
      | (with_reducible exact barqueref12_in.mono _ _ _)
      | (with_reducible exact LeO.refl _)
      | (with_reducible exact LeO.none _)
      | (with_reducible refine LeO.ite ?_ ?_)
      | (with_reducible refine LeO.bind ?_ (fun _ => ?_))
      | exact ih0 _ _ _ _ _ _
      | exact ih1 _ _ _ _ _ _ _ _ _ _ _
      | exact barqueref12_Need.mono _ _ _
      | exact barqueref12_in.mono _ _ _
      | exact LeO.none _
      | refine LeO.ite ?_ ?_
      | refine LeO.bind ?_ (fun _ => ?_)
theorem barqueref12_After.mono : ∀ a0 a1 a2 k, LeO (barqueref12_After.f k a0 a1 a2) (barqueref12_After.f (k + 1) a0 a1 a2) := by
  intro a0 a1 a2 k
  obtain ⟨ih0, ih1⟩ := barqueref12_After.mono_l k
  unfold barqueref12_After.f
  repeat' first
      | (with_reducible exact ih0 _ _ _ _ _ _)
      | (with_reducible exact ih1 _ _ _ _ _ _ _ _ _ _ _)
      | (with_reducible exact barqueref12_Need.mono _ _ _)
      | (with_reducible exact barqueref12_in.mono _ _ _)
      | (with_reducible exact LeO.refl _)
      | (with_reducible exact LeO.none _)
      | (with_reducible refine LeO.ite ?_ ?_)
      | (with_reducible refine LeO.bind ?_ (fun _ => ?_))
      | exact ih0 _ _ _ _ _ _
      | exact ih1 _ _ _ _ _ _ _ _ _ _ _
      | exact barqueref12_Need.mono _ _ _
      | exact barqueref12_in.mono _ _ _
      | exact LeO.none _
      | refine LeO.ite ?_ ?_
      | refine LeO.bind ?_ (fun _ => ?_)
set_option maxHeartbeats 8000000 in
set_option maxRecDepth 100000 in
theorem barqueref12_After.calls (k : Nat) (A0 : Option Addr) (c0 : Nat) (l0 : List (S50)) (A1 : Option Addr) (c1 : Nat) (l1 : List Int) (A2 : Option Addr) (c2 : Nat) (l2 : List Int) (r1 : List (S50)) (r2 : Int) (w : World) (hr0 : Kd.C k50 w A0 l0.length l0) (hc0 : l0.length ≤ c0) (hr1 : Kd.C (Kd.int .i64) w A1 l1.length l1) (hc1 : l1.length ≤ c1) (hr2 : Kd.C (Kd.int .i64) w A2 l2.length l2) (hc2 : l2.length ≤ c2) (h : barqueref12_After.f k l0 l1 l2 = some (r1, r2)) :
    Calls Try.prog 43 #[.slice A0 l0.length c0, .slice A1 l1.length c1, .slice A2 l2.length c2] w fun e w' => ∃ v0_ : Value, e = .returned (.tuple #[v0_, .int .i64 r2]) ∧ Kd.R k50 50 w' w.heap.size (fun _ => True) v0_ r1 ∧ Below w.heap.size w w' := by
  have hu50 := Try.underlying50
  have HR0 := Aside0.mk hr0
  have HC0 := Aside0.mk hc0
  clear hr0 hc0
  have HR1 := Aside0.mk hr1
  have HC1 := Aside0.mk hc1
  clear hr1 hc1
  have HR2 := Aside0.mk hr2
  have HC2 := Aside0.mk hc2
  clear hr2 hc2
  have HB := Aside0.mk (Below.refl w.heap.size w)
  have H : ((barqueref12_Need.f k l0 l1).bind fun bt444 => (if bt444.2 = 0 then (if (bt444.1.length : Int) = (l2.length : Int) then (barqueref12_After.l0 k l0 l1 l2 bt444.1 ([] : List (S50)) 0) else (some (([] : List (S50)), 1))) else (some (([] : List (S50)), bt444.2)))) = some (r1, r2) := h
  clear h
  replace H := Option.bind_eq_some_iff.mp H
  obtain ⟨⟨t444, t445⟩, A40, H⟩ := H
  replace H : (if t445 = 0 then (if (t444.length : Int) = (l2.length : Int) then (barqueref12_After.l0 k l0 l1 l2 t444 ([] : List (S50)) 0) else (some (([] : List (S50)), 1))) else (some (([] : List (S50)), t445))) = some (r1, r2) := H
  have A4 := Aside0.mk A40
  clear A40
  by_cases c5 : t445 = 0
  · rw [if_pos c5] at H
    have c5b0 : (t445 == 0) = true := beq_iff_eq.mpr c5
    have c5b1 : (t445 != 0) = false := bne_eq_false_iff_eq.mpr c5
    clear c5
    by_cases c6 : (t444.length : Int) = (l2.length : Int)
    · rw [if_pos c6] at H
      have c6b0 : ((t444.length : Int) == (l2.length : Int)) = true := beq_iff_eq.mpr c6
      have c6b1 : ((t444.length : Int) != (l2.length : Int)) = false := bne_eq_false_iff_eq.mpr c6
      have c6b2 : (t444.length == l2.length) = true := by first | simpa using c6 | (simp at c6 ⊢; omega)
      clear c6
      have H' := Aside0.mk H
      clear H
      go_enter Try.func43, Try.ntmps43
      go_wp2_with (first | (go_at_call 22; (with_reducible refine (barqueref12_Need.calls k _ _ l0 _ _ l1 t444 t445 _ ?side1 ?side2 ?side3 ?side4 A4.out).mono ?_); (case side1 => repeat (first | exact HR0.out | (with_reducible refine Kd.C_alloc ?_ _) | (with_reducible refine Kd.C_drewN ?_ _) | (with_reducible refine Kd.C_drew ?_))); (case side2 => exact HC0.out); (case side3 => repeat (first | exact HR1.out | (with_reducible refine Kd.C_alloc ?_ _) | (with_reducible refine Kd.C_drewN ?_ _) | (with_reducible refine Kd.C_drew ?_))); (case side4 => exact HC1.out); rintro e w7 ⟨v446, rfl, ho0, hb⟩; have n0_ := Aside0.mk (Kd.R_lower ho0 (below_size (by repeat (first | (with_reducible first | exact HB.out | apply below_alloc | apply pw_below_drewN | apply below_drew1) | exact HB.out)))); have n1_ := Aside0.mk (below_step (by repeat (first | (with_reducible first | exact HB.out | apply below_alloc | apply pw_below_drewN | apply below_drew1) | exact HB.out)) hb); clear HB; have HO447 := n0_; have HB := n1_; clear n0_ n1_; (try clear hb); (try clear hb2); (try clear hk); (try clear hi); (try clear ho0); obtain ⟨Ao8, co8, eo8⟩ := Kd.R_slice HO447.out; subst eo8))
      repeat (go_quiet (first | (go_at_call 22; (with_reducible refine (barqueref12_Need.calls k _ _ l0 _ _ l1 t444 t445 _ ?side1 ?side2 ?side3 ?side4 A4.out).mono ?_); (case side1 => repeat (first | exact HR0.out | (with_reducible refine Kd.C_alloc ?_ _) | (with_reducible refine Kd.C_drewN ?_ _) | (with_reducible refine Kd.C_drew ?_))); (case side2 => exact HC0.out); (case side3 => repeat (first | exact HR1.out | (with_reducible refine Kd.C_alloc ?_ _) | (with_reducible refine Kd.C_drewN ?_ _) | (with_reducible refine Kd.C_drew ?_))); (case side4 => exact HC1.out); rintro e w7 ⟨v446, rfl, ho0, hb⟩; have n0_ := Aside0.mk (Kd.R_lower ho0 (below_size (by repeat (first | (with_reducible first | exact HB.out | apply below_alloc | apply pw_below_drewN | apply below_drew1) | exact HB.out)))); have n1_ := Aside0.mk (below_step (by repeat (first | (with_reducible first | exact HB.out | apply below_alloc | apply pw_below_drewN | apply below_drew1) | exact HB.out)) hb); clear HB; have HO447 := n0_; have HB := n1_; clear n0_ n1_; (try clear hb); (try clear hb2); (try clear hk); (try clear hi); (try clear ho0); obtain ⟨Ao8, co8, eo8⟩ := Kd.R_slice HO447.out; subst eo8)); try go_wp2_with (first | (go_at_call 22; (with_reducible refine (barqueref12_Need.calls k _ _ l0 _ _ l1 t444 t445 _ ?side1 ?side2 ?side3 ?side4 A4.out).mono ?_); (case side1 => repeat (first | exact HR0.out | (with_reducible refine Kd.C_alloc ?_ _) | (with_reducible refine Kd.C_drewN ?_ _) | (with_reducible refine Kd.C_drew ?_))); (case side2 => exact HC0.out); (case side3 => repeat (first | exact HR1.out | (with_reducible refine Kd.C_alloc ?_ _) | (with_reducible refine Kd.C_drewN ?_ _) | (with_reducible refine Kd.C_drew ?_))); (case side4 => exact HC1.out); rintro e w7 ⟨v446, rfl, ho0, hb⟩; have n0_ := Aside0.mk (Kd.R_lower ho0 (below_size (by repeat (first | (with_reducible first | exact HB.out | apply below_alloc | apply pw_below_drewN | apply below_drew1) | exact HB.out)))); have n1_ := Aside0.mk (below_step (by repeat (first | (with_reducible first | exact HB.out | apply below_alloc | apply pw_below_drewN | apply below_drew1) | exact HB.out)) hb); clear HB; have HO447 := n0_; have HB := n1_; clear n0_ n1_; (try clear hb); (try clear hb2); (try clear hk); (try clear hi); (try clear ho0); obtain ⟨Ao8, co8, eo8⟩ := Kd.R_slice HO447.out; subst eo8)))
      go_loopg [10, 11] k (fun kq v10 v11 w' => ∃ (x10_1 : List (S50)) (x11_1 : Int), v11 = .int .i64 x11_1 ∧ Aside0 (barqueref12_After.l0 kq l0 l1 l2 t444 x10_1 x11_1 = some (r1, r2)) ∧ Aside0 (kq ≤ k) ∧ Aside0 (Kd.R (Kd.int .i64) 3 w' w.heap.size (fun _ => True) (.slice Ao8 t444.length co8) t444) ∧ Aside0 (Kd.R k50 50 w' w.heap.size (fun _ => True) v10 x10_1) ∧ Aside0 (Below w.heap.size w w'))
      case atStart => exact ⟨(([] : List (S50))), (0), (by first | rfl | (simp; done) | (simp [*]; done)), H', ⟨Nat.le_refl _⟩, ⟨by (with_reducible repeat (first | apply Kd.R_alloc | apply Kd.R_drewN | apply Kd.R_drew)); exact HO447.out⟩, ⟨by first | exact Kd.R_nil _ _ _ _ _ | exact Kd.N_nil _ _ _ _ _ | exact Kd.V_nil _ _ _ _ _ | exact Kd.Q_nil _ _ _ _ _ | exact Kd.S_nil _ _ _ _ _⟩, ⟨by repeat (first | (with_reducible first | exact HB.out | apply below_alloc | apply pw_below_drewN | apply below_drew1) | exact HB.out)⟩⟩
      case round =>
        clear H'
        try clear c1
        try clear c2
        try clear p2
        try clear c4
        try clear c5
        try clear c5b0
        try clear c5b1
        try clear c6
        try clear c6b0
        try clear c6b1
        try clear c6b2
        obtain ⟨x10_1, x11_1, rfl, HA, HK1, HO_8, HO_10, HB⟩ := hrel
        cases gk with
        | zero => exact absurd HA.out (by simp [barqueref12_After.l0])
        | succ k1 =>
          have H := HA.out
          clear HA
          simp only [barqueref12_After.l0] at H
          by_cases c9 : x11_1 < (l0.length : Int)
          · rw [if_pos c9] at H
            have c9b0 : decide (x11_1 < (l0.length : Int)) = true := decide_eq_true c9
            clear c9
            by_cases c10 : 0 ≤ x11_1
            · rw [if_pos c10] at H
              have c10b0 : decide (0 ≤ x11_1) = true := decide_eq_true c10
              clear c10
              replace H := Option.bind_eq_some_iff.mp H
              obtain ⟨t449, A110, H⟩ := H
              replace H : (if t449 = true then (barqueref12_After.l1 k1 l0 l1 l2 t444 x10_1 x11_1 0 ((rd_T50 l0 x11_1).f0) ((rd_T50 l0 x11_1).f1) ((rd_T50 l0 x11_1).f2) ((rd_T50 l0 x11_1).f3)) else (barqueref12_After.l0 k1 l0 l1 l2 t444 x10_1 (wrap64 (x11_1 + 1)))) = some (r1, r2) := H
              have A11 := Aside0.mk A110
              clear A110
              by_cases c12 : t449 = true
              · subst c12
                have H1 : (barqueref12_After.l1 k1 l0 l1 l2 t444 x10_1 x11_1 0 ((rd_T50 l0 x11_1).f0) ((rd_T50 l0 x11_1).f1) ((rd_T50 l0 x11_1).f2) ((rd_T50 l0 x11_1).f3)) = some (r1, r2) := by rw [if_pos rfl] at H; exact H
                clear H
                have H := H1
                clear H1
                have H' := Aside0.mk H
                clear H
                have p448 : 0 ≤ (x11_1 : Int) := of_decide_eq_true (by first | (with_reducible assumption) | assumption)
                have q448 : x11_1 < (l0.length : Int) := of_decide_eq_true (by first | (with_reducible assumption) | assumption)
                obtain ⟨ad448, e448, hx448_0, hx448_1, hx448_2, hx448_3⟩ := at_T50 HR0.out x11_1 p448 q448
                cases e448
                replace hx448_0 := (HB.out.cell (World.block_lt_of_cell? w _ hx448_0)).trans hx448_0
                replace hx448_1 := (HB.out.cell (World.block_lt_of_cell? w _ hx448_1)).trans hx448_1
                replace hx448_2 := (HB.out.cell (World.block_lt_of_cell? w _ hx448_2)).trans hx448_2
                replace hx448_3 := (HB.out.cell (World.block_lt_of_cell? w _ hx448_3)).trans hx448_3
                replace p448 := eq_true p448
                replace q448 := eq_true q448
                go_wp2_with (first | (go_at_call 49; (with_reducible refine (barqueref12_in.calls k1 _ _ l1 ((rd_T50 l0 x11_1).f0) true _ ?side1 ?side2 A11.out).mono ?_); (case side1 => repeat (first | exact (Kd.C_below HR1.out HB.out) | (with_reducible refine Kd.C_alloc ?_ _) | (with_reducible refine Kd.C_drewN ?_ _) | (with_reducible refine Kd.C_drew ?_))); (case side2 => exact HC1.out); rintro e w' ⟨rfl, ⟨nd, rfl⟩⟩; (try first | exact ⟨rfl, _, World.drewN_drewN _ _ _⟩ | exact ⟨rfl, _, Eq.trans (World.drewN_drewN _ _ _) (congrArg (World.drewN _) (Nat.add_assoc _ _ _))⟩); have p450 : 0 ≤ (x11_1 : Int) := of_decide_eq_true (by first | (with_reducible assumption) | assumption); have q450 : x11_1 < (l0.length : Int) := of_decide_eq_true (by first | (with_reducible assumption) | assumption); obtain ⟨ad450, e450, hx450_0, hx450_1, hx450_2, hx450_3⟩ := at_T50 HR0.out x11_1 p450 q450; obtain rfl : ad448 = ad450 := (by injection e450); replace hx450_0 := (HB.out.cell (World.block_lt_of_cell? w _ hx450_0)).trans hx450_0; replace hx450_1 := (HB.out.cell (World.block_lt_of_cell? w _ hx450_1)).trans hx450_1; replace hx450_2 := (HB.out.cell (World.block_lt_of_cell? w _ hx450_2)).trans hx450_2; replace hx450_3 := (HB.out.cell (World.block_lt_of_cell? w _ hx450_3)).trans hx450_3; replace p450 := eq_true p450; replace q450 := eq_true q450) | ((with_reducible refine gate_dst (N := 12) rfl ?_); refine box_event ?hg (N := 12) ?hd (cs := #[.int .i64 0, .int .i64 0, .int .i64 0, .string (⟨#[]⟩ : ByteArray)]) (t := 50) ?hr ?_; (case hd => rfl); (case hg => rfl); (case hr => first | (go_simp; done) | (go_simp; rfl)); intro gb451 hg w13 hbox hb; have n0_ := Aside0.mk (Kd.R_below (by (with_reducible repeat (first | apply Kd.R_alloc | apply Kd.R_drewN | apply Kd.R_drew)); exact HO_8.out) hb); have n1_ := Aside0.mk (Kd.R_below (Kd.R_elderB (by (with_reducible repeat (first | apply Kd.R_alloc | apply Kd.R_drewN | apply Kd.R_drew)); exact HO_10.out) gb451 (Nat.le_of_eq hg.symm)) hb); have n2_ := Aside0.mk (below_step (by repeat (first | (with_reducible first | exact HB.out | apply below_alloc | apply pw_below_drewN | apply below_drew1) | exact HB.out)) hb); have n3_ := Aside0.mk (hbox); have n4_ := Aside0.mk ((by rw [hg]; exact (below_size (by repeat (first | (with_reducible first | exact HB.out | apply below_alloc | apply pw_below_drewN | apply below_drew1) | exact HB.out))) : w.heap.size ≤ gb451)); have n5_ := Aside0.mk ((by rw [hg]; exact (below_size (by repeat (first | (with_reducible first | exact HB.out | apply below_alloc | apply pw_below_drewN | apply below_drew1) | exact HB.out))) : w.heap.size ≤ gb451)); clear HO_8; clear HO_10; clear HB; have HO_8 := n0_; have HO_10 := n1_; have HB := n2_; have BK451 := n3_; have GW451 := n4_; have GE451 := n5_; clear n0_ n1_ n2_ n3_ n4_ n5_; clear hb hbox hg; have hcz14_0 : w13.cell? ⟨gb451, 0, none⟩ = some (.int .i64 0) := (blk_cell BK451.out 0).trans rfl; have hcz14_1 : w13.cell? ⟨gb451, 1, none⟩ = some (.int .i64 0) := (blk_cell BK451.out 1).trans rfl; have hcz14_2 : w13.cell? ⟨gb451, 2, none⟩ = some (.int .i64 0) := (blk_cell BK451.out 2).trans rfl; have hcz14_3 : w13.cell? ⟨gb451, 3, none⟩ = some (.string (⟨#[]⟩ : ByteArray)) := (blk_cell BK451.out 3).trans rfl; have hfz14_0 := blk_frozen BK451.out 0; have hfz14_1 := blk_frozen BK451.out 1; have hfz14_2 := blk_frozen BK451.out 2; have hfz14_3 := blk_frozen BK451.out 3))
                repeat (go_quiet (first | (go_at_call 49; (with_reducible refine (barqueref12_in.calls k1 _ _ l1 ((rd_T50 l0 x11_1).f0) true _ ?side1 ?side2 A11.out).mono ?_); (case side1 => repeat (first | exact (Kd.C_below HR1.out HB.out) | (with_reducible refine Kd.C_alloc ?_ _) | (with_reducible refine Kd.C_drewN ?_ _) | (with_reducible refine Kd.C_drew ?_))); (case side2 => exact HC1.out); rintro e w' ⟨rfl, ⟨nd, rfl⟩⟩; (try first | exact ⟨rfl, _, World.drewN_drewN _ _ _⟩ | exact ⟨rfl, _, Eq.trans (World.drewN_drewN _ _ _) (congrArg (World.drewN _) (Nat.add_assoc _ _ _))⟩); have p450 : 0 ≤ (x11_1 : Int) := of_decide_eq_true (by first | (with_reducible assumption) | assumption); have q450 : x11_1 < (l0.length : Int) := of_decide_eq_true (by first | (with_reducible assumption) | assumption); obtain ⟨ad450, e450, hx450_0, hx450_1, hx450_2, hx450_3⟩ := at_T50 HR0.out x11_1 p450 q450; obtain rfl : ad448 = ad450 := (by injection e450); replace hx450_0 := (HB.out.cell (World.block_lt_of_cell? w _ hx450_0)).trans hx450_0; replace hx450_1 := (HB.out.cell (World.block_lt_of_cell? w _ hx450_1)).trans hx450_1; replace hx450_2 := (HB.out.cell (World.block_lt_of_cell? w _ hx450_2)).trans hx450_2; replace hx450_3 := (HB.out.cell (World.block_lt_of_cell? w _ hx450_3)).trans hx450_3; replace p450 := eq_true p450; replace q450 := eq_true q450) | ((with_reducible refine gate_dst (N := 12) rfl ?_); refine box_event ?hg (N := 12) ?hd (cs := #[.int .i64 0, .int .i64 0, .int .i64 0, .string (⟨#[]⟩ : ByteArray)]) (t := 50) ?hr ?_; (case hd => rfl); (case hg => rfl); (case hr => first | (go_simp; done) | (go_simp; rfl)); intro gb451 hg w13 hbox hb; have n0_ := Aside0.mk (Kd.R_below (by (with_reducible repeat (first | apply Kd.R_alloc | apply Kd.R_drewN | apply Kd.R_drew)); exact HO_8.out) hb); have n1_ := Aside0.mk (Kd.R_below (Kd.R_elderB (by (with_reducible repeat (first | apply Kd.R_alloc | apply Kd.R_drewN | apply Kd.R_drew)); exact HO_10.out) gb451 (Nat.le_of_eq hg.symm)) hb); have n2_ := Aside0.mk (below_step (by repeat (first | (with_reducible first | exact HB.out | apply below_alloc | apply pw_below_drewN | apply below_drew1) | exact HB.out)) hb); have n3_ := Aside0.mk (hbox); have n4_ := Aside0.mk ((by rw [hg]; exact (below_size (by repeat (first | (with_reducible first | exact HB.out | apply below_alloc | apply pw_below_drewN | apply below_drew1) | exact HB.out))) : w.heap.size ≤ gb451)); have n5_ := Aside0.mk ((by rw [hg]; exact (below_size (by repeat (first | (with_reducible first | exact HB.out | apply below_alloc | apply pw_below_drewN | apply below_drew1) | exact HB.out))) : w.heap.size ≤ gb451)); clear HO_8; clear HO_10; clear HB; have HO_8 := n0_; have HO_10 := n1_; have HB := n2_; have BK451 := n3_; have GW451 := n4_; have GE451 := n5_; clear n0_ n1_ n2_ n3_ n4_ n5_; clear hb hbox hg; have hcz14_0 : w13.cell? ⟨gb451, 0, none⟩ = some (.int .i64 0) := (blk_cell BK451.out 0).trans rfl; have hcz14_1 : w13.cell? ⟨gb451, 1, none⟩ = some (.int .i64 0) := (blk_cell BK451.out 1).trans rfl; have hcz14_2 : w13.cell? ⟨gb451, 2, none⟩ = some (.int .i64 0) := (blk_cell BK451.out 2).trans rfl; have hcz14_3 : w13.cell? ⟨gb451, 3, none⟩ = some (.string (⟨#[]⟩ : ByteArray)) := (blk_cell BK451.out 3).trans rfl; have hfz14_0 := blk_frozen BK451.out 0; have hfz14_1 := blk_frozen BK451.out 1; have hfz14_2 := blk_frozen BK451.out 2; have hfz14_3 := blk_frozen BK451.out 3)); try go_wp2_with (first | (go_at_call 49; (with_reducible refine (barqueref12_in.calls k1 _ _ l1 ((rd_T50 l0 x11_1).f0) true _ ?side1 ?side2 A11.out).mono ?_); (case side1 => repeat (first | exact (Kd.C_below HR1.out HB.out) | (with_reducible refine Kd.C_alloc ?_ _) | (with_reducible refine Kd.C_drewN ?_ _) | (with_reducible refine Kd.C_drew ?_))); (case side2 => exact HC1.out); rintro e w' ⟨rfl, ⟨nd, rfl⟩⟩; (try first | exact ⟨rfl, _, World.drewN_drewN _ _ _⟩ | exact ⟨rfl, _, Eq.trans (World.drewN_drewN _ _ _) (congrArg (World.drewN _) (Nat.add_assoc _ _ _))⟩); have p450 : 0 ≤ (x11_1 : Int) := of_decide_eq_true (by first | (with_reducible assumption) | assumption); have q450 : x11_1 < (l0.length : Int) := of_decide_eq_true (by first | (with_reducible assumption) | assumption); obtain ⟨ad450, e450, hx450_0, hx450_1, hx450_2, hx450_3⟩ := at_T50 HR0.out x11_1 p450 q450; obtain rfl : ad448 = ad450 := (by injection e450); replace hx450_0 := (HB.out.cell (World.block_lt_of_cell? w _ hx450_0)).trans hx450_0; replace hx450_1 := (HB.out.cell (World.block_lt_of_cell? w _ hx450_1)).trans hx450_1; replace hx450_2 := (HB.out.cell (World.block_lt_of_cell? w _ hx450_2)).trans hx450_2; replace hx450_3 := (HB.out.cell (World.block_lt_of_cell? w _ hx450_3)).trans hx450_3; replace p450 := eq_true p450; replace q450 := eq_true q450) | ((with_reducible refine gate_dst (N := 12) rfl ?_); refine box_event ?hg (N := 12) ?hd (cs := #[.int .i64 0, .int .i64 0, .int .i64 0, .string (⟨#[]⟩ : ByteArray)]) (t := 50) ?hr ?_; (case hd => rfl); (case hg => rfl); (case hr => first | (go_simp; done) | (go_simp; rfl)); intro gb451 hg w13 hbox hb; have n0_ := Aside0.mk (Kd.R_below (by (with_reducible repeat (first | apply Kd.R_alloc | apply Kd.R_drewN | apply Kd.R_drew)); exact HO_8.out) hb); have n1_ := Aside0.mk (Kd.R_below (Kd.R_elderB (by (with_reducible repeat (first | apply Kd.R_alloc | apply Kd.R_drewN | apply Kd.R_drew)); exact HO_10.out) gb451 (Nat.le_of_eq hg.symm)) hb); have n2_ := Aside0.mk (below_step (by repeat (first | (with_reducible first | exact HB.out | apply below_alloc | apply pw_below_drewN | apply below_drew1) | exact HB.out)) hb); have n3_ := Aside0.mk (hbox); have n4_ := Aside0.mk ((by rw [hg]; exact (below_size (by repeat (first | (with_reducible first | exact HB.out | apply below_alloc | apply pw_below_drewN | apply below_drew1) | exact HB.out))) : w.heap.size ≤ gb451)); have n5_ := Aside0.mk ((by rw [hg]; exact (below_size (by repeat (first | (with_reducible first | exact HB.out | apply below_alloc | apply pw_below_drewN | apply below_drew1) | exact HB.out))) : w.heap.size ≤ gb451)); clear HO_8; clear HO_10; clear HB; have HO_8 := n0_; have HO_10 := n1_; have HB := n2_; have BK451 := n3_; have GW451 := n4_; have GE451 := n5_; clear n0_ n1_ n2_ n3_ n4_ n5_; clear hb hbox hg; have hcz14_0 : w13.cell? ⟨gb451, 0, none⟩ = some (.int .i64 0) := (blk_cell BK451.out 0).trans rfl; have hcz14_1 : w13.cell? ⟨gb451, 1, none⟩ = some (.int .i64 0) := (blk_cell BK451.out 1).trans rfl; have hcz14_2 : w13.cell? ⟨gb451, 2, none⟩ = some (.int .i64 0) := (blk_cell BK451.out 2).trans rfl; have hcz14_3 : w13.cell? ⟨gb451, 3, none⟩ = some (.string (⟨#[]⟩ : ByteArray)) := (blk_cell BK451.out 3).trans rfl; have hfz14_0 := blk_frozen BK451.out 0; have hfz14_1 := blk_frozen BK451.out 1; have hfz14_2 := blk_frozen BK451.out 2; have hfz14_3 := blk_frozen BK451.out 3)))
                go_loopg [13] k1 (fun kq v13 w' => ∃ (x13_2 : Int) (x452001_2 : Int) (x452002_2 : Int), v13 = .int .i64 x13_2 ∧ Aside0 (barqueref12_After.l1 kq l0 l1 l2 t444 x10_1 x11_1 x13_2 ((rd_T50 l0 x11_1).f0) x452001_2 x452002_2 ((rd_T50 l0 x11_1).f3) = some (r1, r2)) ∧ Aside0 (kq ≤ k1) ∧ Aside0 (Kd.R (Kd.int .i64) 3 w' w.heap.size (fun _ => True) (.slice Ao8 t444.length co8) t444) ∧ Aside0 (Kd.R k50 50 w' w.heap.size (fun k_ => k_ ≠ gb451) u10 x10_1) ∧ Aside0 (w'.heap[gb451]? = some (.cells #[.int .i64 ((rd_T50 l0 x11_1).f0), .int .i64 x452001_2, .int .i64 x452002_2, .string ((rd_T50 l0 x11_1).f3)] 50 (0, 0))) ∧ Aside0 (Below w.heap.size w w'))
                case atStart => exact ⟨(0), ((rd_T50 l0 x11_1).f1), ((rd_T50 l0 x11_1).f2), (by first | rfl | (simp; done) | (simp [*]; done)), H', ⟨Nat.le_refl _⟩, ⟨by (with_reducible repeat (first | apply Kd.R_alloc | apply Kd.R_drewN | apply Kd.R_drew)); exact Kd.R_mono (Kd.R_far (p := ⟨gb451, 3, none⟩) (Kd.R_far (p := ⟨gb451, 2, none⟩) (Kd.R_far (p := ⟨gb451, 1, none⟩) (Kd.R_far (p := ⟨gb451, 0, none⟩) (Kd.R_types HO_8.out BK451.out (by decide)) (fun _ hk => hk.2) (.int .i64 ((rd_T50 l0 x11_1).f0))) (fun _ hk => hk.2) (.int .i64 ((rd_T50 l0 x11_1).f1))) (fun _ hk => hk.2) (.int .i64 ((rd_T50 l0 x11_1).f2))) (fun _ hk => hk.2) (.string ((rd_T50 l0 x11_1).f3))) (fun _ hk => trivial)⟩, ⟨by (with_reducible repeat (first | apply Kd.R_alloc | apply Kd.R_drewN | apply Kd.R_drew)); exact Kd.R_mono (Kd.R_far (p := ⟨gb451, 3, none⟩) (Kd.R_far (p := ⟨gb451, 2, none⟩) (Kd.R_far (p := ⟨gb451, 1, none⟩) (Kd.R_far (p := ⟨gb451, 0, none⟩) (Kd.R_mono HO_10.out (fun k_ hk => (⟨hk, hk.2⟩ : _ ∧ k_ ≠ gb451))) (fun _ hk => hk.2) (.int .i64 ((rd_T50 l0 x11_1).f0))) (fun _ hk => hk.2) (.int .i64 ((rd_T50 l0 x11_1).f1))) (fun _ hk => hk.2) (.int .i64 ((rd_T50 l0 x11_1).f2))) (fun _ hk => hk.2) (.string ((rd_T50 l0 x11_1).f3))) (fun _ hk => hk.1.2)⟩, ⟨by (with_reducible repeat (first | refine blk_drewN ?_ _ | refine blk_drew ?_ | refine blk_alloc ?_ _)); refine blk_put (cs := #[.int .i64 ((rd_T50 l0 x11_1).f0), .int .i64 ((rd_T50 l0 x11_1).f1), .int .i64 ((rd_T50 l0 x11_1).f2), .string (⟨#[]⟩ : ByteArray)]) ?_ 3 _ rfl; (with_reducible repeat (first | refine blk_drewN ?_ _ | refine blk_drew ?_ | refine blk_alloc ?_ _)); refine blk_put (cs := #[.int .i64 ((rd_T50 l0 x11_1).f0), .int .i64 ((rd_T50 l0 x11_1).f1), .int .i64 0, .string (⟨#[]⟩ : ByteArray)]) ?_ 2 _ rfl; (with_reducible repeat (first | refine blk_drewN ?_ _ | refine blk_drew ?_ | refine blk_alloc ?_ _)); refine blk_put (cs := #[.int .i64 ((rd_T50 l0 x11_1).f0), .int .i64 0, .int .i64 0, .string (⟨#[]⟩ : ByteArray)]) ?_ 1 _ rfl; (with_reducible repeat (first | refine blk_drewN ?_ _ | refine blk_drew ?_ | refine blk_alloc ?_ _)); refine blk_put (cs := #[.int .i64 0, .int .i64 0, .int .i64 0, .string (⟨#[]⟩ : ByteArray)]) ?_ 0 _ rfl; (with_reducible repeat (first | refine blk_drewN ?_ _ | refine blk_drew ?_ | refine blk_alloc ?_ _)); exact BK451.out⟩, ⟨by repeat (first | (with_reducible first | exact HB.out | apply below_alloc | apply pw_below_drewN | apply below_drew1 | refine below_set ?_ GE451.out) | exact HB.out)⟩⟩
                case round =>
                  clear H'
                  try clear c1
                  try clear c2
                  try clear p2
                  try clear c4
                  try clear p4
                  try clear q4
                  try clear hx4
                  try clear c5
                  try clear c5b0
                  try clear c5b1
                  try clear c6
                  try clear c6b0
                  try clear c6b1
                  try clear c6b2
                  try clear p6
                  try clear c9
                  try clear c9b0
                  try clear c10
                  try clear c10b0
                  try clear c12
                  try clear hcz14_0
                  try clear hcz14_1
                  try clear hcz14_2
                  try clear hcz14_3
                  try clear hfz14_0
                  try clear hfz14_1
                  try clear hfz14_2
                  try clear hfz14_3
                  try clear hx448_0
                  try clear hx448_1
                  try clear hx448_2
                  try clear hx448_3
                  try clear hx450_0
                  try clear hx450_1
                  try clear hx450_2
                  try clear hx450_3
                  try clear p2
                  try clear p448
                  try clear p450
                  try clear q448
                  try clear q450
                  obtain ⟨x13_2, x452001_2, x452002_2, rfl, HA, HK2, HO_8, HO_10, BK451, HB⟩ := hrel
                  cases gk with
                  | zero => exact absurd HA.out (by simp [barqueref12_After.l1])
                  | succ k2 =>
                    have H := HA.out
                    clear HA
                    simp only [barqueref12_After.l1] at H
                    by_cases c15 : x13_2 < (t444.length : Int)
                    · rw [if_pos c15] at H
                      have c15b0 : decide (x13_2 < (t444.length : Int)) = true := decide_eq_true c15
                      clear c15
                      by_cases c16 : 0 ≤ x13_2
                      · rw [if_pos c16] at H
                        have c16b0 : decide (0 ≤ x13_2) = true := decide_eq_true c16
                        clear c16
                        by_cases c17 : (rd t444 x13_2) = ((rd_T50 l0 x11_1).f0)
                        · rw [if_pos c17] at H
                          have c17b0 : ((rd t444 x13_2) == ((rd_T50 l0 x11_1).f0)) = true := beq_iff_eq.mpr c17
                          have c17b1 : ((rd t444 x13_2) != ((rd_T50 l0 x11_1).f0)) = false := bne_eq_false_iff_eq.mpr c17
                          clear c17
                          by_cases c18 : x13_2 < (l2.length : Int)
                          · rw [if_pos c18] at H
                            have c18b0 : decide (x13_2 < (l2.length : Int)) = true := decide_eq_true c18
                            clear c18
                            have H' := Aside0.mk H
                            clear H
                            have p452 : 0 ≤ (x13_2 : Int) := of_decide_eq_true (by first | (with_reducible assumption) | assumption)
                            have q452 : x13_2 < (t444.length : Int) := of_decide_eq_true (by first | (with_reducible assumption) | assumption)
                            obtain ⟨ad452, e452, hx452_0⟩ := Kd.at_int (Kd.R_reads' HO_8.out).2.2 x13_2 p452 q452
                            cases e452
                            replace p452 := eq_true p452
                            replace q452 := eq_true q452
                            have hcz19_0 : wr.cell? ⟨gb451, 0, none⟩ = some (.int .i64 ((rd_T50 l0 x11_1).f0)) := (blk_cell BK451.out 0).trans rfl
                            have hcz19_1 : wr.cell? ⟨gb451, 1, none⟩ = some (.int .i64 x452001_2) := (blk_cell BK451.out 1).trans rfl
                            have hcz19_2 : wr.cell? ⟨gb451, 2, none⟩ = some (.int .i64 x452002_2) := (blk_cell BK451.out 2).trans rfl
                            have hcz19_3 : wr.cell? ⟨gb451, 3, none⟩ = some (.string ((rd_T50 l0 x11_1).f3)) := (blk_cell BK451.out 3).trans rfl
                            have hfz19_0 := blk_frozen BK451.out 0
                            have hfz19_1 := blk_frozen BK451.out 1
                            have hfz19_2 := blk_frozen BK451.out 2
                            have hfz19_3 := blk_frozen BK451.out 3
                            have p453 : 0 ≤ (x13_2 : Int) := of_decide_eq_true (by first | (with_reducible assumption) | assumption)
                            have q453 : x13_2 < (l2.length : Int) := of_decide_eq_true (by first | (with_reducible assumption) | assumption)
                            obtain ⟨ad453, e453, hx453_0⟩ := Kd.at_int HR2.out x13_2 p453 q453
                            cases e453
                            have hn453_0 : ad453.block ≠ gb451 := Nat.ne_of_lt (Nat.lt_of_lt_of_le (by have := World.block_lt_of_cell? _ _ hx453_0; first | rwa [add_block] at this | exact this) GW451.out)
                            replace hx453_0 := (HB.out.cell (World.block_lt_of_cell? w _ hx453_0)).trans hx453_0
                            replace hx453_0 := (cell_far (p := ⟨gb451, 1, none⟩) (by first | (rw [add_block]; exact hn453_0) | (show (Addr.add _ _).block ≠ _; rw [add_block]; exact hn453_0) | exact hn453_0) (.int .i64 ((rd_T50 l0 x11_1).f0))).trans hx453_0
                            (try have hy453_0 := fun (n_ : Nat) => (show (((wr.drewN n_).setCell ⟨gb451, 1, none⟩ (.int .i64 ((rd_T50 l0 x11_1).f0)))).cell? _ = some _ from hx453_0))
                            clear hn453_0
                            replace p453 := eq_true p453
                            replace q453 := eq_true q453
                            go_wp2
                            repeat (go_quiet (fail); try go_wp2)
                            go_roundg k2
                            case measure => have := HK1.out; have := HK2.out; omega
                            case rel => exact ⟨(wrap64 (x13_2 + 1)), (((rd_T50 l0 x11_1).f0)), (rd l2 x13_2), (by first | rfl | (simp; done) | (simp [*]; done)), H', ⟨by have := HK1.out; have := HK2.out; omega⟩, ⟨by (with_reducible repeat (first | apply Kd.R_alloc | apply Kd.R_drewN | apply Kd.R_drew)); exact Kd.R_mono (Kd.R_far (p := ⟨gb451, 2, none⟩) (Kd.R_far (p := ⟨gb451, 1, none⟩) (Kd.R_types HO_8.out BK451.out (by decide)) (fun _ hk => hk.2) (.int .i64 ((rd_T50 l0 x11_1).f0))) (fun _ hk => hk.2) (.int .i64 (rd l2 x13_2))) (fun _ hk => trivial)⟩, ⟨by (with_reducible repeat (first | apply Kd.R_alloc | apply Kd.R_drewN | apply Kd.R_drew)); exact Kd.R_mono (Kd.R_far (p := ⟨gb451, 2, none⟩) (Kd.R_far (p := ⟨gb451, 1, none⟩) (Kd.R_mono HO_10.out (fun k_ hk => (⟨hk, hk⟩ : _ ∧ k_ ≠ gb451))) (fun _ hk => hk.2) (.int .i64 ((rd_T50 l0 x11_1).f0))) (fun _ hk => hk.2) (.int .i64 (rd l2 x13_2))) (fun _ hk => hk.1)⟩, ⟨by (with_reducible repeat (first | refine blk_drewN ?_ _ | refine blk_drew ?_ | refine blk_alloc ?_ _)); refine blk_put (cs := #[.int .i64 ((rd_T50 l0 x11_1).f0), .int .i64 ((rd_T50 l0 x11_1).f0), .int .i64 x452002_2, .string ((rd_T50 l0 x11_1).f3)]) ?_ 2 _ rfl; (with_reducible repeat (first | refine blk_drewN ?_ _ | refine blk_drew ?_ | refine blk_alloc ?_ _)); refine blk_put (cs := #[.int .i64 ((rd_T50 l0 x11_1).f0), .int .i64 x452001_2, .int .i64 x452002_2, .string ((rd_T50 l0 x11_1).f3)]) ?_ 1 _ rfl; (with_reducible repeat (first | refine blk_drewN ?_ _ | refine blk_drew ?_ | refine blk_alloc ?_ _)); exact BK451.out⟩, ⟨by repeat (first | (with_reducible first | exact HB.out | apply below_alloc | apply pw_below_drewN | apply below_drew1 | refine below_set ?_ GE451.out) | exact HB.out)⟩⟩
                          · rw [if_neg c18] at H
                            exact absurd H (by simp)
                        · rw [if_neg c17] at H
                          have c17b0 : ((rd t444 x13_2) == ((rd_T50 l0 x11_1).f0)) = false := beq_eq_false_iff_ne.mpr c17
                          have c17b1 : ((rd t444 x13_2) != ((rd_T50 l0 x11_1).f0)) = true := bne_iff_ne.mpr c17
                          have H' := Aside0.mk H
                          clear H
                          have p452 : 0 ≤ (x13_2 : Int) := of_decide_eq_true (by first | (with_reducible assumption) | assumption)
                          have q452 : x13_2 < (t444.length : Int) := of_decide_eq_true (by first | (with_reducible assumption) | assumption)
                          obtain ⟨ad452, e452, hx452_0⟩ := Kd.at_int (Kd.R_reads' HO_8.out).2.2 x13_2 p452 q452
                          cases e452
                          replace p452 := eq_true p452
                          replace q452 := eq_true q452
                          have hcz20_0 : wr.cell? ⟨gb451, 0, none⟩ = some (.int .i64 ((rd_T50 l0 x11_1).f0)) := (blk_cell BK451.out 0).trans rfl
                          have hcz20_1 : wr.cell? ⟨gb451, 1, none⟩ = some (.int .i64 x452001_2) := (blk_cell BK451.out 1).trans rfl
                          have hcz20_2 : wr.cell? ⟨gb451, 2, none⟩ = some (.int .i64 x452002_2) := (blk_cell BK451.out 2).trans rfl
                          have hcz20_3 : wr.cell? ⟨gb451, 3, none⟩ = some (.string ((rd_T50 l0 x11_1).f3)) := (blk_cell BK451.out 3).trans rfl
                          have hfz20_0 := blk_frozen BK451.out 0
                          have hfz20_1 := blk_frozen BK451.out 1
                          have hfz20_2 := blk_frozen BK451.out 2
                          have hfz20_3 := blk_frozen BK451.out 3
                          go_wp2
                          repeat (go_quiet (fail); try go_wp2)
                          go_roundg k2
                          case measure => have := HK1.out; have := HK2.out; omega
                          case rel => exact ⟨(wrap64 (x13_2 + 1)), (x452001_2), (x452002_2), (by first | rfl | (simp; done) | (simp [*]; done)), H', ⟨by have := HK1.out; have := HK2.out; omega⟩, ⟨by (with_reducible repeat (first | apply Kd.R_alloc | apply Kd.R_drewN | apply Kd.R_drew)); exact HO_8.out⟩, ⟨by (with_reducible repeat (first | apply Kd.R_alloc | apply Kd.R_drewN | apply Kd.R_drew)); exact HO_10.out⟩, ⟨by (with_reducible repeat (first | refine blk_drewN ?_ _ | refine blk_drew ?_ | refine blk_alloc ?_ _)); exact BK451.out⟩, ⟨by repeat (first | (with_reducible first | exact HB.out | apply below_alloc | apply pw_below_drewN | apply below_drew1 | refine below_set ?_ GE451.out) | exact HB.out)⟩⟩
                      · rw [if_neg c16] at H
                        exact absurd H (by simp)
                    · rw [if_neg c15] at H
                      have c15b0 : decide (x13_2 < (t444.length : Int)) = false := decide_eq_false c15
                      clear c15
                      by_cases c21 : x10_1.length < 3518437208883
                      · rw [if_pos c21] at H
                        have LMc21 := Aside0.mk c21
                        clear c21
                        obtain ⟨y454, hy454⟩ : ∃ y_ : List (S50), y_ = (x10_1 ++ [(⟨((rd_T50 l0 x11_1).f0), x452001_2, x452002_2, ((rd_T50 l0 x11_1).f3)⟩ : S50)]) := ⟨_, rfl⟩
                        replace H : (barqueref12_After.l0 k2 l0 l1 l2 t444 y454 (wrap64 (x11_1 + 1))) = some (r1, r2) := by first | (rw [hy454]; with_reducible exact H) | (have H2_ := (Option.bind_some _ _).symm.trans H; rw [hy454]; with_reducible exact H2_) | (have H2_ := (Option.bind_some _ _).symm.trans H; with_reducible exact H2_) | with_reducible exact H | (rw [hy454]; exact H) | exact H
                        have Ny454 := Aside0.mk hy454
                        clear hy454
                        have H' := Aside0.mk H
                        clear H
                        have hcz22_0 : wr.cell? ⟨gb451, 0, none⟩ = some (.int .i64 ((rd_T50 l0 x11_1).f0)) := (blk_cell BK451.out 0).trans rfl
                        have hcz22_1 : wr.cell? ⟨gb451, 1, none⟩ = some (.int .i64 x452001_2) := (blk_cell BK451.out 1).trans rfl
                        have hcz22_2 : wr.cell? ⟨gb451, 2, none⟩ = some (.int .i64 x452002_2) := (blk_cell BK451.out 2).trans rfl
                        have hcz22_3 : wr.cell? ⟨gb451, 3, none⟩ = some (.string ((rd_T50 l0 x11_1).f3)) := (blk_cell BK451.out 3).trans rfl
                        have hfz22_0 := blk_frozen BK451.out 0
                        have hfz22_1 := blk_frozen BK451.out 1
                        have hfz22_2 := blk_frozen BK451.out 2
                        have hfz22_3 := blk_frozen BK451.out 3
                        go_wp2_with (first | ((with_reducible refine gate_builtin (b := .append) (xs := #[.tmp 67, .tmp 69]) rfl ?_); at_builtin; refine Kd.R_append k50 (w0 := w) w.heap.size rfl (.tmp 67) (.tmp 69) 33 50 (.agg #[(.int .i64 0), (.int .i64 0), (.int .i64 0), (.string ⟨#[]⟩)]) 40 rfl Try.underlying33 info50 rfl (by decide) (by omega) u10 x10_1 (⟨((rd_T50 l0 x11_1).f0), x452001_2, x452002_2, ((rd_T50 l0 x11_1).f3)⟩ : S50) [.int .i64 ((rd_T50 l0 x11_1).f0), .int .i64 x452001_2, .int .i64 x452002_2, .string ((rd_T50 l0 x11_1).f3)] (fun k_ => k_ ≠ gb451) (fun _ => False) rfl rfl ?aP (fun _ hk => hk.elim) ?aF ?aO ?aB ?aS ?aL ?_; (case aP => exact k50_mkM _ _ _ (⟨((rd_T50 l0 x11_1).f0), x452001_2, x452002_2, ((rd_T50 l0 x11_1).f3)⟩ : S50)); (case aB => exact (by repeat (first | (with_reducible first | exact HB.out | apply below_alloc | apply pw_below_drewN | apply below_drew1 | refine below_set ?_ GE451.out) | exact HB.out))); (case aF => exact (fun k_ hk => Kd.freshB (g := gb451) (o := .cells #[.int .i64 ((rd_T50 l0 x11_1).f0), .int .i64 x452001_2, .int .i64 x452002_2, .string ((rd_T50 l0 x11_1).f3)] 50 (0, 0)) (by (with_reducible repeat (first | refine blk_drewN ?_ _ | refine blk_drew ?_ | refine blk_alloc ?_ _)); exact BK451.out) k_ hk)); (case aO => exact (by (with_reducible repeat (first | apply Kd.R_alloc | apply Kd.R_drewN | apply Kd.R_drew)); exact HO_10.out)); (case aS => exact (below_size (by repeat (first | (with_reducible first | exact HB.out | apply below_alloc | apply pw_below_drewN | apply below_drew1 | refine below_set ?_ GE451.out) | exact HB.out)))); (case aL => have := LMc21.out; omega); intro v455 w23 ho hb hg hat; rw [← Ny454.out] at ho; have n0_ := Aside0.mk (Kd.R_over' (by (with_reducible repeat (first | apply Kd.R_alloc | apply Kd.R_drewN | apply Kd.R_drew)); exact HO_8.out) (Kd.R_typed (by (with_reducible repeat (first | apply Kd.R_alloc | apply Kd.R_drewN | apply Kd.R_drew)); exact HO_10.out)) (by decide) hg); have n1_ := Aside0.mk (blk_grown (g := gb451) (o := .cells #[.int .i64 ((rd_T50 l0 x11_1).f0), .int .i64 x452001_2, .int .i64 x452002_2, .string ((rd_T50 l0 x11_1).f3)] 50 (0, 0)) (by (with_reducible repeat (first | refine blk_drewN ?_ _ | refine blk_drew ?_ | refine blk_alloc ?_ _)); exact BK451.out) hg (Kd.R_away HO_10.out (fun _ hk => hk))); have n2_ := Aside0.mk (hb); have n3_ := Aside0.mk (ho); clear HO_8; clear BK451; clear HB; clear HO_10; have HO_8 := n0_; have BK451 := n1_; have HB := n2_; have HO456 := n3_; clear n0_ n1_ n2_ n3_; clear ho hb hg hat))
                        repeat (go_quiet (first | ((with_reducible refine gate_builtin (b := .append) (xs := #[.tmp 67, .tmp 69]) rfl ?_); at_builtin; refine Kd.R_append k50 (w0 := w) w.heap.size rfl (.tmp 67) (.tmp 69) 33 50 (.agg #[(.int .i64 0), (.int .i64 0), (.int .i64 0), (.string ⟨#[]⟩)]) 40 rfl Try.underlying33 info50 rfl (by decide) (by omega) u10 x10_1 (⟨((rd_T50 l0 x11_1).f0), x452001_2, x452002_2, ((rd_T50 l0 x11_1).f3)⟩ : S50) [.int .i64 ((rd_T50 l0 x11_1).f0), .int .i64 x452001_2, .int .i64 x452002_2, .string ((rd_T50 l0 x11_1).f3)] (fun k_ => k_ ≠ gb451) (fun _ => False) rfl rfl ?aP (fun _ hk => hk.elim) ?aF ?aO ?aB ?aS ?aL ?_; (case aP => exact k50_mkM _ _ _ (⟨((rd_T50 l0 x11_1).f0), x452001_2, x452002_2, ((rd_T50 l0 x11_1).f3)⟩ : S50)); (case aB => exact (by repeat (first | (with_reducible first | exact HB.out | apply below_alloc | apply pw_below_drewN | apply below_drew1 | refine below_set ?_ GE451.out) | exact HB.out))); (case aF => exact (fun k_ hk => Kd.freshB (g := gb451) (o := .cells #[.int .i64 ((rd_T50 l0 x11_1).f0), .int .i64 x452001_2, .int .i64 x452002_2, .string ((rd_T50 l0 x11_1).f3)] 50 (0, 0)) (by (with_reducible repeat (first | refine blk_drewN ?_ _ | refine blk_drew ?_ | refine blk_alloc ?_ _)); exact BK451.out) k_ hk)); (case aO => exact (by (with_reducible repeat (first | apply Kd.R_alloc | apply Kd.R_drewN | apply Kd.R_drew)); exact HO_10.out)); (case aS => exact (below_size (by repeat (first | (with_reducible first | exact HB.out | apply below_alloc | apply pw_below_drewN | apply below_drew1 | refine below_set ?_ GE451.out) | exact HB.out)))); (case aL => have := LMc21.out; omega); intro v455 w23 ho hb hg hat; rw [← Ny454.out] at ho; have n0_ := Aside0.mk (Kd.R_over' (by (with_reducible repeat (first | apply Kd.R_alloc | apply Kd.R_drewN | apply Kd.R_drew)); exact HO_8.out) (Kd.R_typed (by (with_reducible repeat (first | apply Kd.R_alloc | apply Kd.R_drewN | apply Kd.R_drew)); exact HO_10.out)) (by decide) hg); have n1_ := Aside0.mk (blk_grown (g := gb451) (o := .cells #[.int .i64 ((rd_T50 l0 x11_1).f0), .int .i64 x452001_2, .int .i64 x452002_2, .string ((rd_T50 l0 x11_1).f3)] 50 (0, 0)) (by (with_reducible repeat (first | refine blk_drewN ?_ _ | refine blk_drew ?_ | refine blk_alloc ?_ _)); exact BK451.out) hg (Kd.R_away HO_10.out (fun _ hk => hk))); have n2_ := Aside0.mk (hb); have n3_ := Aside0.mk (ho); clear HO_8; clear BK451; clear HB; clear HO_10; have HO_8 := n0_; have BK451 := n1_; have HB := n2_; have HO456 := n3_; clear n0_ n1_ n2_ n3_; clear ho hb hg hat)); try go_wp2_with (first | ((with_reducible refine gate_builtin (b := .append) (xs := #[.tmp 67, .tmp 69]) rfl ?_); at_builtin; refine Kd.R_append k50 (w0 := w) w.heap.size rfl (.tmp 67) (.tmp 69) 33 50 (.agg #[(.int .i64 0), (.int .i64 0), (.int .i64 0), (.string ⟨#[]⟩)]) 40 rfl Try.underlying33 info50 rfl (by decide) (by omega) u10 x10_1 (⟨((rd_T50 l0 x11_1).f0), x452001_2, x452002_2, ((rd_T50 l0 x11_1).f3)⟩ : S50) [.int .i64 ((rd_T50 l0 x11_1).f0), .int .i64 x452001_2, .int .i64 x452002_2, .string ((rd_T50 l0 x11_1).f3)] (fun k_ => k_ ≠ gb451) (fun _ => False) rfl rfl ?aP (fun _ hk => hk.elim) ?aF ?aO ?aB ?aS ?aL ?_; (case aP => exact k50_mkM _ _ _ (⟨((rd_T50 l0 x11_1).f0), x452001_2, x452002_2, ((rd_T50 l0 x11_1).f3)⟩ : S50)); (case aB => exact (by repeat (first | (with_reducible first | exact HB.out | apply below_alloc | apply pw_below_drewN | apply below_drew1 | refine below_set ?_ GE451.out) | exact HB.out))); (case aF => exact (fun k_ hk => Kd.freshB (g := gb451) (o := .cells #[.int .i64 ((rd_T50 l0 x11_1).f0), .int .i64 x452001_2, .int .i64 x452002_2, .string ((rd_T50 l0 x11_1).f3)] 50 (0, 0)) (by (with_reducible repeat (first | refine blk_drewN ?_ _ | refine blk_drew ?_ | refine blk_alloc ?_ _)); exact BK451.out) k_ hk)); (case aO => exact (by (with_reducible repeat (first | apply Kd.R_alloc | apply Kd.R_drewN | apply Kd.R_drew)); exact HO_10.out)); (case aS => exact (below_size (by repeat (first | (with_reducible first | exact HB.out | apply below_alloc | apply pw_below_drewN | apply below_drew1 | refine below_set ?_ GE451.out) | exact HB.out)))); (case aL => have := LMc21.out; omega); intro v455 w23 ho hb hg hat; rw [← Ny454.out] at ho; have n0_ := Aside0.mk (Kd.R_over' (by (with_reducible repeat (first | apply Kd.R_alloc | apply Kd.R_drewN | apply Kd.R_drew)); exact HO_8.out) (Kd.R_typed (by (with_reducible repeat (first | apply Kd.R_alloc | apply Kd.R_drewN | apply Kd.R_drew)); exact HO_10.out)) (by decide) hg); have n1_ := Aside0.mk (blk_grown (g := gb451) (o := .cells #[.int .i64 ((rd_T50 l0 x11_1).f0), .int .i64 x452001_2, .int .i64 x452002_2, .string ((rd_T50 l0 x11_1).f3)] 50 (0, 0)) (by (with_reducible repeat (first | refine blk_drewN ?_ _ | refine blk_drew ?_ | refine blk_alloc ?_ _)); exact BK451.out) hg (Kd.R_away HO_10.out (fun _ hk => hk))); have n2_ := Aside0.mk (hb); have n3_ := Aside0.mk (ho); clear HO_8; clear BK451; clear HB; clear HO_10; have HO_8 := n0_; have BK451 := n1_; have HB := n2_; have HO456 := n3_; clear n0_ n1_ n2_ n3_; clear ho hb hg hat)))
                        go_roundg k2
                        case measure => have := HK1.out; have := HK2.out; omega
                        case rel => exact ⟨(y454), (wrap64 (x11_1 + 1)), (by first | rfl | (simp; done) | (simp [*]; done)), H', ⟨by have := HK1.out; have := HK2.out; omega⟩, ⟨by (with_reducible repeat (first | apply Kd.R_alloc | apply Kd.R_drewN | apply Kd.R_drew)); exact HO_8.out⟩, ⟨by (with_reducible repeat (first | apply Kd.R_alloc | apply Kd.R_drewN | apply Kd.R_drew)); exact Kd.R_mono HO456.out (fun _ hk => trivial)⟩, ⟨by repeat (first | (with_reducible first | exact HB.out | apply below_alloc | apply pw_below_drewN | apply below_drew1 | refine below_set ?_ GE451.out) | exact HB.out)⟩⟩
                      · rw [if_neg c21] at H
                        exact absurd H (by simp)
              · replace c12 := Bool.eq_false_iff.mpr c12
                subst c12
                have H1 : (barqueref12_After.l0 k1 l0 l1 l2 t444 x10_1 (wrap64 (x11_1 + 1))) = some (r1, r2) := by rw [if_neg (show ¬ (false = true) by decide)] at H; exact H
                clear H
                have H := H1
                clear H1
                have H' := Aside0.mk H
                clear H
                have p448 : 0 ≤ (x11_1 : Int) := of_decide_eq_true (by first | (with_reducible assumption) | assumption)
                have q448 : x11_1 < (l0.length : Int) := of_decide_eq_true (by first | (with_reducible assumption) | assumption)
                obtain ⟨ad448, e448, hx448_0, hx448_1, hx448_2, hx448_3⟩ := at_T50 HR0.out x11_1 p448 q448
                cases e448
                replace hx448_0 := (HB.out.cell (World.block_lt_of_cell? w _ hx448_0)).trans hx448_0
                replace hx448_1 := (HB.out.cell (World.block_lt_of_cell? w _ hx448_1)).trans hx448_1
                replace hx448_2 := (HB.out.cell (World.block_lt_of_cell? w _ hx448_2)).trans hx448_2
                replace hx448_3 := (HB.out.cell (World.block_lt_of_cell? w _ hx448_3)).trans hx448_3
                replace p448 := eq_true p448
                replace q448 := eq_true q448
                go_wp2_with (first | (go_at_call 49; (with_reducible refine (barqueref12_in.calls k1 _ _ l1 ((rd_T50 l0 x11_1).f0) false _ ?side1 ?side2 A11.out).mono ?_); (case side1 => repeat (first | exact (Kd.C_below HR1.out HB.out) | (with_reducible refine Kd.C_alloc ?_ _) | (with_reducible refine Kd.C_drewN ?_ _) | (with_reducible refine Kd.C_drew ?_))); (case side2 => exact HC1.out); rintro e w' ⟨rfl, ⟨nd, rfl⟩⟩; (try first | exact ⟨rfl, _, World.drewN_drewN _ _ _⟩ | exact ⟨rfl, _, Eq.trans (World.drewN_drewN _ _ _) (congrArg (World.drewN _) (Nat.add_assoc _ _ _))⟩)))
                repeat (go_quiet (first | (go_at_call 49; (with_reducible refine (barqueref12_in.calls k1 _ _ l1 ((rd_T50 l0 x11_1).f0) false _ ?side1 ?side2 A11.out).mono ?_); (case side1 => repeat (first | exact (Kd.C_below HR1.out HB.out) | (with_reducible refine Kd.C_alloc ?_ _) | (with_reducible refine Kd.C_drewN ?_ _) | (with_reducible refine Kd.C_drew ?_))); (case side2 => exact HC1.out); rintro e w' ⟨rfl, ⟨nd, rfl⟩⟩; (try first | exact ⟨rfl, _, World.drewN_drewN _ _ _⟩ | exact ⟨rfl, _, Eq.trans (World.drewN_drewN _ _ _) (congrArg (World.drewN _) (Nat.add_assoc _ _ _))⟩))); try go_wp2_with (first | (go_at_call 49; (with_reducible refine (barqueref12_in.calls k1 _ _ l1 ((rd_T50 l0 x11_1).f0) false _ ?side1 ?side2 A11.out).mono ?_); (case side1 => repeat (first | exact (Kd.C_below HR1.out HB.out) | (with_reducible refine Kd.C_alloc ?_ _) | (with_reducible refine Kd.C_drewN ?_ _) | (with_reducible refine Kd.C_drew ?_))); (case side2 => exact HC1.out); rintro e w' ⟨rfl, ⟨nd, rfl⟩⟩; (try first | exact ⟨rfl, _, World.drewN_drewN _ _ _⟩ | exact ⟨rfl, _, Eq.trans (World.drewN_drewN _ _ _) (congrArg (World.drewN _) (Nat.add_assoc _ _ _))⟩))))
                go_roundg k1
                case measure => have := HK1.out; omega
                case rel => exact ⟨(x10_1), (wrap64 (x11_1 + 1)), (by first | rfl | (simp; done) | (simp [*]; done)), H', ⟨by have := HK1.out; omega⟩, ⟨by (with_reducible repeat (first | apply Kd.R_alloc | apply Kd.R_drewN | apply Kd.R_drew)); exact HO_8.out⟩, ⟨by (with_reducible repeat (first | apply Kd.R_alloc | apply Kd.R_drewN | apply Kd.R_drew)); exact HO_10.out⟩, ⟨by repeat (first | (with_reducible first | exact HB.out | apply below_alloc | apply pw_below_drewN | apply below_drew1) | exact HB.out)⟩⟩
            · rw [if_neg c10] at H
              exact absurd H (by simp)
          · rw [if_neg c9] at H
            have c9b0 : decide (x11_1 < (l0.length : Int)) = false := decide_eq_false c9
            clear c9
            simp only [Option.some.injEq, Prod.mk.injEq] at H
            obtain ⟨rfl, rfl⟩ := H
            go_wp2
            repeat (go_quiet (fail); try go_wp2)
            go_ret2
            exact ⟨_, by first | rfl | (simp [errW_none, errW_some] <;> rfl) | (simp [*, errW_none, errW_some] <;> rfl), by (with_reducible repeat (first | apply Kd.R_alloc | apply Kd.R_drewN | apply Kd.R_drew)); exact HO_10.out, by repeat (first | (with_reducible first | exact HB.out | apply below_alloc | apply pw_below_drewN | apply below_drew1) | exact HB.out)⟩
    · rw [if_neg c6] at H
      have c6b0 : ((t444.length : Int) == (l2.length : Int)) = false := beq_eq_false_iff_ne.mpr c6
      have c6b1 : ((t444.length : Int) != (l2.length : Int)) = true := bne_iff_ne.mpr c6
      have c6b2 : (t444.length == l2.length) = false := by first | simpa using c6 | (simp at c6 ⊢; omega)
      simp only [Option.some.injEq, Prod.mk.injEq] at H
      obtain ⟨rfl, rfl⟩ := H
      go_enter Try.func43, Try.ntmps43
      go_wp2_with (first | (go_at_call 22; (with_reducible refine (barqueref12_Need.calls k _ _ l0 _ _ l1 t444 t445 _ ?side1 ?side2 ?side3 ?side4 A4.out).mono ?_); (case side1 => repeat (first | exact HR0.out | (with_reducible refine Kd.C_alloc ?_ _) | (with_reducible refine Kd.C_drewN ?_ _) | (with_reducible refine Kd.C_drew ?_))); (case side2 => exact HC0.out); (case side3 => repeat (first | exact HR1.out | (with_reducible refine Kd.C_alloc ?_ _) | (with_reducible refine Kd.C_drewN ?_ _) | (with_reducible refine Kd.C_drew ?_))); (case side4 => exact HC1.out); rintro e w24 ⟨v446, rfl, ho0, hb⟩; have n0_ := Aside0.mk (Kd.R_lower ho0 (below_size (by repeat (first | (with_reducible first | exact HB.out | apply below_alloc | apply pw_below_drewN | apply below_drew1) | exact HB.out)))); have n1_ := Aside0.mk (below_step (by repeat (first | (with_reducible first | exact HB.out | apply below_alloc | apply pw_below_drewN | apply below_drew1) | exact HB.out)) hb); clear HB; have HO447 := n0_; have HB := n1_; clear n0_ n1_; (try clear hb); (try clear hb2); (try clear hk); (try clear hi); (try clear ho0); obtain ⟨Ao25, co25, eo25⟩ := Kd.R_slice HO447.out; subst eo25))
      repeat (go_quiet (first | (go_at_call 22; (with_reducible refine (barqueref12_Need.calls k _ _ l0 _ _ l1 t444 t445 _ ?side1 ?side2 ?side3 ?side4 A4.out).mono ?_); (case side1 => repeat (first | exact HR0.out | (with_reducible refine Kd.C_alloc ?_ _) | (with_reducible refine Kd.C_drewN ?_ _) | (with_reducible refine Kd.C_drew ?_))); (case side2 => exact HC0.out); (case side3 => repeat (first | exact HR1.out | (with_reducible refine Kd.C_alloc ?_ _) | (with_reducible refine Kd.C_drewN ?_ _) | (with_reducible refine Kd.C_drew ?_))); (case side4 => exact HC1.out); rintro e w24 ⟨v446, rfl, ho0, hb⟩; have n0_ := Aside0.mk (Kd.R_lower ho0 (below_size (by repeat (first | (with_reducible first | exact HB.out | apply below_alloc | apply pw_below_drewN | apply below_drew1) | exact HB.out)))); have n1_ := Aside0.mk (below_step (by repeat (first | (with_reducible first | exact HB.out | apply below_alloc | apply pw_below_drewN | apply below_drew1) | exact HB.out)) hb); clear HB; have HO447 := n0_; have HB := n1_; clear n0_ n1_; (try clear hb); (try clear hb2); (try clear hk); (try clear hi); (try clear ho0); obtain ⟨Ao25, co25, eo25⟩ := Kd.R_slice HO447.out; subst eo25)); try go_wp2_with (first | (go_at_call 22; (with_reducible refine (barqueref12_Need.calls k _ _ l0 _ _ l1 t444 t445 _ ?side1 ?side2 ?side3 ?side4 A4.out).mono ?_); (case side1 => repeat (first | exact HR0.out | (with_reducible refine Kd.C_alloc ?_ _) | (with_reducible refine Kd.C_drewN ?_ _) | (with_reducible refine Kd.C_drew ?_))); (case side2 => exact HC0.out); (case side3 => repeat (first | exact HR1.out | (with_reducible refine Kd.C_alloc ?_ _) | (with_reducible refine Kd.C_drewN ?_ _) | (with_reducible refine Kd.C_drew ?_))); (case side4 => exact HC1.out); rintro e w24 ⟨v446, rfl, ho0, hb⟩; have n0_ := Aside0.mk (Kd.R_lower ho0 (below_size (by repeat (first | (with_reducible first | exact HB.out | apply below_alloc | apply pw_below_drewN | apply below_drew1) | exact HB.out)))); have n1_ := Aside0.mk (below_step (by repeat (first | (with_reducible first | exact HB.out | apply below_alloc | apply pw_below_drewN | apply below_drew1) | exact HB.out)) hb); clear HB; have HO447 := n0_; have HB := n1_; clear n0_ n1_; (try clear hb); (try clear hb2); (try clear hk); (try clear hi); (try clear ho0); obtain ⟨Ao25, co25, eo25⟩ := Kd.R_slice HO447.out; subst eo25)))
      go_ret2
      exact ⟨_, by first | rfl | (simp [errW_none, errW_some] <;> rfl) | (simp [*, errW_none, errW_some] <;> rfl), by first | exact Kd.R_nil _ _ _ _ _ | exact Kd.N_nil _ _ _ _ _ | exact Kd.V_nil _ _ _ _ _ | exact Kd.Q_nil _ _ _ _ _ | exact Kd.S_nil _ _ _ _ _, by repeat (first | (with_reducible first | exact HB.out | apply below_alloc | apply pw_below_drewN | apply below_drew1) | exact HB.out)⟩
  · rw [if_neg c5] at H
    have c5b0 : (t445 == 0) = false := beq_eq_false_iff_ne.mpr c5
    have c5b1 : (t445 != 0) = true := bne_iff_ne.mpr c5
    simp only [Option.some.injEq, Prod.mk.injEq] at H
    obtain ⟨rfl, rfl⟩ := H
    go_enter Try.func43, Try.ntmps43
    go_wp2_with (first | (go_at_call 22; (with_reducible refine (barqueref12_Need.calls k _ _ l0 _ _ l1 t444 t445 _ ?side1 ?side2 ?side3 ?side4 A4.out).mono ?_); (case side1 => repeat (first | exact HR0.out | (with_reducible refine Kd.C_alloc ?_ _) | (with_reducible refine Kd.C_drewN ?_ _) | (with_reducible refine Kd.C_drew ?_))); (case side2 => exact HC0.out); (case side3 => repeat (first | exact HR1.out | (with_reducible refine Kd.C_alloc ?_ _) | (with_reducible refine Kd.C_drewN ?_ _) | (with_reducible refine Kd.C_drew ?_))); (case side4 => exact HC1.out); rintro e w26 ⟨v446, rfl, ho0, hb⟩; have n0_ := Aside0.mk (Kd.R_lower ho0 (below_size (by repeat (first | (with_reducible first | exact HB.out | apply below_alloc | apply pw_below_drewN | apply below_drew1) | exact HB.out)))); have n1_ := Aside0.mk (below_step (by repeat (first | (with_reducible first | exact HB.out | apply below_alloc | apply pw_below_drewN | apply below_drew1) | exact HB.out)) hb); clear HB; have HO447 := n0_; have HB := n1_; clear n0_ n1_; (try clear hb); (try clear hb2); (try clear hk); (try clear hi); (try clear ho0)))
    repeat (go_quiet (first | (go_at_call 22; (with_reducible refine (barqueref12_Need.calls k _ _ l0 _ _ l1 t444 t445 _ ?side1 ?side2 ?side3 ?side4 A4.out).mono ?_); (case side1 => repeat (first | exact HR0.out | (with_reducible refine Kd.C_alloc ?_ _) | (with_reducible refine Kd.C_drewN ?_ _) | (with_reducible refine Kd.C_drew ?_))); (case side2 => exact HC0.out); (case side3 => repeat (first | exact HR1.out | (with_reducible refine Kd.C_alloc ?_ _) | (with_reducible refine Kd.C_drewN ?_ _) | (with_reducible refine Kd.C_drew ?_))); (case side4 => exact HC1.out); rintro e w26 ⟨v446, rfl, ho0, hb⟩; have n0_ := Aside0.mk (Kd.R_lower ho0 (below_size (by repeat (first | (with_reducible first | exact HB.out | apply below_alloc | apply pw_below_drewN | apply below_drew1) | exact HB.out)))); have n1_ := Aside0.mk (below_step (by repeat (first | (with_reducible first | exact HB.out | apply below_alloc | apply pw_below_drewN | apply below_drew1) | exact HB.out)) hb); clear HB; have HO447 := n0_; have HB := n1_; clear n0_ n1_; (try clear hb); (try clear hb2); (try clear hk); (try clear hi); (try clear ho0))); try go_wp2_with (first | (go_at_call 22; (with_reducible refine (barqueref12_Need.calls k _ _ l0 _ _ l1 t444 t445 _ ?side1 ?side2 ?side3 ?side4 A4.out).mono ?_); (case side1 => repeat (first | exact HR0.out | (with_reducible refine Kd.C_alloc ?_ _) | (with_reducible refine Kd.C_drewN ?_ _) | (with_reducible refine Kd.C_drew ?_))); (case side2 => exact HC0.out); (case side3 => repeat (first | exact HR1.out | (with_reducible refine Kd.C_alloc ?_ _) | (with_reducible refine Kd.C_drewN ?_ _) | (with_reducible refine Kd.C_drew ?_))); (case side4 => exact HC1.out); rintro e w26 ⟨v446, rfl, ho0, hb⟩; have n0_ := Aside0.mk (Kd.R_lower ho0 (below_size (by repeat (first | (with_reducible first | exact HB.out | apply below_alloc | apply pw_below_drewN | apply below_drew1) | exact HB.out)))); have n1_ := Aside0.mk (below_step (by repeat (first | (with_reducible first | exact HB.out | apply below_alloc | apply pw_below_drewN | apply below_drew1) | exact HB.out)) hb); clear HB; have HO447 := n0_; have HB := n1_; clear n0_ n1_; (try clear hb); (try clear hb2); (try clear hk); (try clear hi); (try clear ho0))))
    go_ret2
    exact ⟨_, by first | rfl | (simp [errW_none, errW_some] <;> rfl) | (simp [*, errW_none, errW_some] <;> rfl), by first | exact Kd.R_nil _ _ _ _ _ | exact Kd.N_nil _ _ _ _ _ | exact Kd.V_nil _ _ _ _ _ | exact Kd.Q_nil _ _ _ _ _ | exact Kd.S_nil _ _ _ _ _, by repeat (first | (with_reducible first | exact HB.out | apply below_alloc | apply pw_below_drewN | apply below_drew1) | exact HB.out)⟩

end Go.Proofs.Yteamoejgpcognaa.PAll

-- from YteamoejgpcognaaPAllx1
-- Written by a program of this session (wip/tools/hookprint.py, over the print); Lean checks it.
namespace Go.Proofs.Yteamoejgpcognaa.PAll
open Go.RowKit Go.Proofs.YteamoejgpcognaaW.PrintWords Go.Proofs.YteamoejgpcognaaW.PrintLast Go.Proofs.YteamoejgpcognaaW.PrintMore
attribute [local go_sem] max2_int min2_int max_two min_two max_three min_three max_four min_four   -- for this text's walks alone
set_option linter.unusedVariables false
set_option linter.unusedSimpArgs false

theorem eqA50 (d : Nat) (w : World) (x0 y0 : Int) (x1 y1 : Int) (x2 y2 : Int) (x3 y3 : ByteArray) :
    (Op.equalIn (d + 2) 50 (.agg #[.int .i64 x0, .int .i64 x1, .int .i64 x2, .string x3]) (.agg #[.int .i64 y0, .int .i64 y1, .int .i64 y2, .string y3])).run Try.prog w = .ok (x0 == y0 && (x1 == y1 && (x2 == y2 && (x3.toList == y3.toList)))) w := by
  refine eqA_of Try.underlying50 (by kernel_rfl) ?_
  refine eqf_cons (by rfl) (by go_simp; rfl) (by go_simp; rfl) (by go_simp) ?_
  refine eqf_cons (by rfl) (by go_simp; rfl) (by go_simp; rfl) (by go_simp) ?_
  refine eqf_cons (by rfl) (by go_simp; rfl) (by go_simp; rfl) (by go_simp) ?_
  exact eqf_last (by rfl) (by go_simp; rfl) (by go_simp; rfl) (by go_simp)
end Go.Proofs.Yteamoejgpcognaa.PAll

-- from YteamoejgpcognaaPAllx59
-- Written by a program of this session (wip/tools/hookprint.py, over the print); Lean checks it.
namespace Go.Proofs.Yteamoejgpcognaa.PAll
open Go.RowKit Go.Proofs.YteamoejgpcognaaW.PrintWords Go.Proofs.YteamoejgpcognaaW.PrintLast Go.Proofs.YteamoejgpcognaaW.PrintMore
attribute [local go_sem] max2_int min2_int max_two min_two max_three min_three max_four min_four   -- for this text's walks alone
set_option linter.unusedVariables false
set_option linter.unusedSimpArgs false

attribute [local go_sem high] eqA50
/-! ### barqueref12_Gens: function 44 -/
def barqueref12_Gens.l0 : Nat → List (S50) → List (S50) → Int → Option (Bool)
  | 0, _, _, _ => none
  | k + 1, x0, x1, x5 => if x5 < (x0.length : Int) then (if 0 ≤ x5 then (if x5 < (x1.length : Int) then (if (!(((rd_T50 x0 x5).f0) == ((rd_T50 x1 x5).f0)) || (!(((rd_T50 x0 x5).f1) == ((rd_T50 x1 x5).f1)) || (!(((rd_T50 x0 x5).f2) == ((rd_T50 x1 x5).f2)) || (!((((rd_T50 x0 x5).f3).toList) == (((rd_T50 x1 x5).f3).toList)))))) = true then (some false) else (barqueref12_Gens.l0 k x0 x1 (wrap64 (x5 + 1)))) else (none)) else (none)) else (some true)
def barqueref12_Gens.f (k : Nat) (l0 : List (S50)) (l1 : List (S50)) : Option (Bool) := if (l0.length : Int) = (l1.length : Int) then (barqueref12_Gens.l0 k l0 l1 0) else (some false)
theorem barqueref12_Gens.mono_l : ∀ k, (∀ y0 y1 y2, LeO (barqueref12_Gens.l0 k y0 y1 y2) (barqueref12_Gens.l0 (k + 1) y0 y1 y2))
  | 0 => fun _ _ _ r h => by simp [barqueref12_Gens.l0] at h
  | k + 1 => by
    have ih0 := barqueref12_Gens.mono_l k
    · intro y0 y1 y2
      unfold barqueref12_Gens.l0
      repeat' first
      | (with_reducible exact ih0 _ _ _)
      | (with_reducible exact LeO.refl _)
      | (with_reducible exact LeO.none _)
      | (with_reducible refine LeO.ite ?_ ?_)
      | (with_reducible refine LeO.bind ?_ (fun _ => ?_))
      | exact ih0 _ _ _
      | exact LeO.none _
      | refine LeO.ite ?_ ?_
      | refine LeO.bind ?_ (fun _ => ?_)
theorem barqueref12_Gens.mono : ∀ a0 a1 k, LeO (barqueref12_Gens.f k a0 a1) (barqueref12_Gens.f (k + 1) a0 a1) := by
  intro a0 a1 k
  have ih0 := barqueref12_Gens.mono_l k
  unfold barqueref12_Gens.f
  repeat' first
      | (with_reducible exact ih0 _ _ _)
      | (with_reducible exact LeO.refl _)
      | (with_reducible exact LeO.none _)
      | (with_reducible refine LeO.ite ?_ ?_)
      | (with_reducible refine LeO.bind ?_ (fun _ => ?_))
      | exact ih0 _ _ _
      | exact LeO.none _
      | refine LeO.ite ?_ ?_
      | refine LeO.bind ?_ (fun _ => ?_)
set_option maxHeartbeats 8000000 in
set_option maxRecDepth 100000 in
theorem barqueref12_Gens.calls (k : Nat) (A0 : Option Addr) (c0 : Nat) (l0 : List (S50)) (A1 : Option Addr) (c1 : Nat) (l1 : List (S50)) (r : Bool) (w : World) (hr0 : Kd.C k50 w A0 l0.length l0) (hc0 : l0.length ≤ c0) (hr1 : Kd.C k50 w A1 l1.length l1) (hc1 : l1.length ≤ c1) (h : barqueref12_Gens.f k l0 l1 = some r) :
    Calls Try.prog 44 #[.slice A0 l0.length c0, .slice A1 l1.length c1] w fun e w' => e = .returned (.bool r) ∧ Drawn0 w w' := by
  have hu50 := Try.underlying50
  have HR0 := Aside0.mk hr0
  have HC0 := Aside0.mk hc0
  clear hr0 hc0
  have HR1 := Aside0.mk hr1
  have HC1 := Aside0.mk hc1
  clear hr1 hc1
  have H : (if (l0.length : Int) = (l1.length : Int) then (barqueref12_Gens.l0 k l0 l1 0) else (some false)) = some r := h
  clear h
  by_cases c3 : (l0.length : Int) = (l1.length : Int)
  · rw [if_pos c3] at H
    have c3b0 : ((l0.length : Int) == (l1.length : Int)) = true := beq_iff_eq.mpr c3
    have c3b1 : ((l0.length : Int) != (l1.length : Int)) = false := bne_eq_false_iff_eq.mpr c3
    have c3b2 : (l0.length == l1.length) = true := by first | simpa using c3 | (simp at c3 ⊢; omega)
    clear c3
    have H' := Aside0.mk H
    clear H
    go_enter Try.func44, Try.ntmps44
    go_wp2
    repeat (go_quiet (fail); try go_wp2)
    go_loopg [5] k (fun kq v5 w' => ∃ (x5_1 : Int), v5 = .int .i64 x5_1 ∧ Aside0 (barqueref12_Gens.l0 kq l0 l1 x5_1 = some r) ∧ Aside0 (kq ≤ k) ∧ Drawn0 w w')
    case atStart => exact ⟨(0), (by first | rfl | (simp; done) | (simp [*]; done)), H', ⟨Nat.le_refl _⟩, by repeat (first | exact Drawn0.refl _ | apply Drawn0.step)⟩
    case round =>
      clear H'
      try clear c1
      try clear p2
      try clear c3
      try clear c3b0
      try clear c3b1
      try clear c3b2
      obtain ⟨x5_1, rfl, HA, HK1, ⟨m1, rfl⟩⟩ := hrel
      cases gk with
      | zero => exact absurd HA.out (by simp [barqueref12_Gens.l0])
      | succ k1 =>
        have H := HA.out
        clear HA
        simp only [barqueref12_Gens.l0] at H
        by_cases c4 : x5_1 < (l0.length : Int)
        · rw [if_pos c4] at H
          have c4b0 : decide (x5_1 < (l0.length : Int)) = true := decide_eq_true c4
          clear c4
          by_cases c5 : 0 ≤ x5_1
          · rw [if_pos c5] at H
            have c5b0 : decide (0 ≤ x5_1) = true := decide_eq_true c5
            clear c5
            by_cases c6 : x5_1 < (l1.length : Int)
            · rw [if_pos c6] at H
              have c6b0 : decide (x5_1 < (l1.length : Int)) = true := decide_eq_true c6
              clear c6
              by_cases c7 : (!(((rd_T50 l0 x5_1).f0) == ((rd_T50 l1 x5_1).f0)) || (!(((rd_T50 l0 x5_1).f1) == ((rd_T50 l1 x5_1).f1)) || (!(((rd_T50 l0 x5_1).f2) == ((rd_T50 l1 x5_1).f2)) || (!((((rd_T50 l0 x5_1).f3).toList) == (((rd_T50 l1 x5_1).f3).toList)))))) = true
              · rw [if_pos c7] at H
                have c7b0 : (!(((rd_T50 l0 x5_1).f0) == ((rd_T50 l1 x5_1).f0)) || (!(((rd_T50 l0 x5_1).f1) == ((rd_T50 l1 x5_1).f1)) || (!(((rd_T50 l0 x5_1).f2) == ((rd_T50 l1 x5_1).f2)) || (!((((rd_T50 l0 x5_1).f3).toList) == (((rd_T50 l1 x5_1).f3).toList)))))) = true := c7
                clear c7
                obtain rfl := Option.some.inj H
                have p457 : 0 ≤ (x5_1 : Int) := of_decide_eq_true (by first | (with_reducible assumption) | assumption)
                have q457 : x5_1 < (l0.length : Int) := of_decide_eq_true (by first | (with_reducible assumption) | assumption)
                obtain ⟨ad457, e457, hx457_0, hx457_1, hx457_2, hx457_3⟩ := at_T50 HR0.out x5_1 p457 q457
                cases e457
                replace p457 := eq_true p457
                replace q457 := eq_true q457
                have p458 : 0 ≤ (x5_1 : Int) := of_decide_eq_true (by first | (with_reducible assumption) | assumption)
                have q458 : x5_1 < (l1.length : Int) := of_decide_eq_true (by first | (with_reducible assumption) | assumption)
                obtain ⟨ad458, e458, hx458_0, hx458_1, hx458_2, hx458_3⟩ := at_T50 HR1.out x5_1 p458 q458
                cases e458
                replace p458 := eq_true p458
                replace q458 := eq_true q458
                go_wp2
                repeat (go_quiet (fail); try go_wp2)
                go_ret
                exact ⟨by first | rfl | (simp; done) | (simp [*]; done), by repeat (first | exact Drawn0.refl _ | apply Drawn0.step)⟩
              · rw [if_neg c7] at H
                have c7b0 : (!(((rd_T50 l0 x5_1).f0) == ((rd_T50 l1 x5_1).f0)) || (!(((rd_T50 l0 x5_1).f1) == ((rd_T50 l1 x5_1).f1)) || (!(((rd_T50 l0 x5_1).f2) == ((rd_T50 l1 x5_1).f2)) || (!((((rd_T50 l0 x5_1).f3).toList) == (((rd_T50 l1 x5_1).f3).toList)))))) = false := by simpa using c7
                clear c7
                have H' := Aside0.mk H
                clear H
                have p457 : 0 ≤ (x5_1 : Int) := of_decide_eq_true (by first | (with_reducible assumption) | assumption)
                have q457 : x5_1 < (l0.length : Int) := of_decide_eq_true (by first | (with_reducible assumption) | assumption)
                obtain ⟨ad457, e457, hx457_0, hx457_1, hx457_2, hx457_3⟩ := at_T50 HR0.out x5_1 p457 q457
                cases e457
                replace p457 := eq_true p457
                replace q457 := eq_true q457
                have p458 : 0 ≤ (x5_1 : Int) := of_decide_eq_true (by first | (with_reducible assumption) | assumption)
                have q458 : x5_1 < (l1.length : Int) := of_decide_eq_true (by first | (with_reducible assumption) | assumption)
                obtain ⟨ad458, e458, hx458_0, hx458_1, hx458_2, hx458_3⟩ := at_T50 HR1.out x5_1 p458 q458
                cases e458
                replace p458 := eq_true p458
                replace q458 := eq_true q458
                go_wp2
                repeat (go_quiet (fail); try go_wp2)
                go_roundg k1
                case measure => have := HK1.out; omega
                case rel => exact ⟨(wrap64 (x5_1 + 1)), (by first | rfl | (simp; done) | (simp [*]; done)), H', ⟨by have := HK1.out; omega⟩, by repeat (first | exact Drawn0.refl _ | apply Drawn0.step)⟩
            · rw [if_neg c6] at H
              exact absurd H (by simp)
          · rw [if_neg c5] at H
            exact absurd H (by simp)
        · rw [if_neg c4] at H
          have c4b0 : decide (x5_1 < (l0.length : Int)) = false := decide_eq_false c4
          clear c4
          obtain rfl := Option.some.inj H
          go_wp2
          repeat (go_quiet (fail); try go_wp2)
          go_ret
          exact ⟨by first | rfl | (simp; done) | (simp [*]; done), by repeat (first | exact Drawn0.refl _ | apply Drawn0.step)⟩
  · rw [if_neg c3] at H
    have c3b0 : ((l0.length : Int) == (l1.length : Int)) = false := beq_eq_false_iff_ne.mpr c3
    have c3b1 : ((l0.length : Int) != (l1.length : Int)) = true := bne_iff_ne.mpr c3
    have c3b2 : (l0.length == l1.length) = false := by first | simpa using c3 | (simp at c3 ⊢; omega)
    obtain rfl := Option.some.inj H
    go_enter Try.func44, Try.ntmps44
    go_wp2
    repeat (go_quiet (fail); try go_wp2)
    go_ret
    exact ⟨by first | rfl | (simp; done) | (simp [*]; done), by repeat (first | exact Drawn0.refl _ | apply Drawn0.step)⟩

end Go.Proofs.Yteamoejgpcognaa.PAll

-- from YteamoejgpcognaaPureAfter
namespace Go.Proofs.Yteamoejgpcognaa.Pure
open Go.RowKit Go.Proofs.YteamoejgpcognaaW.PrintWords Go.Proofs.YteamoejgpcognaaW.PrintLast Go.Proofs.YteamoejgpcognaaW.PrintMore Go.Proofs.Yteamoejgpcognaa.PAll
set_option linter.unusedVariables false
set_option linter.unusedSimpArgs false

theorem getD_mem {xs : List Int} {i : Nat} (h : i < xs.length) : xs.getD i 0 ∈ xs := by
  rw [List.getD_eq_getElem?_getD, List.getElem?_eq_getElem h]; exact List.getElem_mem h
theorem nodup_ne {xs : List Int} (hn : xs.Nodup) {i j : Nat} (hij : i < j) (hj : j < xs.length) : xs.getD i 0 ≠ xs.getD j 0 := by
  rw [List.getD_eq_getElem?_getD, List.getD_eq_getElem?_getD, List.getElem?_eq_getElem hj, List.getElem?_eq_getElem (by omega)]
  exact List.pairwise_iff_getElem.1 hn i j (by omega) hj hij

/-- The inner loop: it turns the one that is needed. -/
theorem after_l1 (l : List S50) (ws wh need : List Int) (out : List S50) (i : Int) (g : S50) (hn : need.Nodup) (hl : need.length = wh.length) (hnl : need.length ≤ 1000000) (hout : out.length < 3518437208883) (d : Nat) : ∀ (k j : Nat) (f1 f2 : Int), need.length - j = d → j ≤ need.length →
    ((∃ m, m < j ∧ need.getD m 0 = g.f0 ∧ f1 = g.f0 ∧ f2 = wh.getD m 0) ∨ ((∀ m, m < j → need.getD m 0 ≠ g.f0) ∧ f1 = g.f1 ∧ f2 = g.f2)) →
    barqueref12_After.l1 (k + d + 1) l ws wh need out i j g.f0 f1 f2 g.f3 = barqueref12_After.l0 k l ws wh need (out ++ [turnG need wh g]) (wrap64 (i + 1)) := by
  induction d with
  | zero =>
    intro k j f1 f2 hd hj hs
    simp only [barqueref12_After.l1]
    rw [if_neg (by omega), if_pos hout]
    have hjl : j = need.length := by omega
    subst hjl
    congr 2
    unfold turnG
    rcases hs with ⟨m, hm, he, rfl, rfl⟩ | ⟨hno, rfl, rfl⟩
    · have hc : need.contains g.f0 = true := by rw [List.contains_iff_mem, ← he]; exact getD_mem hm
      have hi : idxV need g.f0 = m := idxV_at need g.f0 m (fun q hq e => nodup_ne hn hq hm (e.trans he.symm)) hm he
      rw [if_pos hc, hi]
    · have hc : ¬ need.contains g.f0 = true := by
        intro hc
        rw [List.contains_iff_mem] at hc
        obtain ⟨q, hq, e⟩ := List.getElem_of_mem hc
        refine hno q hq ?_
        rw [List.getD_eq_getElem?_getD, List.getElem?_eq_getElem hq]; exact e
      rw [if_neg hc]
  | succ d ih =>
    intro k j f1 f2 hd hj hs
    have hjl : j < need.length := by omega
    have hw : wrap64 ((j : Int) + 1) = ((j + 1 : Nat) : Int) := by unfold wrap64; omega
    have b1 : need.length - (j + 1) = d := by clear hs; omega
    have b2 : j + 1 ≤ need.length := by clear hs; omega
    have b3 : (j : Int) < (need.length : Int) := by clear hs; omega
    have b4 : (0 : Int) ≤ (j : Int) := by clear hs; omega
    have b5 : (j : Int) < (wh.length : Int) := by clear hs; omega
    obtain ⟨k2, hk2⟩ : ∃ m, m = k + d + 1 := ⟨_, rfl⟩
    rw [show k + (d + 1) + 1 = k2 + 1 by clear hs; omega]
    simp only [barqueref12_After.l1]
    rw [if_pos b3, if_pos b4, rdi_nat, rdi_nat, hw, hk2]
    by_cases he : need.getD j 0 = g.f0
    · rw [if_pos he, if_pos b5]
      exact ih k (j + 1) _ _ b1 b2 (.inl ⟨j, Nat.lt_succ_self j, he, rfl, rfl⟩)
    · rw [if_neg he]
      refine ih k (j + 1) _ _ b1 b2 ?_
      rcases hs with ⟨m, hm, h1, h2, h3⟩ | ⟨hno, h2, h3⟩
      · exact .inl ⟨m, by omega, h1, h2, h3⟩
      · refine .inr ⟨fun m hm => ?_, h2, h3⟩
        rcases Nat.lt_or_ge m j with h | h
        · exact hno m h
        · obtain rfl : m = j := by omega
          exact he

theorem cnt_ne {ws : List Int} {x : Int} (h : ws.contains x = true) : ¬ cntI ws x = 0 := by
  unfold cntI
  rw [List.contains_iff_mem] at h
  have := List.count_pos_iff.2 h
  omega
theorem cnt_eq {ws : List Int} {x : Int} (h : ¬ ws.contains x = true) : cntI ws x = 0 := by
  unfold cntI
  rw [List.contains_iff_mem] at h
  have : ws.count x = 0 := List.count_eq_zero.2 h
  omega
theorem after_l0 (l : List S50) (ws wh need : List Int) (hn : need.Nodup) (hl : need.length = wh.length) (hnl : need.length ≤ 60) (h1 : l.length ≤ 60) (h2 : ws.length ≤ 60) (d : Nat) : ∀ (k i : Nat), l.length - i = d → i ≤ l.length → d * (need.length + 2) + 70 ≤ k →
    barqueref12_After.l0 k l ws wh need (afterV (l.take i) ws need wh) i = some (afterV l ws need wh, 0) := by
  induction d with
  | zero =>
    intro k i hd hi hk
    obtain ⟨k, rfl⟩ : ∃ m, k = m + 1 := ⟨k - 1, by omega⟩
    simp only [barqueref12_After.l0]
    rw [if_neg (by omega), List.take_of_length_le (by omega)]
  | succ d ih =>
    intro k i hd hi hk
    rw [Nat.succ_mul] at hk
    have ih' : ∀ k, d * (need.length + 2) + 70 ≤ k → barqueref12_After.l0 k l ws wh need (afterV (l.take (i + 1)) ws need wh) ((i + 1 : Nat) : Int) = some (afterV l ws need wh, 0) :=
      fun k hk => ih k (i + 1) (by clear hk ih; omega) (by clear hk ih; omega) hk
    clear ih
    generalize d * (need.length + 2) = M at hk ih'
    obtain ⟨k3, hkk⟩ : ∃ m, k = (m + need.length + 1) + 1 := ⟨k - need.length - 2, by omega⟩
    obtain ⟨k2, hk2⟩ : ∃ m, m = k3 + need.length + 1 := ⟨_, rfl⟩
    rw [hkk, ← hk2]
    have k3M : M + 70 ≤ k3 := by omega
    have k2M : M + 70 ≤ k2 := by omega
    have k2w : ws.length < k2 := by omega
    clear hk hkk
    have hil : i < l.length := by omega
    have hw : wrap64 ((i : Int) + 1) = ((i + 1 : Nat) : Int) := by unfold wrap64; omega
    have b1 : (i : Int) < (l.length : Int) := by exact_mod_cast hil
    have b2 : (0 : Int) ≤ (i : Int) := Int.natCast_nonneg i
    have h2' : ws.length ≤ 1000000 := Nat.le_trans h2 (by decide)
    have hle : (afterV (l.take i) ws need wh).length < 3518437208883 := Nat.lt_of_le_of_lt (Nat.le_trans (afterV_le l ws need wh i) (Nat.le_trans hi h1)) (by decide)
    have hnl' : need.length ≤ 1000000 := Nat.le_trans hnl (by decide)
    have hin := in_f ws (nth l i).f0 h2' k2 k2w
    simp only [barqueref12_After.l0]
    rw [if_pos b1, if_pos b2, rd_nat, hin]
    simp only [Option.bind_some]
    by_cases hc : ws.contains (nth l i).f0 = true
    · rw [if_pos hc]
      have hs : afterV (l.take (i + 1)) ws need wh = afterV (l.take i) ws need wh ++ [turnG need wh (nth l i)] :=
        afterV_yes hil rfl (cnt_ne hc)
      have := after_l1 l ws wh need (afterV (l.take i) ws need wh) i (nth l i) hn hl hnl' hle need.length k3 0 (nth l i).f1 (nth l i).f2 rfl (Nat.zero_le _) (.inr ⟨fun m hm => absurd hm (by omega), rfl, rfl⟩)
      rw [show ((0 : Nat) : Int) = 0 from rfl] at this
      rw [hk2, this, ← hs, hw]
      exact ih' k3 k3M
    · rw [if_neg hc, hw]
      have hs : afterV (l.take (i + 1)) ws need wh = afterV (l.take i) ws need wh :=
        afterV_no hil rfl (cnt_eq hc)
      rw [← hs]
      exact ih' k2 k2M

theorem needV_nodup (l : List S50) (ws : List Int) (hr : Rises l) : (needV l ws).Nodup := by
  unfold needV
  have h1 : l.Pairwise (fun a b => a.f0 < b.f0) := by
    rw [List.pairwise_iff_getElem]
    intro i j hi hj hij
    have := hr i j hij hj
    unfold nth at this
    rwa [List.getD_eq_getElem?_getD, List.getD_eq_getElem?_getD, List.getElem?_eq_getElem hi, List.getElem?_eq_getElem hj] at this
  have h2 := h1.filter (fun g => ws.contains g.f0 && !ws.contains g.f1)
  rw [List.Nodup, List.pairwise_map]
  exact h2.imp (fun h => by omega)

/-- What both find. -/
theorem after_both (l : List S50) (ws wh : List Int) (k : Nat) (h1 : l.length ≤ 60) (h2 : ws.length ≤ 60) (hk : 5000 ≤ k) (hg : ∀ y ∈ l, good50 y) (hw : ∀ y ∈ ws, good3 y) :
    ∃ need e, keep_Need.f k l ws = some (need, e) ∧ need.length ≤ 60 ∧
      ((e = 0 ∧ wh.length = need.length ∧ NeedOk l ws ∧ barqueref12_After.f k l ws wh = some (afterV l ws need wh, 0)) ∨
       ((e ≠ 0 ∨ wh.length ≠ need.length) ∧ barqueref12_After.f k l ws wh = some ([], if e = 0 then 1 else e))) := by
  obtain ⟨⟨need, e⟩, n1, n2, n3⟩ := need_both l ws k h1 h2 (by omega) hg hw
  refine ⟨need, e, n1, n3, ?_⟩
  unfold barqueref12_After.f
  rw [n2]
  simp only [Option.bind_some]
  by_cases he : e = 0
  · rw [if_pos he, if_pos he]
    by_cases hl : wh.length = need.length
    · refine .inl ⟨he, hl, ⟨by omega, by omega, fun g hg' => ⟨(hg g hg').1, (hg g hg').2.1⟩, hw⟩, ?_⟩
      rw [if_pos (by omega)]
      subst he
      obtain ⟨e', c1, c2, c3, _⟩ := check_both l k (by omega)
      unfold keep_Need.f at n1
      rw [c1] at n1
      simp only [Option.bind_some] at n1
      by_cases hz : e' = 0
      · rw [if_pos hz] at n1
        have hr : Rises l := fun a b => (c3 hz).1.rises a b
        have hok : NeedOk l ws := ⟨by omega, by omega, fun g hg' => ⟨(hg g hg').1, (hg g hg').2.1⟩, hw⟩
        rw [if_pos hok] at n1
        have hnd : need.Nodup := by
          split at n1
          · cases n1; exact needV_nodup l ws hr
          · cases n1
        exact after_l0 l ws wh need hnd hl.symm n3 h1 h2 l.length k 0 (by omega) (by omega) (by
          have : l.length * (need.length + 2) ≤ 60 * 62 := Nat.mul_le_mul h1 (by simp only at n3; omega)
          omega)
      · rw [if_neg hz] at n1
        cases n1
        exact absurd rfl hz
    · refine .inr ⟨.inr hl, ?_⟩
      rw [if_neg (by omega)]
  · rw [if_neg he, if_neg he]
    exact .inr ⟨.inl he, rfl⟩

theorem gens_l0 (l : List S50) (h : l.length ≤ 1000000) (d : Nat) : ∀ (k i : Nat), l.length - i = d → i ≤ l.length → d < k → barqueref12_Gens.l0 k l l i = some true := by
  induction d with
  | zero =>
    intro k i hd hi hk
    obtain ⟨k, rfl⟩ : ∃ m, k = m + 1 := ⟨k - 1, by omega⟩
    simp only [barqueref12_Gens.l0]
    rw [if_neg (by omega)]
  | succ d ih =>
    intro k i hd hi hk
    obtain ⟨k, rfl⟩ : ∃ m, k = m + 1 := ⟨k - 1, by omega⟩
    simp only [barqueref12_Gens.l0]
    rw [if_pos (by omega), if_pos (by omega), if_pos (by omega), if_neg (by simp), show wrap64 ((i : Int) + 1) = ((i + 1 : Nat) : Int) by unfold wrap64; omega]
    exact ih k (i + 1) (by omega) (by omega) (by omega)
theorem gens_refl (l : List S50) (h : l.length ≤ 1000000) (k : Nat) (hk : l.length < k) : barqueref12_Gens.f k l l = some true := by
  unfold barqueref12_Gens.f
  rw [if_pos rfl]
  exact gens_l0 l h l.length k 0 (by omega) (by omega) hk
end Go.Proofs.Yteamoejgpcognaa.Pure

-- from YteamoejgpcognaaPAllx24
-- Written by a program of this session (wip/tools/hookprint.py, over the print); Lean checks it.
namespace Go.Proofs.Yteamoejgpcognaa.PAll
open Go.RowKit Go.Proofs.YteamoejgpcognaaW.PrintWords Go.Proofs.YteamoejgpcognaaW.PrintLast Go.Proofs.YteamoejgpcognaaW.PrintMore
attribute [local go_sem] max2_int min2_int max_two min_two max_three min_three max_four min_four   -- for this text's walks alone
set_option linter.unusedVariables false
set_option linter.unusedSimpArgs false

/-! ### slices_Reverse_int_int: function 50 -/
def slices_Reverse_int_int.l0 : Nat → List Int → Int → Int → Option (List Int)
  | 0, _, _, _ => none
  | k + 1, x0, x2, x3 => if x2 < x3 then (if 0 ≤ x3 then (if x3 < (x0.length : Int) then (if 0 ≤ x2 then (if x2 < (x0.length : Int) then (slices_Reverse_int_int.l0 k ((x0.set (x2 : Int).toNat (rd x0 x3)).set (x3 : Int).toNat (rd x0 x2)) (wrap64 (x2 + 1)) (wrap64 (x3 - 1))) else (none)) else (none)) else (none)) else (none)) else (some x0)
def slices_Reverse_int_int.f (k : Nat) (l0 : List Int) : Option (List Int) := slices_Reverse_int_int.l0 k l0 0 (wrap64 ((l0.length : Int) - 1))
theorem slices_Reverse_int_int.mono_l : ∀ k, (∀ y0 y1 y2, LeO (slices_Reverse_int_int.l0 k y0 y1 y2) (slices_Reverse_int_int.l0 (k + 1) y0 y1 y2))
  | 0 => fun _ _ _ r h => by simp [slices_Reverse_int_int.l0] at h
  | k + 1 => by
    have ih0 := slices_Reverse_int_int.mono_l k
    · intro y0 y1 y2
      unfold slices_Reverse_int_int.l0
      repeat' first
      | (with_reducible exact ih0 _ _ _)
      | (with_reducible exact LeO.refl _)
      | (with_reducible exact LeO.none _)
      | (with_reducible refine LeO.ite ?_ ?_)
      | (with_reducible refine LeO.bind ?_ (fun _ => ?_))
      | exact ih0 _ _ _
      | exact LeO.none _
      | refine LeO.ite ?_ ?_
      | refine LeO.bind ?_ (fun _ => ?_)
theorem slices_Reverse_int_int.mono : ∀ a0 k, LeO (slices_Reverse_int_int.f k a0) (slices_Reverse_int_int.f (k + 1) a0) := by
  intro a0 k
  have ih0 := slices_Reverse_int_int.mono_l k
  unfold slices_Reverse_int_int.f
  repeat' first
      | (with_reducible exact ih0 _ _ _)
      | (with_reducible exact LeO.refl _)
      | (with_reducible exact LeO.none _)
      | (with_reducible refine LeO.ite ?_ ?_)
      | (with_reducible refine LeO.bind ?_ (fun _ => ?_))
      | exact ih0 _ _ _
      | exact LeO.none _
      | refine LeO.ite ?_ ?_
      | refine LeO.bind ?_ (fun _ => ?_)
def slices_Reverse_int_int.T3 : Bool × List (List Nat × List Nat) := (true, [([], []), ([], []), ([], []), ([], []), ([], []), ([], []), ([4, 5], [4, 5]), ([6], [6]), ([], []), ([], []), ([8, 9], [8, 9]), ([10], [10]), ([0, 1, 0, 1, 4, 5, 6, 7, 11], [0, 1]), ([12, 7, 0, 1, 4, 5, 6, 7, 11], [7, 12]), ([2, 3, 0, 1, 2, 3, 4, 5, 6, 7, 8, 9, 10, 11, 12, 13], [2, 3]), ([14, 11, 13, 0, 1, 2, 3, 4, 5, 6, 7, 8, 9, 10, 11, 12, 13], [11, 14])])
def slices_Reverse_int_int.B3 : List Nat := [0, 0, 0, 0, 0, 0, 48, 112, 0, 0, 768, 1792, 4083, 8179, 16383, 32767]
theorem slices_Reverse_int_int.tab3 : rtab .any (opsOf Try.f50 3) = slices_Reverse_int_int.T3 := by kernel_rfl
theorem slices_Reverse_int_int.bits3 : waitsOk slices_Reverse_int_int.T3.2 slices_Reverse_int_int.B3 = true := by kernel_rfl
set_option maxHeartbeats 8000000 in
set_option maxRecDepth 100000 in
theorem slices_Reverse_int_int.calls (k : Nat) (P0_ : Nat → Prop) (u9000_ : Value) (l0 : List Int) (r : List Int) (w0 w : World) (hB : Below w0.heap.size w0 w) (ho0 : Kd.R (Kd.int .i64) 3 w w0.heap.size P0_ u9000_ l0) (h : slices_Reverse_int_int.f k l0 = some r) :
    Calls Try.prog 50 #[u9000_] w fun e w' => e = .returned (.tuple #[]) ∧ Kd.R (Kd.int .i64) 3 w' w0.heap.size (fun k_ => (P0_ k_ ∨ w.heap.size ≤ k_)) u9000_ r ∧ Below w0.heap.size w0 w' ∧ Kept w w' (fun k_ => P0_ k_) := by
  have HO0 := Aside0.mk (show Kd.R (Kd.int .i64) 3 w w0.heap.size (fun k_ => (P0_ k_ ∨ w.heap.size ≤ k_)) u9000_ l0 from Kd.R_mono ho0 (fun k_ hk => (.inl hk)))
  have HK := Aside0.mk (Kept.refl w (fun k_ => P0_ k_))
  have HW0 := Aside0.mk hB.size
  have HB := Aside0.mk hB
  clear hB
  have H : (slices_Reverse_int_int.l0 k l0 0 (wrap64 ((l0.length : Int) - 1))) = some r := h
  clear h
  have H' := Aside0.mk H
  clear H
  obtain ⟨Ao2, co2, eo2⟩ := Kd.R_slice HO0.out
  subst eo2
  go_enter Try.func50, Try.ntmps50
  go_wp2
  go_loopg [2, 3] k (fun kq v2 v3 w' => ∃ (x0_1 : List Int) (x2_1 : Int) (x3_1 : Int), v2 = .int .i64 x2_1 ∧ v3 = .int .i64 x3_1 ∧ Aside0 (slices_Reverse_int_int.l0 kq x0_1 x2_1 x3_1 = some r) ∧ Aside0 (kq ≤ k) ∧ Aside0 (Kd.R (Kd.int .i64) 3 w' w0.heap.size (fun k_ => (P0_ k_ ∨ w.heap.size ≤ k_)) (.slice Ao2 l0.length co2) x0_1) ∧ Aside0 (Kept w w' (fun k_ => P0_ k_)) ∧ Aside0 (Below w0.heap.size w0 w'))
  case atStart => exact ⟨(l0), (0), (wrap64 ((l0.length : Int) - 1)), (by first | rfl | (simp; done) | (simp [*]; done)), (by first | rfl | (simp; done) | (simp [*]; done)), H', ⟨Nat.le_refl _⟩, ⟨by (with_reducible repeat (first | apply Kd.R_alloc | apply Kd.R_drewN | apply Kd.R_drew)); exact HO0.out⟩, ⟨by repeat (first | (with_reducible first | exact HK.out | apply Kept.alloc | apply Kept.drewN | apply Kept.drew) | exact HK.out)⟩, ⟨by repeat (first | (with_reducible first | exact HB.out | apply below_alloc | apply pw_below_drewN | apply below_drew1) | exact HB.out)⟩⟩
  case round =>
    clear H'
    try clear p2
    obtain ⟨x0_1, x2_1, x3_1, rfl, rfl, HA, HK1, HO_0, HK, HB⟩ := hrel
    have hl0_1 := (Kd.R_reads' HO_0.out).1
    rw [hl0_1] at HO_0
    (try simp only [hl0_1])
    cases gk with
    | zero => exact absurd HA.out (by simp [slices_Reverse_int_int.l0])
    | succ k1 =>
      have H := HA.out
      clear HA
      simp only [slices_Reverse_int_int.l0] at H
      by_cases c3 : x2_1 < x3_1
      · rw [if_pos c3] at H
        have c3b0 : decide (x2_1 < x3_1) = true := decide_eq_true c3
        clear c3
        by_cases c4 : 0 ≤ x3_1
        · rw [if_pos c4] at H
          have c4b0 : decide (0 ≤ x3_1) = true := decide_eq_true c4
          clear c4
          by_cases c5 : x3_1 < (x0_1.length : Int)
          · rw [if_pos c5] at H
            have c5b0 : decide (x3_1 < (x0_1.length : Int)) = true := decide_eq_true c5
            clear c5
            by_cases c6 : 0 ≤ x2_1
            · rw [if_pos c6] at H
              have c6b0 : decide (0 ≤ x2_1) = true := decide_eq_true c6
              clear c6
              by_cases c7 : x2_1 < (x0_1.length : Int)
              · rw [if_pos c7] at H
                have c7b0 : decide (x2_1 < (x0_1.length : Int)) = true := decide_eq_true c7
                clear c7
                obtain ⟨y221, hy221⟩ : ∃ y_ : List Int, y_ = (x0_1.set (x2_1 : Int).toNat (rd x0_1 x3_1)) := ⟨_, rfl⟩
                replace H : (slices_Reverse_int_int.l0 k1 (y221.set (x3_1 : Int).toNat (rd x0_1 x2_1)) (wrap64 (x2_1 + 1)) (wrap64 (x3_1 - 1))) = some r := by first | (rw [hy221]; with_reducible exact H) | (have H2_ := (Option.bind_some _ _).symm.trans H; rw [hy221]; with_reducible exact H2_) | (have H2_ := (Option.bind_some _ _).symm.trans H; with_reducible exact H2_) | with_reducible exact H | (rw [hy221]; exact H) | exact H
                have Ny221 := Aside0.mk hy221
                clear hy221
                obtain ⟨y222, hy222⟩ : ∃ y_ : List Int, y_ = (y221.set (x3_1 : Int).toNat (rd x0_1 x2_1)) := ⟨_, rfl⟩
                replace H : (slices_Reverse_int_int.l0 k1 y222 (wrap64 (x2_1 + 1)) (wrap64 (x3_1 - 1))) = some r := by first | (rw [hy222]; with_reducible exact H) | (have H2_ := (Option.bind_some _ _).symm.trans H; rw [hy222]; with_reducible exact H2_) | (have H2_ := (Option.bind_some _ _).symm.trans H; with_reducible exact H2_) | with_reducible exact H | (rw [hy222]; exact H) | exact H
                have Ny222 := Aside0.mk hy222
                clear hy222
                have H' := Aside0.mk H
                clear H
                try go_wp2
                have n0_ := Aside0.mk (Kd.R_drew HO_0.out)
                have n1_ := Aside0.mk (Kept.drew HK.out)
                have n2_ := Aside0.mk (below_drew1 HB.out)
                clear HO_0
                clear HK
                clear HB
                have HO_0 := n0_
                have HK := n1_
                have HB := n2_
                clear n0_ n1_ n2_
                have p219 : 0 ≤ (x3_1 : Int) := of_decide_eq_true (by first | (with_reducible assumption) | assumption)
                have q219 : x3_1 < (x0_1.length : Int) := of_decide_eq_true (by first | (with_reducible assumption) | assumption)
                obtain ⟨ad219, e219, hx219_0⟩ := Kd.at_int (Kd.R_reads' HO_0.out).2.2 x3_1 p219 q219
                cases e219
                replace p219 := eq_true p219
                replace q219 := eq_true q219
                have p220 : 0 ≤ (x2_1 : Int) := of_decide_eq_true (by first | (with_reducible assumption) | assumption)
                have q220 : x2_1 < (x0_1.length : Int) := of_decide_eq_true (by first | (with_reducible assumption) | assumption)
                obtain ⟨ad220, e220, hx220_0⟩ := Kd.at_int (Kd.R_reads' HO_0.out).2.2 x2_1 p220 q220
                obtain rfl : ad219 = ad220 := (by injection e220)
                replace p220 := eq_true p220
                replace q220 := eq_true q220
                have p8 : 0 ≤ (x2_1 : Int) := of_decide_eq_true (by first | (with_reducible assumption) | assumption)
                have q8 : (x2_1 : Int) < ((x0_1.length : Int) : Int) := of_decide_eq_true (by first | (with_reducible assumption) | assumption)
                obtain ⟨go8, co8, eo8, gb8, gl8, cl8, HG8⟩ := Kd.R_form HO_0.out (by omega)
                (first | cases eo8 | (injection eo8 with ea_ en_ ec_; (first | subst ea_ | (injection ea_ with ea_; subst ea_)); subst ec_; clear en_))
                have GB8 := Aside0.mk gb8
                have GG8 := Aside0.mk HG8
                clear gb8 gl8 HG8
                have HMgo8 := Aside0.mk (show (P0_ go8 ∨ w.heap.size ≤ go8) from (HO_0.out.1 _ rfl))
                (first | simp only [add_plain] at hx219_0 | skip)
                (first | simp only [add_plain] at hx220_0 | skip)
                obtain ⟨hx8_0, hf8_0⟩ := Kd.R_celln 0 HO_0.out (x2_1 : Int) p8 q8
                replace p8 := eq_true p8
                replace q8 := eq_true q8
                have HP11 := Kd.R_putn HO_0.out (x2_1 : Int) (rd x0_1 x3_1)
                rw [← Ny221.out] at HP11
                have HQ11 := Aside0.mk HP11
                clear HP11
                have p9 : 0 ≤ (x3_1 : Int) := of_decide_eq_true (by first | (with_reducible assumption) | assumption)
                have q9 : (x3_1 : Int) < ((x0_1.length : Int) : Int) := of_decide_eq_true (by first | (with_reducible assumption) | assumption)
                obtain ⟨hx9_0, hf9_0⟩ := Kd.R_celln 0 HQ11.out (x3_1 : Int) p9 q9
                replace p9 := eq_true p9
                replace q9 := eq_true q9
                have HP12 := Kd.R_putn HQ11.out (x3_1 : Int) (rd x0_1 x2_1)
                rw [← Ny222.out] at HP12
                have HQ12 := Aside0.mk HP12
                clear HP12
                refine start_ (n := 16) (S := fun w' => w'.cell? ⟨go8, (x3_1).toNat, none⟩ = some (.int .i64 (rd x0_1 x3_1)) ∧ w'.cell? ⟨go8, (x2_1).toNat, none⟩ = some (.int .i64 (rd x0_1 x2_1))) (ds := [13, 15]) #[false, false, false, false, false, false, false, false, false, false, false, false, false, false, false, false] (by kernel_rfl) rfl rfl ⟨hx219_0, hx220_0⟩ (fun hHeld => ?_); refine with_tabW slices_Reverse_int_int.tab3 slices_Reverse_int_int.bits3 (fun HT_ HW_ => ?_)
                generalize wr.drew = w10 at HO_0 HK HB GG8 HQ11 HQ12 hf8_0 hf9_0 hx219_0 hx220_0 hx8_0 hx9_0 hHeld ⊢
                refine pure_ (i := 0) (N := some 14) (v := ?_) (a' := ?_) #[true, false, false, false, false, false, false, false, false, false, false, false, false, false, false, false] rfl rfl (any_of HT_.out (by kernel_rfl)) (fun _ _ _ h => h) (Or.inl ⟨by rfl, ?_⟩) ?_ ?_
                rotate_left
                · intro w'
                  go_simp
                  with_reducible rfl
                rotate_left
                · simp only [Act.put, List.setIfInBounds_toArray, List.set_cons_zero, List.set_cons_succ, i64_w, i32_w]
                  rfl
                refine pure_ (i := 1) (N := some 15) (v := ?_) (a' := ?_) #[true, true, false, false, false, false, false, false, false, false, false, false, false, false, false, false] rfl rfl (any_of HT_.out (by kernel_rfl)) (fun _ _ _ h => h) (Or.inl ⟨by rfl, ?_⟩) ?_ ?_
                rotate_left
                · intro w'
                  go_simp
                  with_reducible rfl
                rotate_left
                · simp only [Act.put, List.setIfInBounds_toArray, List.set_cons_zero, List.set_cons_succ, i64_w, i32_w]
                  rfl
                refine pure_ (i := 2) (N := some 16) (v := ?_) (a' := ?_) #[true, true, true, false, false, false, false, false, false, false, false, false, false, false, false, false] rfl rfl (any_of HT_.out (by kernel_rfl)) (fun _ _ _ h => h) (Or.inl ⟨by rfl, ?_⟩) ?_ ?_
                rotate_left
                · intro w'
                  go_simp
                  with_reducible rfl
                rotate_left
                · simp only [Act.put, List.setIfInBounds_toArray, List.set_cons_zero, List.set_cons_succ, i64_w, i32_w]
                  rfl
                refine pure_ (i := 3) (N := some 17) (v := ?_) (a' := ?_) #[true, true, true, true, false, false, false, false, false, false, false, false, false, false, false, false] rfl rfl (any_of HT_.out (by kernel_rfl)) (fun _ _ _ h => h) (Or.inl ⟨by rfl, ?_⟩) ?_ ?_
                rotate_left
                · intro w'
                  go_simp
                  with_reducible rfl
                rotate_left
                · simp only [Act.put, List.setIfInBounds_toArray, List.set_cons_zero, List.set_cons_succ, i64_w, i32_w]
                  rfl
                refine pure_ (i := 4) (N := some 18) (v := ?_) (a' := ?_) #[true, true, true, true, true, false, false, false, false, false, false, false, false, false, false, false] rfl rfl (any_of HT_.out (by kernel_rfl)) (fun _ _ _ h => h) (Or.inl ⟨by rfl, ?_⟩) ?_ ?_
                rotate_left
                · intro w'
                  go_simp
                  with_reducible rfl
                rotate_left
                · simp only [Act.put, List.setIfInBounds_toArray, List.set_cons_zero, List.set_cons_succ, i64_w, i32_w]
                  rfl
                refine pure_ (i := 5) (N := some 19) (v := ?_) (a' := ?_) #[true, true, true, true, true, true, false, false, false, false, false, false, false, false, false, false] rfl rfl (any_of HT_.out (by kernel_rfl)) (fun _ _ _ h => h) (Or.inl ⟨by rfl, ?_⟩) ?_ ?_
                rotate_left
                · intro w'
                  go_simp
                  with_reducible rfl
                rotate_left
                · simp only [Act.put, List.setIfInBounds_toArray, List.set_cons_zero, List.set_cons_succ, i64_w, i32_w]
                  rfl
                refine pure_ (i := 6) (N := some 20) (v := ?_) (a' := ?_) #[true, true, true, true, true, true, true, false, false, false, false, false, false, false, false, false] rfl rfl (any_of HT_.out (by kernel_rfl)) (fun _ _ _ h => h) (Or.inl ⟨by rfl, ?_⟩) ?_ ?_
                rotate_left
                · intro w'
                  go_simp
                  with_reducible rfl
                rotate_left
                · simp only [Act.put, List.setIfInBounds_toArray, List.set_cons_zero, List.set_cons_succ, i64_w, i32_w]
                  rfl
                refine pure_ (i := 8) (N := some 22) (v := ?_) (a' := ?_) #[true, true, true, true, true, true, true, false, true, false, false, false, false, false, false, false] rfl rfl (any_of HT_.out (by kernel_rfl)) (fun _ _ _ h => h) (Or.inl ⟨by rfl, ?_⟩) ?_ ?_
                rotate_left
                · intro w'
                  go_simp
                  with_reducible rfl
                rotate_left
                · simp only [Act.put, List.setIfInBounds_toArray, List.set_cons_zero, List.set_cons_succ, i64_w, i32_w]
                  rfl
                refine pure_ (i := 9) (N := some 23) (v := ?_) (a' := ?_) #[true, true, true, true, true, true, true, false, true, true, false, false, false, false, false, false] rfl rfl (any_of HT_.out (by kernel_rfl)) (fun _ _ _ h => h) (Or.inl ⟨by rfl, ?_⟩) ?_ ?_
                rotate_left
                · intro w'
                  go_simp
                  with_reducible rfl
                rotate_left
                · simp only [Act.put, List.setIfInBounds_toArray, List.set_cons_zero, List.set_cons_succ, i64_w, i32_w]
                  rfl
                refine pure_ (i := 10) (N := some 24) (v := ?_) (a' := ?_) #[true, true, true, true, true, true, true, false, true, true, true, false, false, false, false, false] rfl rfl (any_of HT_.out (by kernel_rfl)) (fun _ _ _ h => h) (Or.inl ⟨by rfl, ?_⟩) ?_ ?_
                rotate_left
                · intro w'
                  go_simp
                  with_reducible rfl
                rotate_left
                · simp only [Act.put, List.setIfInBounds_toArray, List.set_cons_zero, List.set_cons_succ, i64_w, i32_w]
                  rfl
                refine take_ (i := 7) (N := some 21) (v := ?_) (a' := ?_) #[true, true, true, true, true, true, true, true, true, true, true, false, false, false, false, false] rfl rfl (take_ofW HT_.out HW_.out (by kernel_rfl)) (fun _ _ _ h => h) (Or.inl ⟨by rfl, ?_⟩) hHeld ?_ ?_
                rotate_left
                · rintro w' ⟨s0, s1⟩
                  go_simp
                  with_reducible rfl
                rotate_left
                · simp only [Act.put, List.setIfInBounds_toArray, List.set_cons_zero, List.set_cons_succ, i64_w, i32_w]
                  rfl
                refine take_ (i := 11) (N := some 25) (v := ?_) (a' := ?_) #[true, true, true, true, true, true, true, true, true, true, true, true, false, false, false, false] rfl rfl (take_ofW HT_.out HW_.out (by kernel_rfl)) (fun _ _ _ h => h) (Or.inl ⟨by rfl, ?_⟩) hHeld ?_ ?_
                rotate_left
                · rintro w' ⟨s0, s1⟩
                  go_simp
                  with_reducible rfl
                rotate_left
                · simp only [Act.put, List.setIfInBounds_toArray, List.set_cons_zero, List.set_cons_succ, i64_w, i32_w]
                  rfl
                refine pure_ (i := 12) (N := some 26) (v := ?_) (a' := ?_) #[true, true, true, true, true, true, true, true, true, true, true, true, true, false, false, false] rfl rfl (any_of HT_.out (by kernel_rfl)) (fun _ _ _ h => h) (Or.inl ⟨by rfl, ?_⟩) ?_ ?_
                rotate_left
                · intro w'
                  go_simp
                  with_reducible rfl
                rotate_left
                · simp only [Act.put, List.setIfInBounds_toArray, List.set_cons_zero, List.set_cons_succ, i64_w, i32_w]
                  rfl
                refine last_ (i := 13) (N := none) #[true, true, true, true, true, true, true, true, true, true, true, true, true, true, false, false] rfl rfl (one_of HT_.out (by kernel_rfl)) (by decide) (fun K hK => ?_)
                refine skip_ (w1 := ?_) (by rfl) rfl ?_ ?_
                rotate_left
                · go_simp
                  rfl
                refine hK.out _ _ ?_
                clear hK K
                refine pure_ (i := 14) (N := some 27) (v := ?_) (a' := ?_) #[true, true, true, true, true, true, true, true, true, true, true, true, true, true, true, false] rfl rfl (any_of HT_.out (by kernel_rfl)) (fun _ _ _ h => h) (Or.inl ⟨by rfl, ?_⟩) ?_ ?_
                rotate_left
                · intro w'
                  go_simp
                  with_reducible rfl
                rotate_left
                · simp only [Act.put, List.setIfInBounds_toArray, List.set_cons_zero, List.set_cons_succ, i64_w, i32_w]
                  rfl
                refine last_ (i := 15) (N := none) #[true, true, true, true, true, true, true, true, true, true, true, true, true, true, true, true] rfl rfl (one_of HT_.out (by kernel_rfl)) (by decide) (fun K hK => ?_)
                refine skip_ (w1 := ?_) (by rfl) rfl ?_ ?_
                rotate_left
                · go_simp
                  rfl
                refine hK.out _ _ ?_
                clear hK K
                refine done_ (done_of HT_.out (by kernel_rfl)) ?_
                try go_wp2
                (try simp only [← hl0_1])
                go_roundg k1
                case measure => have := HK1.out; omega
                case rel => exact ⟨(y222), (wrap64 (x2_1 + 1)), (wrap64 (x3_1 - 1)), (by first | rfl | (simp; done) | (simp [*]; done)), (by first | rfl | (simp; done) | (simp [*]; done)), H', ⟨by have := HK1.out; omega⟩, ⟨by (try simp only [hl0_1]); (with_reducible repeat (first | apply Kd.R_alloc | apply Kd.R_drewN | apply Kd.R_drew)); exact HQ12.out⟩, ⟨by repeat (first | (with_reducible first | exact HK.out | apply Kept.alloc | apply Kept.drewN | apply Kept.drew | refine Kept.setCell ?_ HMgo8.out _ | refine Kept.setCell ?_ HMgo8.out _) | exact HK.out)⟩, ⟨by repeat (first | (with_reducible first | exact HB.out | apply below_alloc | apply pw_below_drewN | apply below_drew1 | refine below_set ?_ GB8.out | refine below_set ?_ GB8.out) | exact HB.out)⟩⟩
              · rw [if_neg c7] at H
                exact absurd H (by simp)
            · rw [if_neg c6] at H
              exact absurd H (by simp)
          · rw [if_neg c5] at H
            exact absurd H (by simp)
        · rw [if_neg c4] at H
          exact absurd H (by simp)
      · rw [if_neg c3] at H
        have c3b0 : decide (x2_1 < x3_1) = false := decide_eq_false c3
        clear c3
        obtain rfl := Option.some.inj H
        go_wp2
        first | go_end0 | ((try simp only [Exit.inBlock, Exit.then]); refine bodyPost_ret (results_none rfl _ _ _) rfl ?_)
        exact ⟨by first | rfl | (simp [errW_none, errW_some] <;> rfl) | (simp [*, errW_none, errW_some] <;> rfl), (by first | exact (by (with_reducible repeat (first | apply Kd.R_alloc | apply Kd.R_drewN | apply Kd.R_drew)); exact HO_0.out) | (simp only [hl0_1]; exact (by (with_reducible repeat (first | apply Kd.R_alloc | apply Kd.R_drewN | apply Kd.R_drew)); exact HO_0.out))), by repeat (first | (with_reducible first | exact HB.out | apply below_alloc | apply pw_below_drewN | apply below_drew1) | exact HB.out), by repeat (first | (with_reducible first | exact HK.out | apply Kept.alloc | apply Kept.drewN | apply Kept.drew) | exact HK.out)⟩

end Go.Proofs.Yteamoejgpcognaa.PAll

-- from YteamoejgpcognaaPAllx25
-- Written by a program of this session (wip/tools/hookprint.py, over the print); Lean checks it.
namespace Go.Proofs.Yteamoejgpcognaa.PAll
open Go.RowKit Go.Proofs.YteamoejgpcognaaW.PrintWords Go.Proofs.YteamoejgpcognaaW.PrintLast Go.Proofs.YteamoejgpcognaaW.PrintMore
attribute [local go_sem] max2_int min2_int max_two min_two max_three min_three max_four min_four   -- for this text's walks alone
set_option linter.unusedVariables false
set_option linter.unusedSimpArgs false

/-! ### keep_Road: function 30 -/
def keep_Road.l0 : Nat → List (S50) → Int → List Int → Option (List Int × Int)
  | 0, _, _, _ => none
  | k + 1, x0, x1, x7 => (keep_place.f x0 x1).bind fun t224 => (if t224 < 0 then (some (([] : List Int), 8)) else (if x7.length < 17592186044416 then ((some (x7 ++ [x1] : List Int)).bind fun y225 => (if 0 ≤ t224 then (if t224 < (x0.length : Int) then (if ((rd_T50 x0 t224).f1) = x1 then ((slices_Reverse_int_int.f k y225).bind fun t229 => (some (t229, 0))) else (keep_Road.l0 k x0 ((rd_T50 x0 t224).f1) y225)) else (none)) else (none))) else (none)))
def keep_Road.f (k : Nat) (l0 : List (S50)) (a1 : Int) : Option (List Int × Int) := (keep_Check.f k l0).bind fun t223 => (if t223 = 0 then (keep_Road.l0 k l0 a1 ([] : List Int)) else (some (([] : List Int), t223)))
theorem keep_Road.mono_l : ∀ k, (∀ y0 y1 y2, LeO (keep_Road.l0 k y0 y1 y2) (keep_Road.l0 (k + 1) y0 y1 y2))
  | 0 => fun _ _ _ r h => by simp [keep_Road.l0] at h
  | k + 1 => by
    have ih0 := keep_Road.mono_l k
    · intro y0 y1 y2
      unfold keep_Road.l0
      repeat' first
      | (with_reducible exact ih0 _ _ _)
      | (with_reducible exact keep_Check.mono _ _)
      | (with_reducible exact slices_Reverse_int_int.mono _ _)
      | (with_reducible exact LeO.refl _)
      | (with_reducible exact LeO.none _)
      | (with_reducible refine LeO.ite ?_ ?_)
      | (with_reducible refine LeO.bind ?_ (fun _ => ?_))
      | exact ih0 _ _ _
      | exact keep_Check.mono _ _
      | exact slices_Reverse_int_int.mono _ _
      | exact LeO.none _
      | refine LeO.ite ?_ ?_
      | refine LeO.bind ?_ (fun _ => ?_)
theorem keep_Road.mono : ∀ a0 a1 k, LeO (keep_Road.f k a0 a1) (keep_Road.f (k + 1) a0 a1) := by
  intro a0 a1 k
  have ih0 := keep_Road.mono_l k
  unfold keep_Road.f
  repeat' first
      | (with_reducible exact ih0 _ _ _)
      | (with_reducible exact keep_Check.mono _ _)
      | (with_reducible exact slices_Reverse_int_int.mono _ _)
      | (with_reducible exact LeO.refl _)
      | (with_reducible exact LeO.none _)
      | (with_reducible refine LeO.ite ?_ ?_)
      | (with_reducible refine LeO.bind ?_ (fun _ => ?_))
      | exact ih0 _ _ _
      | exact keep_Check.mono _ _
      | exact slices_Reverse_int_int.mono _ _
      | exact LeO.none _
      | refine LeO.ite ?_ ?_
      | refine LeO.bind ?_ (fun _ => ?_)
set_option maxHeartbeats 8000000 in
set_option maxRecDepth 100000 in
theorem keep_Road.calls (k : Nat) (A0 : Option Addr) (c0 : Nat) (l0 : List (S50)) (a1 : Int) (r1 : List Int) (r2 : Int) (w : World) (hr0 : Kd.C k50 w A0 l0.length l0) (hc0 : l0.length ≤ c0) (h : keep_Road.f k l0 a1 = some (r1, r2)) :
    Calls Try.prog 30 #[.slice A0 l0.length c0, .int .i64 a1] w fun e w' => ∃ v0_ : Value, e = .returned (.tuple #[v0_, .int .i64 r2]) ∧ Kd.R (Kd.int .i64) 3 w' w.heap.size (fun _ => True) v0_ r1 ∧ Below w.heap.size w w' := by
  have HR0 := Aside0.mk hr0
  have HC0 := Aside0.mk hc0
  clear hr0 hc0
  have HB := Aside0.mk (Below.refl w.heap.size w)
  have H : ((keep_Check.f k l0).bind fun t223 => (if t223 = 0 then (keep_Road.l0 k l0 a1 ([] : List Int)) else (some (([] : List Int), t223)))) = some (r1, r2) := h
  clear h
  replace H := Option.bind_eq_some_iff.mp H
  obtain ⟨t223, A30, H⟩ := H
  replace H : (if t223 = 0 then (keep_Road.l0 k l0 a1 ([] : List Int)) else (some (([] : List Int), t223))) = some (r1, r2) := H
  have A3 := Aside0.mk A30
  clear A30
  by_cases c4 : t223 = 0
  · rw [if_pos c4] at H
    have c4b0 : (t223 == 0) = true := beq_iff_eq.mpr c4
    have c4b1 : (t223 != 0) = false := bne_eq_false_iff_eq.mpr c4
    clear c4
    have H' := Aside0.mk H
    clear H
    go_enter Try.func30, Try.ntmps30
    go_wp2_with (first | ((with_reducible refine gate_callee (f := 39) rfl ?_); refine goesL_ (some 10) rfl rfl Try.func39 (by kernel_rfl) rfl #[.slice A0 l0.length c0] rfl (by (try simp only [List.map_toArray, List.map_cons, List.map_nil]); first | done | rfl | (simp only [List.length_drop, List.length_take]; rfl)) ?_; (with_reducible refine (keep_Check.calls k _ _ l0 t223 _ ?side1 ?side2 A3.out).mono ?_); (case side1 => repeat (first | exact HR0.out | (with_reducible refine Kd.C_alloc ?_ _) | (with_reducible refine Kd.C_drewN ?_ _) | (with_reducible refine Kd.C_drew ?_))); (case side2 => exact HC0.out); rintro e w5 ⟨rfl, hb⟩; refine ⟨_, rfl, ?_⟩; have n0_ := Aside0.mk (below_step (by repeat (first | (with_reducible first | exact HB.out | apply below_alloc | apply pw_below_drewN | apply below_drew1) | exact HB.out)) hb); clear HB; have HB := n0_; clear n0_; (try clear hb); (try clear hb2); (try clear hk); (try clear hi)))
    go_loopg [1, 7] k (fun kq v1 v7 w' => ∃ (x1_1 : Int) (x7_1 : List Int), v1 = .int .i64 x1_1 ∧ Aside0 (keep_Road.l0 kq l0 x1_1 x7_1 = some (r1, r2)) ∧ Aside0 (kq ≤ k) ∧ Aside0 (Kd.R (Kd.int .i64) 3 w' w.heap.size (fun _ => True) v7 x7_1) ∧ Aside0 (Below w.heap.size w w'))
    case atStart => exact ⟨(a1), (([] : List Int)), (by first | rfl | (simp; done) | (simp [*]; done)), H', ⟨Nat.le_refl _⟩, ⟨by first | exact Kd.R_nil _ _ _ _ _ | exact Kd.N_nil _ _ _ _ _ | exact Kd.V_nil _ _ _ _ _ | exact Kd.Q_nil _ _ _ _ _ | exact Kd.S_nil _ _ _ _ _⟩, ⟨by repeat (first | (with_reducible first | exact HB.out | apply below_alloc | apply pw_below_drewN | apply below_drew1) | exact HB.out)⟩⟩
    case round =>
      clear H'
      try clear p2
      try clear c3
      try clear c4
      try clear c4b0
      try clear c4b1
      obtain ⟨x1_1, x7_1, rfl, HA, HK1, HO_7, HB⟩ := hrel
      cases gk with
      | zero => exact absurd HA.out (by simp [keep_Road.l0])
      | succ k1 =>
        have H := HA.out
        clear HA
        simp only [keep_Road.l0] at H
        replace H := Option.bind_eq_some_iff.mp H
        obtain ⟨t224, A60, H⟩ := H
        replace H : (if t224 < 0 then (some (([] : List Int), 8)) else (if x7_1.length < 17592186044416 then ((some (x7_1 ++ [x1_1] : List Int)).bind fun y225 => (if 0 ≤ t224 then (if t224 < (l0.length : Int) then (if ((rd_T50 l0 t224).f1) = x1_1 then ((slices_Reverse_int_int.f k1 y225).bind fun t229 => (some (t229, 0))) else (keep_Road.l0 k1 l0 ((rd_T50 l0 t224).f1) y225)) else (none)) else (none))) else (none))) = some (r1, r2) := H
        have A6 := Aside0.mk A60
        clear A60
        by_cases c7 : t224 < 0
        · rw [if_pos c7] at H
          have c7b0 : decide (t224 < 0) = true := decide_eq_true c7
          clear c7
          simp only [Option.some.injEq, Prod.mk.injEq] at H
          obtain ⟨rfl, rfl⟩ := H
          go_wp2_with (first | ((with_reducible refine gate_callee (f := 48) rfl ?_); refine goesL_ (some 16) rfl rfl Try.func48 (by kernel_rfl) rfl #[.slice A0 l0.length c0, .int .i64 x1_1] rfl (by (try simp only [List.map_toArray, List.map_cons, List.map_nil]); first | done | rfl | (simp only [List.length_drop, List.length_take]; rfl)) ?_; (with_reducible refine (keep_place.calls _ _ l0 x1_1 t224 _ ?side1 ?side2 A6.out).mono ?_); (case side1 => repeat (first | exact (Kd.C_below HR0.out HB.out) | (with_reducible refine Kd.C_alloc ?_ _) | (with_reducible refine Kd.C_drewN ?_ _) | (with_reducible refine Kd.C_drew ?_))); (case side2 => exact HC0.out); rintro e w8 ⟨rfl, hb⟩; refine ⟨_, rfl, ?_⟩; have n0_ := Aside0.mk (Kd.R_below (by (with_reducible repeat (first | apply Kd.R_alloc | apply Kd.R_drewN | apply Kd.R_drew)); exact HO_7.out) hb); have n1_ := Aside0.mk (below_step (by repeat (first | (with_reducible first | exact HB.out | apply below_alloc | apply pw_below_drewN | apply below_drew1) | exact HB.out)) hb); clear HO_7; clear HB; have HO_7 := n0_; have HB := n1_; clear n0_ n1_; (try clear hb); (try clear hb2); (try clear hk); (try clear hi)))
          go_ret2
          exact ⟨_, by first | rfl | (simp [errW_none, errW_some] <;> rfl) | (simp [*, errW_none, errW_some] <;> rfl), by first | exact Kd.R_nil _ _ _ _ _ | exact Kd.N_nil _ _ _ _ _ | exact Kd.V_nil _ _ _ _ _ | exact Kd.Q_nil _ _ _ _ _ | exact Kd.S_nil _ _ _ _ _, by repeat (first | (with_reducible first | exact HB.out | apply below_alloc | apply pw_below_drewN | apply below_drew1) | exact HB.out)⟩
        · rw [if_neg c7] at H
          have c7b0 : decide (t224 < 0) = false := decide_eq_false c7
          clear c7
          by_cases c9 : x7_1.length < 17592186044416
          · rw [if_pos c9] at H
            have LMc9 := Aside0.mk c9
            clear c9
            obtain ⟨y225, hy225⟩ : ∃ y_ : List Int, y_ = (x7_1 ++ [x1_1]) := ⟨_, rfl⟩
            replace H : (if 0 ≤ t224 then (if t224 < (l0.length : Int) then (if ((rd_T50 l0 t224).f1) = x1_1 then ((slices_Reverse_int_int.f k1 y225).bind fun t229 => (some (t229, 0))) else (keep_Road.l0 k1 l0 ((rd_T50 l0 t224).f1) y225)) else (none)) else (none)) = some (r1, r2) := by first | (rw [hy225]; with_reducible exact H) | (have H2_ := (Option.bind_some _ _).symm.trans H; rw [hy225]; with_reducible exact H2_) | (have H2_ := (Option.bind_some _ _).symm.trans H; with_reducible exact H2_) | with_reducible exact H | (rw [hy225]; exact H) | exact H
            have Ny225 := Aside0.mk hy225
            clear hy225
            by_cases c10 : 0 ≤ t224
            · rw [if_pos c10] at H
              have c10b0 : decide (0 ≤ t224) = true := decide_eq_true c10
              clear c10
              by_cases c11 : t224 < (l0.length : Int)
              · rw [if_pos c11] at H
                have c11b0 : decide (t224 < (l0.length : Int)) = true := decide_eq_true c11
                clear c11
                by_cases c12 : ((rd_T50 l0 t224).f1) = x1_1
                · rw [if_pos c12] at H
                  have c12b0 : (((rd_T50 l0 t224).f1) == x1_1) = true := beq_iff_eq.mpr c12
                  have c12b1 : (((rd_T50 l0 t224).f1) != x1_1) = false := bne_eq_false_iff_eq.mpr c12
                  clear c12
                  replace H := Option.bind_eq_some_iff.mp H
                  obtain ⟨t229, A130, H⟩ := H
                  replace H : (some (t229, 0)) = some (r1, r2) := H
                  have A13 := Aside0.mk A130
                  clear A130
                  simp only [Option.some.injEq, Prod.mk.injEq] at H
                  obtain ⟨rfl, rfl⟩ := H
                  go_wp2_with (first | ((with_reducible refine gate_callee (f := 48) rfl ?_); refine goesL_ (some 16) rfl rfl Try.func48 (by kernel_rfl) rfl #[.slice A0 l0.length c0, .int .i64 x1_1] rfl (by (try simp only [List.map_toArray, List.map_cons, List.map_nil]); first | done | rfl | (simp only [List.length_drop, List.length_take]; rfl)) ?_; (with_reducible refine (keep_place.calls _ _ l0 x1_1 t224 _ ?side1 ?side2 A6.out).mono ?_); (case side1 => repeat (first | exact (Kd.C_below HR0.out HB.out) | (with_reducible refine Kd.C_alloc ?_ _) | (with_reducible refine Kd.C_drewN ?_ _) | (with_reducible refine Kd.C_drew ?_))); (case side2 => exact HC0.out); rintro e w14 ⟨rfl, hb⟩; refine ⟨_, rfl, ?_⟩; have n0_ := Aside0.mk (Kd.R_below (by (with_reducible repeat (first | apply Kd.R_alloc | apply Kd.R_drewN | apply Kd.R_drew)); exact HO_7.out) hb); have n1_ := Aside0.mk (below_step (by repeat (first | (with_reducible first | exact HB.out | apply below_alloc | apply pw_below_drewN | apply below_drew1) | exact HB.out)) hb); clear HO_7; clear HB; have HO_7 := n0_; have HB := n1_; clear n0_ n1_; (try clear hb); (try clear hb2); (try clear hk); (try clear hi)) | ((with_reducible refine gate_builtin (b := .append) (xs := #[.tmp 19, .tmp 21]) rfl ?_); at_builtin; refine Kd.R_append (Kd.int .i64) (w0 := w) w.heap.size rfl (.tmp 19) (.tmp 21) 34 3 (.int .i64 0) 8 rfl Try.underlying34 info3 rfl (by decide) (by omega) u7 x7_1 x1_1 [.int .i64 x1_1] (fun _ => True) (fun _ => False) rfl rfl ?aP (fun _ hk => hk.elim) ?aF ?aO ?aB ?aS ?aL ?_; (case aP => exact rfl); (case aB => exact (by repeat (first | (with_reducible first | exact HB.out | apply below_alloc | apply pw_below_drewN | apply below_drew1) | exact HB.out))); (case aF => exact (fun _ _ => trivial)); (case aO => exact (by (with_reducible repeat (first | apply Kd.R_alloc | apply Kd.R_drewN | apply Kd.R_drew)); exact HO_7.out)); (case aS => exact (below_size (by repeat (first | (with_reducible first | exact HB.out | apply below_alloc | apply pw_below_drewN | apply below_drew1) | exact HB.out)))); (case aL => have := LMc9.out; omega); intro v226 w15 ho hb hg hat; rw [← Ny225.out] at ho; have n0_ := Aside0.mk (hb); have n1_ := Aside0.mk (ho); clear HB; clear HO_7; have HB := n0_; have HO227 := n1_; clear n0_ n1_; clear ho hb hg hat; have p228 : 0 ≤ (t224 : Int) := of_decide_eq_true (by first | (with_reducible assumption) | assumption); have q228 : t224 < (l0.length : Int) := of_decide_eq_true (by first | (with_reducible assumption) | assumption); obtain ⟨ad228, e228, hx228_0, hx228_1, hx228_2, hx228_3⟩ := at_T50 HR0.out t224 p228 q228; cases e228; replace hx228_0 := (HB.out.cell (World.block_lt_of_cell? w _ hx228_0)).trans hx228_0; replace hx228_1 := (HB.out.cell (World.block_lt_of_cell? w _ hx228_1)).trans hx228_1; replace hx228_2 := (HB.out.cell (World.block_lt_of_cell? w _ hx228_2)).trans hx228_2; replace hx228_3 := (HB.out.cell (World.block_lt_of_cell? w _ hx228_3)).trans hx228_3; replace p228 := eq_true p228; replace q228 := eq_true q228; obtain ⟨Ao16, co16, eo16⟩ := Kd.R_slice HO227.out; subst eo16) | ((with_reducible refine gate_callee (f := 50) rfl ?_); refine goesL_ (some 36) rfl rfl Try.func50 (by kernel_rfl) rfl #[.slice Ao16 y225.length co16] rfl (by (try simp only [List.map_toArray, List.map_cons, List.map_nil]); first | done | rfl | (simp only [List.length_drop, List.length_take]; rfl)) ?_; (with_reducible refine (slices_Reverse_int_int.calls k1 (fun k_ => some k_ = (.slice Ao16 y225.length co16 : Value).ownBlock) (.slice Ao16 y225.length co16) y225 t229 w _ ?side1 ?side2 A13.out).mono ?_); (case side1 => repeat (first | (with_reducible first | exact HB.out | apply below_alloc | apply pw_below_drewN | apply below_drew1) | exact HB.out)); (case side2 => exact Kd.R_tight rfl HO227.out); rintro e w17 ⟨rfl, hy0, hb, hkp⟩; refine ⟨_, rfl, ?_⟩; have n0_ := Aside0.mk (Kd.R_reok rfl hy0 (fun k_ e_ => HO227.out.1 k_ e_)); have n1_ := Aside0.mk (hb); clear HO227; clear HB; have HO227 := n0_; have HB := n1_; clear n0_ n1_; (try clear hb); (try clear hkp); (try clear hy0)))
                  go_ret2
                  exact ⟨_, by first | rfl | (simp [errW_none, errW_some] <;> rfl) | (simp [*, errW_none, errW_some] <;> rfl), by (with_reducible repeat (first | apply Kd.R_alloc | apply Kd.R_drewN | apply Kd.R_drew)); exact HO227.out, by repeat (first | (with_reducible first | exact HB.out | apply below_alloc | apply pw_below_drewN | apply below_drew1) | exact HB.out)⟩
                · rw [if_neg c12] at H
                  have c12b0 : (((rd_T50 l0 t224).f1) == x1_1) = false := beq_eq_false_iff_ne.mpr c12
                  have c12b1 : (((rd_T50 l0 t224).f1) != x1_1) = true := bne_iff_ne.mpr c12
                  have H' := Aside0.mk H
                  clear H
                  go_wp2_with (first | ((with_reducible refine gate_callee (f := 48) rfl ?_); refine goesL_ (some 16) rfl rfl Try.func48 (by kernel_rfl) rfl #[.slice A0 l0.length c0, .int .i64 x1_1] rfl (by (try simp only [List.map_toArray, List.map_cons, List.map_nil]); first | done | rfl | (simp only [List.length_drop, List.length_take]; rfl)) ?_; (with_reducible refine (keep_place.calls _ _ l0 x1_1 t224 _ ?side1 ?side2 A6.out).mono ?_); (case side1 => repeat (first | exact (Kd.C_below HR0.out HB.out) | (with_reducible refine Kd.C_alloc ?_ _) | (with_reducible refine Kd.C_drewN ?_ _) | (with_reducible refine Kd.C_drew ?_))); (case side2 => exact HC0.out); rintro e w18 ⟨rfl, hb⟩; refine ⟨_, rfl, ?_⟩; have n0_ := Aside0.mk (Kd.R_below (by (with_reducible repeat (first | apply Kd.R_alloc | apply Kd.R_drewN | apply Kd.R_drew)); exact HO_7.out) hb); have n1_ := Aside0.mk (below_step (by repeat (first | (with_reducible first | exact HB.out | apply below_alloc | apply pw_below_drewN | apply below_drew1) | exact HB.out)) hb); clear HO_7; clear HB; have HO_7 := n0_; have HB := n1_; clear n0_ n1_; (try clear hb); (try clear hb2); (try clear hk); (try clear hi)) | ((with_reducible refine gate_builtin (b := .append) (xs := #[.tmp 19, .tmp 21]) rfl ?_); at_builtin; refine Kd.R_append (Kd.int .i64) (w0 := w) w.heap.size rfl (.tmp 19) (.tmp 21) 34 3 (.int .i64 0) 8 rfl Try.underlying34 info3 rfl (by decide) (by omega) u7 x7_1 x1_1 [.int .i64 x1_1] (fun _ => True) (fun _ => False) rfl rfl ?aP (fun _ hk => hk.elim) ?aF ?aO ?aB ?aS ?aL ?_; (case aP => exact rfl); (case aB => exact (by repeat (first | (with_reducible first | exact HB.out | apply below_alloc | apply pw_below_drewN | apply below_drew1) | exact HB.out))); (case aF => exact (fun _ _ => trivial)); (case aO => exact (by (with_reducible repeat (first | apply Kd.R_alloc | apply Kd.R_drewN | apply Kd.R_drew)); exact HO_7.out)); (case aS => exact (below_size (by repeat (first | (with_reducible first | exact HB.out | apply below_alloc | apply pw_below_drewN | apply below_drew1) | exact HB.out)))); (case aL => have := LMc9.out; omega); intro v226 w19 ho hb hg hat; rw [← Ny225.out] at ho; have n0_ := Aside0.mk (hb); have n1_ := Aside0.mk (ho); clear HB; clear HO_7; have HB := n0_; have HO227 := n1_; clear n0_ n1_; clear ho hb hg hat; have p228 : 0 ≤ (t224 : Int) := of_decide_eq_true (by first | (with_reducible assumption) | assumption); have q228 : t224 < (l0.length : Int) := of_decide_eq_true (by first | (with_reducible assumption) | assumption); obtain ⟨ad228, e228, hx228_0, hx228_1, hx228_2, hx228_3⟩ := at_T50 HR0.out t224 p228 q228; cases e228; replace hx228_0 := (HB.out.cell (World.block_lt_of_cell? w _ hx228_0)).trans hx228_0; replace hx228_1 := (HB.out.cell (World.block_lt_of_cell? w _ hx228_1)).trans hx228_1; replace hx228_2 := (HB.out.cell (World.block_lt_of_cell? w _ hx228_2)).trans hx228_2; replace hx228_3 := (HB.out.cell (World.block_lt_of_cell? w _ hx228_3)).trans hx228_3; replace p228 := eq_true p228; replace q228 := eq_true q228; have p230 : 0 ≤ (t224 : Int) := of_decide_eq_true (by first | (with_reducible assumption) | assumption); have q230 : t224 < (l0.length : Int) := of_decide_eq_true (by first | (with_reducible assumption) | assumption); obtain ⟨ad230, e230, hx230_0, hx230_1, hx230_2, hx230_3⟩ := at_T50 HR0.out t224 p230 q230; obtain rfl : ad228 = ad230 := (by injection e230); replace hx230_0 := (HB.out.cell (World.block_lt_of_cell? w _ hx230_0)).trans hx230_0; replace hx230_1 := (HB.out.cell (World.block_lt_of_cell? w _ hx230_1)).trans hx230_1; replace hx230_2 := (HB.out.cell (World.block_lt_of_cell? w _ hx230_2)).trans hx230_2; replace hx230_3 := (HB.out.cell (World.block_lt_of_cell? w _ hx230_3)).trans hx230_3; replace p230 := eq_true p230; replace q230 := eq_true q230))
                  go_roundg k1
                  case measure => have := HK1.out; omega
                  case rel => exact ⟨((rd_T50 l0 t224).f1), (y225), (by first | rfl | (simp; done) | (simp [*]; done)), H', ⟨by have := HK1.out; omega⟩, ⟨by (with_reducible repeat (first | apply Kd.R_alloc | apply Kd.R_drewN | apply Kd.R_drew)); exact HO227.out⟩, ⟨by repeat (first | (with_reducible first | exact HB.out | apply below_alloc | apply pw_below_drewN | apply below_drew1) | exact HB.out)⟩⟩
              · rw [if_neg c11] at H
                exact absurd H (by simp)
            · rw [if_neg c10] at H
              exact absurd H (by simp)
          · rw [if_neg c9] at H
            exact absurd H (by simp)
  · rw [if_neg c4] at H
    have c4b0 : (t223 == 0) = false := beq_eq_false_iff_ne.mpr c4
    have c4b1 : (t223 != 0) = true := bne_iff_ne.mpr c4
    simp only [Option.some.injEq, Prod.mk.injEq] at H
    obtain ⟨rfl, rfl⟩ := H
    go_enter Try.func30, Try.ntmps30
    go_wp2_with (first | ((with_reducible refine gate_callee (f := 39) rfl ?_); refine goesL_ (some 10) rfl rfl Try.func39 (by kernel_rfl) rfl #[.slice A0 l0.length c0] rfl (by (try simp only [List.map_toArray, List.map_cons, List.map_nil]); first | done | rfl | (simp only [List.length_drop, List.length_take]; rfl)) ?_; (with_reducible refine (keep_Check.calls k _ _ l0 t223 _ ?side1 ?side2 A3.out).mono ?_); (case side1 => repeat (first | exact HR0.out | (with_reducible refine Kd.C_alloc ?_ _) | (with_reducible refine Kd.C_drewN ?_ _) | (with_reducible refine Kd.C_drew ?_))); (case side2 => exact HC0.out); rintro e w20 ⟨rfl, hb⟩; refine ⟨_, rfl, ?_⟩; have n0_ := Aside0.mk (below_step (by repeat (first | (with_reducible first | exact HB.out | apply below_alloc | apply pw_below_drewN | apply below_drew1) | exact HB.out)) hb); clear HB; have HB := n0_; clear n0_; (try clear hb); (try clear hb2); (try clear hk); (try clear hi)))
    go_ret2
    exact ⟨_, by first | rfl | (simp [errW_none, errW_some] <;> rfl) | (simp [*, errW_none, errW_some] <;> rfl), by first | exact Kd.R_nil _ _ _ _ _ | exact Kd.N_nil _ _ _ _ _ | exact Kd.V_nil _ _ _ _ _ | exact Kd.Q_nil _ _ _ _ _ | exact Kd.S_nil _ _ _ _ _, by repeat (first | (with_reducible first | exact HB.out | apply below_alloc | apply pw_below_drewN | apply below_drew1) | exact HB.out)⟩

end Go.Proofs.Yteamoejgpcognaa.PAll

-- from YteamoejgpcognaaPAllx34
-- Written by a program of this session (wip/tools/hookprint.py, over the print); Lean checks it.
namespace Go.Proofs.Yteamoejgpcognaa.PAll
open Go.RowKit Go.Proofs.YteamoejgpcognaaW.PrintWords Go.Proofs.YteamoejgpcognaaW.PrintLast Go.Proofs.YteamoejgpcognaaW.PrintMore
attribute [local go_sem] max2_int min2_int max_two min_two max_three min_three max_four min_four   -- for this text's walks alone
set_option linter.unusedVariables false
set_option linter.unusedSimpArgs false

/-! ### keep_Cost: function 32 -/
def keep_Cost.l0 : Nat → List (S50) → Int → List Int → Int → Int → Option (Int × Int)
  | 0, _, _, _, _, _ => none
  | k + 1, x0, x8, x20, x21, x22 => if x22 < x21 then (if 0 ≤ x22 then (if x22 < (x20.length : Int) then ((keep_place.f x0 (rd x20 x22)).bind fun t279 => (if 0 ≤ t279 then (if t279 < (x0.length : Int) then (keep_Cost.l0 k x0 (wrap64 (x8 + ((rd_T50 x0 t279).f2))) x20 x21 (wrap64 (x22 + 1))) else (none)) else (none))) else (none)) else (none)) else (some (x8, 0))
def keep_Cost.f (k : Nat) (l0 : List (S50)) (a1 : Int) : Option (Int × Int) := (keep_Road.f k l0 a1).bind fun bt274 => (if bt274.2 = 0 then (keep_Cost.l0 k l0 0 bt274.1 (bt274.1.length : Int) 0) else (some (0, bt274.2)))
theorem keep_Cost.mono_l : ∀ k, (∀ y0 y1 y2 y3 y4, LeO (keep_Cost.l0 k y0 y1 y2 y3 y4) (keep_Cost.l0 (k + 1) y0 y1 y2 y3 y4))
  | 0 => fun _ _ _ _ _ r h => by simp [keep_Cost.l0] at h
  | k + 1 => by
    have ih0 := keep_Cost.mono_l k
    · intro y0 y1 y2 y3 y4
      unfold keep_Cost.l0
      repeat' first
      | (with_reducible exact ih0 _ _ _ _ _)
      | (with_reducible exact keep_Road.mono _ _ _)
      | (with_reducible exact LeO.refl _)
      | (with_reducible exact LeO.none _)
      | (with_reducible refine LeO.ite ?_ ?_)
      | (with_reducible refine LeO.bind ?_ (fun _ => ?_))
      | exact ih0 _ _ _ _ _
      | exact keep_Road.mono _ _ _
      | exact LeO.none _
      | refine LeO.ite ?_ ?_
      | refine LeO.bind ?_ (fun _ => ?_)
theorem keep_Cost.mono : ∀ a0 a1 k, LeO (keep_Cost.f k a0 a1) (keep_Cost.f (k + 1) a0 a1) := by
  intro a0 a1 k
  have ih0 := keep_Cost.mono_l k
  unfold keep_Cost.f
  repeat' first
      | (with_reducible exact ih0 _ _ _ _ _)
      | (with_reducible exact keep_Road.mono _ _ _)
      | (with_reducible exact LeO.refl _)
      | (with_reducible exact LeO.none _)
      | (with_reducible refine LeO.ite ?_ ?_)
      | (with_reducible refine LeO.bind ?_ (fun _ => ?_))
      | exact ih0 _ _ _ _ _
      | exact keep_Road.mono _ _ _
      | exact LeO.none _
      | refine LeO.ite ?_ ?_
      | refine LeO.bind ?_ (fun _ => ?_)
set_option maxHeartbeats 8000000 in
set_option maxRecDepth 100000 in
theorem keep_Cost.calls (k : Nat) (A0 : Option Addr) (c0 : Nat) (l0 : List (S50)) (a1 : Int) (r1 : Int) (r2 : Int) (w : World) (hr0 : Kd.C k50 w A0 l0.length l0) (hc0 : l0.length ≤ c0) (h : keep_Cost.f k l0 a1 = some (r1, r2)) :
    Calls Try.prog 32 #[.slice A0 l0.length c0, .int .i64 a1] w fun e w' => e = .returned (.tuple #[.int .i64 r1, .int .i64 r2]) ∧ Below w.heap.size w w' := by
  have HR0 := Aside0.mk hr0
  have HC0 := Aside0.mk hc0
  clear hr0 hc0
  have HB := Aside0.mk (Below.refl w.heap.size w)
  have H : ((keep_Road.f k l0 a1).bind fun bt274 => (if bt274.2 = 0 then (keep_Cost.l0 k l0 0 bt274.1 (bt274.1.length : Int) 0) else (some (0, bt274.2)))) = some (r1, r2) := h
  clear h
  replace H := Option.bind_eq_some_iff.mp H
  obtain ⟨⟨t274, t275⟩, A30, H⟩ := H
  replace H : (if t275 = 0 then (keep_Cost.l0 k l0 0 t274 (t274.length : Int) 0) else (some (0, t275))) = some (r1, r2) := H
  have A3 := Aside0.mk A30
  clear A30
  by_cases c4 : t275 = 0
  · rw [if_pos c4] at H
    have c4b0 : (t275 == 0) = true := beq_iff_eq.mpr c4
    have c4b1 : (t275 != 0) = false := bne_eq_false_iff_eq.mpr c4
    clear c4
    have H' := Aside0.mk H
    clear H
    go_enter Try.func32, Try.ntmps32
    go_wp2_with (first | ((with_reducible refine gate_callee (f := 30) rfl ?_); refine goesL_ (some 14) rfl rfl Try.func30 (by kernel_rfl) rfl #[.slice A0 l0.length c0, .int .i64 a1] rfl (by (try simp only [List.map_toArray, List.map_cons, List.map_nil]); first | done | rfl | (simp only [List.length_drop, List.length_take]; rfl)) ?_; (with_reducible refine (keep_Road.calls k _ _ l0 a1 t274 t275 _ ?side1 ?side2 A3.out).mono ?_); (case side1 => repeat (first | exact HR0.out | (with_reducible refine Kd.C_alloc ?_ _) | (with_reducible refine Kd.C_drewN ?_ _) | (with_reducible refine Kd.C_drew ?_))); (case side2 => exact HC0.out); rintro e w5 ⟨v276, rfl, ho0, hb⟩; refine ⟨_, rfl, ?_⟩; have n0_ := Aside0.mk (Kd.R_lower ho0 (below_size (by repeat (first | (with_reducible first | exact HB.out | apply below_alloc | apply pw_below_drewN | apply below_drew1) | exact HB.out)))); have n1_ := Aside0.mk (below_step (by repeat (first | (with_reducible first | exact HB.out | apply below_alloc | apply pw_below_drewN | apply below_drew1) | exact HB.out)) hb); clear HB; have HO277 := n0_; have HB := n1_; clear n0_ n1_; (try clear hb); (try clear hb2); (try clear hk); (try clear hi); (try clear ho0); obtain ⟨Ao6, co6, eo6⟩ := Kd.R_slice HO277.out; subst eo6))
    go_loopg [8, 22] k (fun kq v8 v22 w' => ∃ (x8_1 : Int) (x22_1 : Int), v8 = .int .i64 x8_1 ∧ v22 = .int .i64 x22_1 ∧ Aside0 (keep_Cost.l0 kq l0 x8_1 t274 (t274.length : Int) x22_1 = some (r1, r2)) ∧ Aside0 (kq ≤ k) ∧ Aside0 (Kd.R (Kd.int .i64) 3 w' w.heap.size (fun _ => True) (.slice Ao6 t274.length co6) t274) ∧ Aside0 (Below w.heap.size w w'))
    case atStart => exact ⟨(0), (0), (by first | rfl | (simp; done) | (simp [*]; done)), (by first | rfl | (simp; done) | (simp [*]; done)), H', ⟨Nat.le_refl _⟩, ⟨by (with_reducible repeat (first | apply Kd.R_alloc | apply Kd.R_drewN | apply Kd.R_drew)); exact HO277.out⟩, ⟨by repeat (first | (with_reducible first | exact HB.out | apply below_alloc | apply pw_below_drewN | apply below_drew1) | exact HB.out)⟩⟩
    case round =>
      clear H'
      try clear p2
      try clear c3
      try clear c4
      try clear c4b0
      try clear c4b1
      obtain ⟨x8_1, x22_1, rfl, rfl, HA, HK1, HO_20, HB⟩ := hrel
      cases gk with
      | zero => exact absurd HA.out (by simp [keep_Cost.l0])
      | succ k1 =>
        have H := HA.out
        clear HA
        simp only [keep_Cost.l0] at H
        by_cases c7 : x22_1 < (t274.length : Int)
        · rw [if_pos c7] at H
          have c7b0 : decide (x22_1 < (t274.length : Int)) = true := decide_eq_true c7
          clear c7
          by_cases c8 : 0 ≤ x22_1
          · rw [if_pos c8] at H
            have c8b0 : decide (0 ≤ x22_1) = true := decide_eq_true c8
            clear c8
            by_cases c9 : x22_1 < (t274.length : Int)
            · rw [if_pos c9] at H
              have c9b0 : decide (x22_1 < (t274.length : Int)) = true := decide_eq_true c9
              clear c9
              replace H := Option.bind_eq_some_iff.mp H
              obtain ⟨t279, A100, H⟩ := H
              replace H : (if 0 ≤ t279 then (if t279 < (l0.length : Int) then (keep_Cost.l0 k1 l0 (wrap64 (x8_1 + ((rd_T50 l0 t279).f2))) t274 (t274.length : Int) (wrap64 (x22_1 + 1))) else (none)) else (none)) = some (r1, r2) := H
              have A10 := Aside0.mk A100
              clear A100
              by_cases c11 : 0 ≤ t279
              · rw [if_pos c11] at H
                have c11b0 : decide (0 ≤ t279) = true := decide_eq_true c11
                clear c11
                by_cases c12 : t279 < (l0.length : Int)
                · rw [if_pos c12] at H
                  have c12b0 : decide (t279 < (l0.length : Int)) = true := decide_eq_true c12
                  clear c12
                  have H' := Aside0.mk H
                  clear H
                  have p278 : 0 ≤ (x22_1 : Int) := of_decide_eq_true (by first | (with_reducible assumption) | assumption)
                  have q278 : x22_1 < (t274.length : Int) := of_decide_eq_true (by first | (with_reducible assumption) | assumption)
                  obtain ⟨ad278, e278, hx278_0⟩ := Kd.at_int (Kd.R_reads' HO_20.out).2.2 x22_1 p278 q278
                  cases e278
                  replace p278 := eq_true p278
                  replace q278 := eq_true q278
                  go_wp2_with (first | ((with_reducible refine gate_callee (f := 48) rfl ?_); refine goesL_ (some 30) rfl rfl Try.func48 (by kernel_rfl) rfl #[.slice A0 l0.length c0, .int .i64 (rd t274 x22_1)] rfl (by (try simp only [List.map_toArray, List.map_cons, List.map_nil]); first | done | rfl | (simp only [List.length_drop, List.length_take]; rfl)) ?_; (with_reducible refine (keep_place.calls _ _ l0 (rd t274 x22_1) t279 _ ?side1 ?side2 A10.out).mono ?_); (case side1 => repeat (first | exact (Kd.C_below HR0.out HB.out) | (with_reducible refine Kd.C_alloc ?_ _) | (with_reducible refine Kd.C_drewN ?_ _) | (with_reducible refine Kd.C_drew ?_))); (case side2 => exact HC0.out); rintro e w13 ⟨rfl, hb⟩; refine ⟨_, rfl, ?_⟩; have n0_ := Aside0.mk (Kd.R_below (by (with_reducible repeat (first | apply Kd.R_alloc | apply Kd.R_drewN | apply Kd.R_drew)); exact HO_20.out) hb); have n1_ := Aside0.mk (below_step (by repeat (first | (with_reducible first | exact HB.out | apply below_alloc | apply pw_below_drewN | apply below_drew1) | exact HB.out)) hb); clear HO_20; clear HB; have HO_20 := n0_; have HB := n1_; clear n0_ n1_; (try clear hb); (try clear hb2); (try clear hk); (try clear hi); have p280 : 0 ≤ (t279 : Int) := of_decide_eq_true (by first | (with_reducible assumption) | assumption); have q280 : t279 < (l0.length : Int) := of_decide_eq_true (by first | (with_reducible assumption) | assumption); obtain ⟨ad280, e280, hx280_0, hx280_1, hx280_2, hx280_3⟩ := at_T50 HR0.out t279 p280 q280; cases e280; replace hx280_0 := (HB.out.cell (World.block_lt_of_cell? w _ hx280_0)).trans hx280_0; replace hx280_1 := (HB.out.cell (World.block_lt_of_cell? w _ hx280_1)).trans hx280_1; replace hx280_2 := (HB.out.cell (World.block_lt_of_cell? w _ hx280_2)).trans hx280_2; replace hx280_3 := (HB.out.cell (World.block_lt_of_cell? w _ hx280_3)).trans hx280_3; replace p280 := eq_true p280; replace q280 := eq_true q280))
                  go_roundg k1
                  case measure => have := HK1.out; omega
                  case rel => exact ⟨(wrap64 (x8_1 + ((rd_T50 l0 t279).f2))), (wrap64 (x22_1 + 1)), (by first | rfl | (simp; done) | (simp [*]; done)), (by first | rfl | (simp; done) | (simp [*]; done)), H', ⟨by have := HK1.out; omega⟩, ⟨by (with_reducible repeat (first | apply Kd.R_alloc | apply Kd.R_drewN | apply Kd.R_drew)); exact HO_20.out⟩, ⟨by repeat (first | (with_reducible first | exact HB.out | apply below_alloc | apply pw_below_drewN | apply below_drew1) | exact HB.out)⟩⟩
                · rw [if_neg c12] at H
                  exact absurd H (by simp)
              · rw [if_neg c11] at H
                exact absurd H (by simp)
            · rw [if_neg c9] at H
              exact absurd H (by simp)
          · rw [if_neg c8] at H
            exact absurd H (by simp)
        · rw [if_neg c7] at H
          have c7b0 : decide (x22_1 < (t274.length : Int)) = false := decide_eq_false c7
          clear c7
          simp only [Option.some.injEq, Prod.mk.injEq] at H
          obtain ⟨rfl, rfl⟩ := H
          go_wp2
          go_ret2
          exact ⟨by first | rfl | (simp [errW_none, errW_some] <;> rfl) | (simp [*, errW_none, errW_some] <;> rfl), by repeat (first | (with_reducible first | exact HB.out | apply below_alloc | apply pw_below_drewN | apply below_drew1) | exact HB.out)⟩
  · rw [if_neg c4] at H
    have c4b0 : (t275 == 0) = false := beq_eq_false_iff_ne.mpr c4
    have c4b1 : (t275 != 0) = true := bne_iff_ne.mpr c4
    simp only [Option.some.injEq, Prod.mk.injEq] at H
    obtain ⟨rfl, rfl⟩ := H
    go_enter Try.func32, Try.ntmps32
    go_wp2_with (first | ((with_reducible refine gate_callee (f := 30) rfl ?_); refine goesL_ (some 14) rfl rfl Try.func30 (by kernel_rfl) rfl #[.slice A0 l0.length c0, .int .i64 a1] rfl (by (try simp only [List.map_toArray, List.map_cons, List.map_nil]); first | done | rfl | (simp only [List.length_drop, List.length_take]; rfl)) ?_; (with_reducible refine (keep_Road.calls k _ _ l0 a1 t274 t275 _ ?side1 ?side2 A3.out).mono ?_); (case side1 => repeat (first | exact HR0.out | (with_reducible refine Kd.C_alloc ?_ _) | (with_reducible refine Kd.C_drewN ?_ _) | (with_reducible refine Kd.C_drew ?_))); (case side2 => exact HC0.out); rintro e w14 ⟨v276, rfl, ho0, hb⟩; refine ⟨_, rfl, ?_⟩; have n0_ := Aside0.mk (Kd.R_lower ho0 (below_size (by repeat (first | (with_reducible first | exact HB.out | apply below_alloc | apply pw_below_drewN | apply below_drew1) | exact HB.out)))); have n1_ := Aside0.mk (below_step (by repeat (first | (with_reducible first | exact HB.out | apply below_alloc | apply pw_below_drewN | apply below_drew1) | exact HB.out)) hb); clear HB; have HO277 := n0_; have HB := n1_; clear n0_ n1_; (try clear hb); (try clear hb2); (try clear hk); (try clear hi); (try clear ho0)))
    go_ret2
    exact ⟨by first | rfl | (simp [errW_none, errW_some] <;> rfl) | (simp [*, errW_none, errW_some] <;> rfl), by repeat (first | (with_reducible first | exact HB.out | apply below_alloc | apply pw_below_drewN | apply below_drew1) | exact HB.out)⟩

end Go.Proofs.Yteamoejgpcognaa.PAll

-- from YteamoejgpcognaaGivRefRoad
-- Written by a program of this session (wip/tools/hookprint.py, over the print); Lean checks it.
namespace Go.Proofs.Yteamoejgpcognaa.PAll
open Go.RowKit Go.Proofs.YteamoejgpcognaaW.PrintWords Go.Proofs.YteamoejgpcognaaW.PrintLast Go.Proofs.YteamoejgpcognaaW.PrintMore
attribute [local go_sem] max2_int min2_int max_two min_two max_three min_three max_four min_four   -- for this text's walks alone
set_option linter.unusedVariables false
set_option linter.unusedSimpArgs false

/-! ### barqueref12_Road: function 31 -/
def barqueref12_Road.f : Nat → List (S50) → Int → Option (List Int × Int)
  | 0, _, _ => none
  | k + 1, l0, a1 => (barqueref12_Check.f k l0).bind fun t274 => (if t274 = 0 then ((barqueref12_At.f k l0 a1).bind fun t275 => (if t275 < 0 then (some (([] : List Int), 8)) else (if 0 ≤ t275 then (if t275 < (l0.length : Int) then (if ((rd_T50 l0 t275).f1) = a1 then (some ((([a1] : List Int)), 0)) else (if t275 ≤ (l0.length : Int) then ((barqueref12_Road.f k (l0.take (t275 : Int).toNat) ((rd_T50 l0 t275).f1)).bind fun bt285 => (if bt285.1.length < 17592186044416 then (some ((bt285.1 ++ [a1]), 0)) else (none))) else (none))) else (none)) else (none)))) else (some (([] : List Int), t274)))
theorem barqueref12_Road.mono_l : ∀ k, (∀ y0 y1, LeO (barqueref12_Road.f k y0 y1) (barqueref12_Road.f (k + 1) y0 y1))
  | 0 => fun _ _ r h => by simp [barqueref12_Road.f] at h
  | k + 1 => by
    have ih0 := barqueref12_Road.mono_l k
    · intro y0 y1
      unfold barqueref12_Road.f
      repeat' first
      | (with_reducible exact ih0 _ _)
      | (with_reducible exact barqueref12_At.mono _ _ _)
      | (with_reducible exact barqueref12_Check.mono _ _)
      | (with_reducible exact LeO.refl _)
      | (with_reducible exact LeO.none _)
      | (with_reducible refine LeO.ite ?_ ?_)
      | (with_reducible refine LeO.bind ?_ (fun _ => ?_))
      | exact ih0 _ _
      | exact barqueref12_At.mono _ _ _
      | exact barqueref12_Check.mono _ _
      | exact LeO.none _
      | refine LeO.ite ?_ ?_
      | refine LeO.bind ?_ (fun _ => ?_)
theorem barqueref12_Road.mono : ∀ a0 a1 k, LeO (barqueref12_Road.f k a0 a1) (barqueref12_Road.f (k + 1) a0 a1) := by
  intro a0 a1 k
  have ih0 := barqueref12_Road.mono_l k
  exact ih0 a0 a1
def barqueref12_Road.T9 : Bool × List (List Nat × List Nat) := (true, [([], []), ([], []), ([0, 1], [0, 1]), ([], []), ([], []), ([3, 4], [3, 4]), ([5], [5]), ([6], [6]), ([2, 7], [2, 7]), ([8], [8]), ([9], [9]), ([9], [9]), ([10, 8, 0, 1, 2, 3, 4, 5, 6, 7, 8, 9, 10], [10]), ([11, 12, 0, 1, 2, 3, 4, 5, 6, 7, 8, 9, 10, 11, 12], [11])])
def barqueref12_Road.B9 : List Nat := [0, 0, 3, 0, 0, 24, 56, 120, 255, 511, 1023, 1023, 2047, 8191]
theorem barqueref12_Road.tab9 : rtab .any (opsOf Try.f31 9) = barqueref12_Road.T9 := by kernel_rfl
theorem barqueref12_Road.bits9 : waitsOk barqueref12_Road.T9.2 barqueref12_Road.B9 = true := by kernel_rfl
set_option maxHeartbeats 8000000 in
set_option maxRecDepth 100000 in
theorem barqueref12_Road.calls (k : Nat) : ∀ (A0 : Option Addr) (c0 : Nat) (l0 : List (S50)) (a1 : Int) (r1 : List Int) (r2 : Int) (w : World) (hr0 : Kd.C k50 w A0 l0.length l0) (hc0 : l0.length ≤ c0) (h : barqueref12_Road.f k l0 a1 = some (r1, r2)),
    Calls Try.prog 31 #[.slice A0 l0.length c0, .int .i64 a1] w fun e w' => ∃ v0_ : Value, e = .returned (.tuple #[v0_, .int .i64 r2]) ∧ Kd.R (Kd.int .i64) 3 w' w.heap.size (fun _ => True) v0_ r1 ∧ Below w.heap.size w w' := by
  induction k using Nat.strongRecOn with
  | _ k ih =>
  intro A0 c0 l0 a1 r1 r2 w hr0 hc0 h
  cases k with
  | zero => exact absurd h (by simp [barqueref12_Road.f])
  | succ k =>
  simp only [barqueref12_Road.f] at h
  have HR0 := Aside0.mk hr0
  have HC0 := Aside0.mk hc0
  clear hr0 hc0
  have HB := Aside0.mk (Below.refl w.heap.size w)
  have H : ((barqueref12_Check.f k l0).bind fun t274 => (if t274 = 0 then ((barqueref12_At.f k l0 a1).bind fun t275 => (if t275 < 0 then (some (([] : List Int), 8)) else (if 0 ≤ t275 then (if t275 < (l0.length : Int) then (if ((rd_T50 l0 t275).f1) = a1 then (some ((([a1] : List Int)), 0)) else (if t275 ≤ (l0.length : Int) then ((barqueref12_Road.f k (l0.take (t275 : Int).toNat) ((rd_T50 l0 t275).f1)).bind fun bt285 => (if bt285.1.length < 17592186044416 then (some ((bt285.1 ++ [a1]), 0)) else (none))) else (none))) else (none)) else (none)))) else (some (([] : List Int), t274)))) = some (r1, r2) := h
  clear h
  replace H := Option.bind_eq_some_iff.mp H
  obtain ⟨t274, A30, H⟩ := H
  replace H : (if t274 = 0 then ((barqueref12_At.f k l0 a1).bind fun t275 => (if t275 < 0 then (some (([] : List Int), 8)) else (if 0 ≤ t275 then (if t275 < (l0.length : Int) then (if ((rd_T50 l0 t275).f1) = a1 then (some ((([a1] : List Int)), 0)) else (if t275 ≤ (l0.length : Int) then ((barqueref12_Road.f k (l0.take (t275 : Int).toNat) ((rd_T50 l0 t275).f1)).bind fun bt285 => (if bt285.1.length < 17592186044416 then (some ((bt285.1 ++ [a1]), 0)) else (none))) else (none))) else (none)) else (none)))) else (some (([] : List Int), t274))) = some (r1, r2) := H
  have A3 := Aside0.mk A30
  clear A30
  by_cases c4 : t274 = 0
  · rw [if_pos c4] at H
    have c4b0 : (t274 == 0) = true := beq_iff_eq.mpr c4
    have c4b1 : (t274 != 0) = false := bne_eq_false_iff_eq.mpr c4
    clear c4
    replace H := Option.bind_eq_some_iff.mp H
    obtain ⟨t275, A50, H⟩ := H
    replace H : (if t275 < 0 then (some (([] : List Int), 8)) else (if 0 ≤ t275 then (if t275 < (l0.length : Int) then (if ((rd_T50 l0 t275).f1) = a1 then (some ((([a1] : List Int)), 0)) else (if t275 ≤ (l0.length : Int) then ((barqueref12_Road.f k (l0.take (t275 : Int).toNat) ((rd_T50 l0 t275).f1)).bind fun bt285 => (if bt285.1.length < 17592186044416 then (some ((bt285.1 ++ [a1]), 0)) else (none))) else (none))) else (none)) else (none))) = some (r1, r2) := H
    have A5 := Aside0.mk A50
    clear A50
    by_cases c6 : t275 < 0
    · rw [if_pos c6] at H
      have c6b0 : decide (t275 < 0) = true := decide_eq_true c6
      clear c6
      simp only [Option.some.injEq, Prod.mk.injEq] at H
      obtain ⟨rfl, rfl⟩ := H
      go_enter Try.func31, Try.ntmps31
      go_wp2_with (first | ((with_reducible refine gate_callee (f := 37) rfl ?_); refine goesL_ (some 11) rfl rfl Try.func37 (by kernel_rfl) rfl #[.slice A0 l0.length c0] rfl (by (try simp only [List.map_toArray, List.map_cons, List.map_nil]); first | done | rfl | (simp only [List.length_drop, List.length_take]; rfl)) ?_; (with_reducible refine (barqueref12_Check.calls k _ _ l0 t274 _ ?side1 ?side2 A3.out).mono ?_); (case side1 => repeat (first | exact HR0.out | (with_reducible refine Kd.C_alloc ?_ _) | (with_reducible refine Kd.C_drewN ?_ _) | (with_reducible refine Kd.C_drew ?_))); (case side2 => exact HC0.out); rintro e w' ⟨rfl, ⟨nd, rfl⟩⟩; refine ⟨_, rfl, ?_⟩) | ((with_reducible refine gate_callee (f := 33) rfl ?_); refine goesL_ (some 17) rfl rfl Try.func33 (by kernel_rfl) rfl #[.slice A0 l0.length c0, .int .i64 a1] rfl (by (try simp only [List.map_toArray, List.map_cons, List.map_nil]); first | done | rfl | (simp only [List.length_drop, List.length_take]; rfl)) ?_; (with_reducible refine (barqueref12_At.calls k _ _ l0 a1 t275 _ ?side1 ?side2 A5.out).mono ?_); (case side1 => repeat (first | exact HR0.out | (with_reducible refine Kd.C_alloc ?_ _) | (with_reducible refine Kd.C_drewN ?_ _) | (with_reducible refine Kd.C_drew ?_))); (case side2 => exact HC0.out); rintro e w' ⟨rfl, ⟨nd, rfl⟩⟩; refine ⟨_, rfl, ?_⟩))
      go_ret2
      exact ⟨_, by first | rfl | (simp [errW_none, errW_some] <;> rfl) | (simp [*, errW_none, errW_some] <;> rfl), by first | exact Kd.R_nil _ _ _ _ _ | exact Kd.N_nil _ _ _ _ _ | exact Kd.V_nil _ _ _ _ _ | exact Kd.Q_nil _ _ _ _ _ | exact Kd.S_nil _ _ _ _ _, by repeat (first | (with_reducible first | exact HB.out | apply below_alloc | apply pw_below_drewN | apply below_drew1) | exact HB.out)⟩
    · rw [if_neg c6] at H
      have c6b0 : decide (t275 < 0) = false := decide_eq_false c6
      clear c6
      by_cases c7 : 0 ≤ t275
      · rw [if_pos c7] at H
        have c7b0 : decide (0 ≤ t275) = true := decide_eq_true c7
        clear c7
        by_cases c8 : t275 < (l0.length : Int)
        · rw [if_pos c8] at H
          have c8b0 : decide (t275 < (l0.length : Int)) = true := decide_eq_true c8
          clear c8
          by_cases c9 : ((rd_T50 l0 t275).f1) = a1
          · rw [if_pos c9] at H
            have c9b0 : (((rd_T50 l0 t275).f1) == a1) = true := beq_iff_eq.mpr c9
            have c9b1 : (((rd_T50 l0 t275).f1) != a1) = false := bne_eq_false_iff_eq.mpr c9
            clear c9
            obtain ⟨y277, hy277⟩ : ∃ y_ : List Int, y_ = (([a1] : List Int)) := ⟨_, rfl⟩
            replace H : (some (y277, 0)) = some (r1, r2) := by first | (rw [hy277]; with_reducible exact H) | (have H2_ := (Option.bind_some _ _).symm.trans H; rw [hy277]; with_reducible exact H2_) | (have H2_ := (Option.bind_some _ _).symm.trans H; with_reducible exact H2_) | with_reducible exact H | (rw [hy277]; exact H) | exact H
            have Ny277 := Aside0.mk hy277
            clear hy277
            simp only [Option.some.injEq, Prod.mk.injEq] at H
            obtain ⟨rfl, rfl⟩ := H
            go_enter Try.func31, Try.ntmps31
            go_wp2_with (first | ((with_reducible refine gate_callee (f := 37) rfl ?_); refine goesL_ (some 11) rfl rfl Try.func37 (by kernel_rfl) rfl #[.slice A0 l0.length c0] rfl (by (try simp only [List.map_toArray, List.map_cons, List.map_nil]); first | done | rfl | (simp only [List.length_drop, List.length_take]; rfl)) ?_; (with_reducible refine (barqueref12_Check.calls k _ _ l0 t274 _ ?side1 ?side2 A3.out).mono ?_); (case side1 => repeat (first | exact HR0.out | (with_reducible refine Kd.C_alloc ?_ _) | (with_reducible refine Kd.C_drewN ?_ _) | (with_reducible refine Kd.C_drew ?_))); (case side2 => exact HC0.out); rintro e w' ⟨rfl, ⟨nd, rfl⟩⟩; refine ⟨_, rfl, ?_⟩) | ((with_reducible refine gate_callee (f := 33) rfl ?_); refine goesL_ (some 17) rfl rfl Try.func33 (by kernel_rfl) rfl #[.slice A0 l0.length c0, .int .i64 a1] rfl (by (try simp only [List.map_toArray, List.map_cons, List.map_nil]); first | done | rfl | (simp only [List.length_drop, List.length_take]; rfl)) ?_; (with_reducible refine (barqueref12_At.calls k _ _ l0 a1 t275 _ ?side1 ?side2 A5.out).mono ?_); (case side1 => repeat (first | exact HR0.out | (with_reducible refine Kd.C_alloc ?_ _) | (with_reducible refine Kd.C_drewN ?_ _) | (with_reducible refine Kd.C_drew ?_))); (case side2 => exact HC0.out); rintro e w' ⟨rfl, ⟨nd, rfl⟩⟩; refine ⟨_, rfl, ?_⟩; have p276 : 0 ≤ (t275 : Int) := of_decide_eq_true (by first | (with_reducible assumption) | assumption); have q276 : t275 < (l0.length : Int) := of_decide_eq_true (by first | (with_reducible assumption) | assumption); obtain ⟨ad276, e276, hx276_0, hx276_1, hx276_2, hx276_3⟩ := at_T50 HR0.out t275 p276 q276; cases e276; replace p276 := eq_true p276; replace q276 := eq_true q276) | ((with_reducible refine gate_dst (N := 28) rfl ?_); refine Kd.R_lit (Kd.int .i64) _ 3 ?hg (N := 28) ?hd (xs := ([a1] : List Int)) (inner := [.int .i64 a1]) (ok := fun _ => True) (okp := fun _ => True) ?hr ?hp (fun _ hk => hk) trivial (Below.refl _ _) (Nat.le_refl _) (by simp) ?_; (case hd => rfl); (case hg => rfl); (case hr => first | (go_simp; done) | (go_simp; rfl)); (case hp => exact (Reps.one (show Kd.M (Kd.int .i64) _ _ _ a1 [.int .i64 a1] from rfl) (Reps.none _ _))); intro v278 w10 ho11 hb hg_ hnew_; clear hg_ hnew_; (first | rw [← Ny277.out] at ho11 | (simp only [Int.reduceToNat] at ho11; rw [← Ny277.out] at ho11)); have n0_ := Aside0.mk (Kd.R_lower ho11 (below_size (by repeat (first | (with_reducible first | exact HB.out | apply below_alloc | apply pw_below_drewN | apply below_drew1) | exact HB.out)))); have n1_ := Aside0.mk (below_step (by repeat (first | (with_reducible first | exact HB.out | apply below_alloc | apply pw_below_drewN | apply below_drew1) | exact HB.out)) hb); clear HB; have HO279 := n0_; have HB := n1_; clear n0_ n1_; clear hb ho11))
            go_ret2
            exact ⟨_, by first | rfl | (simp [errW_none, errW_some] <;> rfl) | (simp [*, errW_none, errW_some] <;> rfl), by (with_reducible repeat (first | apply Kd.R_alloc | apply Kd.R_drewN | apply Kd.R_drew)); exact HO279.out, by repeat (first | (with_reducible first | exact HB.out | apply below_alloc | apply pw_below_drewN | apply below_drew1) | exact HB.out)⟩
          · rw [if_neg c9] at H
            have c9b0 : (((rd_T50 l0 t275).f1) == a1) = false := beq_eq_false_iff_ne.mpr c9
            have c9b1 : (((rd_T50 l0 t275).f1) != a1) = true := bne_iff_ne.mpr c9
            have c12b0 := eq_true (of_decide_eq_true (by first | (with_reducible assumption) | assumption) : 0 ≤ t275)
            by_cases c13 : t275 ≤ (l0.length : Int)
            · rw [if_pos c13] at H
              have c13b0 := eq_true c13
              have c13b1 : decide (t275 ≤ (l0.length : Int)) = true := decide_eq_true c13
              clear c13
              obtain ⟨y280, hy280⟩ : ∃ y_ : List (S50), y_ = (l0.take (t275 : Int).toNat) := ⟨_, rfl⟩
              replace H : ((barqueref12_Road.f k y280 ((rd_T50 l0 t275).f1)).bind fun bt285 => (if bt285.1.length < 17592186044416 then (some ((bt285.1 ++ [a1]), 0)) else (none))) = some (r1, r2) := by first | (rw [hy280]; with_reducible exact H) | (have H2_ := (Option.bind_some _ _).symm.trans H; rw [hy280]; with_reducible exact H2_) | (have H2_ := (Option.bind_some _ _).symm.trans H; with_reducible exact H2_) | with_reducible exact H | (rw [hy280]; exact H) | exact H
              have Ny280 := Aside0.mk hy280
              clear hy280
              replace H := Option.bind_eq_some_iff.mp H
              obtain ⟨⟨t285, t286⟩, A140, H⟩ := H
              replace H : (if t285.length < 17592186044416 then (some ((t285 ++ [a1]), 0)) else (none)) = some (r1, r2) := H
              have A14 := Aside0.mk A140
              clear A140
              by_cases c15 : t285.length < 17592186044416
              · rw [if_pos c15] at H
                have LMc15 := Aside0.mk c15
                clear c15
                obtain ⟨y289, hy289⟩ : ∃ y_ : List Int, y_ = (t285 ++ [a1]) := ⟨_, rfl⟩
                replace H : (some (y289, 0)) = some (r1, r2) := by first | (rw [hy289]; with_reducible exact H) | (have H2_ := (Option.bind_some _ _).symm.trans H; rw [hy289]; with_reducible exact H2_) | (have H2_ := (Option.bind_some _ _).symm.trans H; with_reducible exact H2_) | with_reducible exact H | (rw [hy289]; exact H) | exact H
                have Ny289 := Aside0.mk hy289
                clear hy289
                simp only [Option.some.injEq, Prod.mk.injEq] at H
                obtain ⟨rfl, rfl⟩ := H
                go_enter Try.func31, Try.ntmps31
                try go_wp2_with (first | ((with_reducible refine gate_callee (f := 37) rfl ?_); refine goesL_ (some 11) rfl rfl Try.func37 (by kernel_rfl) rfl #[.slice A0 l0.length c0] rfl (by (try simp only [List.map_toArray, List.map_cons, List.map_nil]); first | done | rfl | (simp only [List.length_drop, List.length_take]; rfl)) ?_; (with_reducible refine (barqueref12_Check.calls k _ _ l0 t274 _ ?side1 ?side2 A3.out).mono ?_); (case side1 => repeat (first | exact HR0.out | (with_reducible refine Kd.C_alloc ?_ _) | (with_reducible refine Kd.C_drewN ?_ _) | (with_reducible refine Kd.C_drew ?_))); (case side2 => exact HC0.out); rintro e w' ⟨rfl, ⟨nd, rfl⟩⟩; refine ⟨_, rfl, ?_⟩) | ((with_reducible refine gate_callee (f := 33) rfl ?_); refine goesL_ (some 17) rfl rfl Try.func33 (by kernel_rfl) rfl #[.slice A0 l0.length c0, .int .i64 a1] rfl (by (try simp only [List.map_toArray, List.map_cons, List.map_nil]); first | done | rfl | (simp only [List.length_drop, List.length_take]; rfl)) ?_; (with_reducible refine (barqueref12_At.calls k _ _ l0 a1 t275 _ ?side1 ?side2 A5.out).mono ?_); (case side1 => repeat (first | exact HR0.out | (with_reducible refine Kd.C_alloc ?_ _) | (with_reducible refine Kd.C_drewN ?_ _) | (with_reducible refine Kd.C_drew ?_))); (case side2 => exact HC0.out); rintro e w' ⟨rfl, ⟨nd, rfl⟩⟩; refine ⟨_, rfl, ?_⟩; have p276 : 0 ≤ (t275 : Int) := of_decide_eq_true (by first | (with_reducible assumption) | assumption); have q276 : t275 < (l0.length : Int) := of_decide_eq_true (by first | (with_reducible assumption) | assumption); obtain ⟨ad276, e276, hx276_0, hx276_1, hx276_2, hx276_3⟩ := at_T50 HR0.out t275 p276 q276; cases e276; replace p276 := eq_true p276; replace q276 := eq_true q276))
                have n0_ := Aside0.mk (below_drew1 HB.out)
                clear HB
                have HB := n0_
                clear n0_
                have q17 : (t275 : Int) ≤ ((l0.length : Int) : Int) := of_decide_eq_true (by first | (with_reducible assumption) | assumption)
                obtain ⟨i017, hi017, _, hsz17, _⟩ := info_parts info50
                have hroom17 : l0.length ≤ c0 := HC0.out
                have hC17 : Kd.C k50 _ (some ad276) l0.length l0 := HR0.out
                have hcut17 := cut_to (P := Try.prog) 33 50 .i64 Try.underlying33 hi017 (some ad276) l0.length c0 t275 (of_decide_eq_true (by first | (with_reducible assumption) | assumption)) q17 hroom17
                have hr17 := Kd.C_take (m := (t275 : Int).toNat) hC17 (by omega)
                have hy17 : y280.length = (t275 : Int).toNat := (by rw [Ny280.out, List.length_take]; omega)
                rw [← Ny280.out] at hr17
                rw [← hy17] at hcut17
                have HR283 := Aside0.mk hr17
                have HC283 := Aside0.mk (show y280.length ≤ c0 from by omega)
                clear hr17 hC17 hroom17 hi017 hsz17
                have KY17 := Aside0.mk hy17
                clear hy17
                replace q17 := eq_true q17
                have p284 : 0 ≤ (t275 : Int) := of_decide_eq_true (by first | (with_reducible assumption) | assumption)
                have q284 : t275 < (l0.length : Int) := of_decide_eq_true (by first | (with_reducible assumption) | assumption)
                obtain ⟨ad284, e284, hx284_0, hx284_1, hx284_2, hx284_3⟩ := at_T50 HR0.out t275 p284 q284
                have hw284_3 := hx284_3
                have hw284_2 := hx284_2
                have hw284_1 := hx284_1
                have hw284_0 := hx284_0
                obtain rfl : ad276 = ad284 := (by injection e284)
                replace hx284_0 := (HB.out.cell (World.block_lt_of_cell? w _ hx284_0)).trans hx284_0
                replace hx284_1 := (HB.out.cell (World.block_lt_of_cell? w _ hx284_1)).trans hx284_1
                replace hx284_2 := (HB.out.cell (World.block_lt_of_cell? w _ hx284_2)).trans hx284_2
                replace hx284_3 := (HB.out.cell (World.block_lt_of_cell? w _ hx284_3)).trans hx284_3
                replace p284 := eq_true p284
                replace q284 := eq_true q284
                refine start_ (n := 14) (S := fun w' => w'.cell? (ad276.add ((t275).toNat * 4)) = some (.int .i64 ((rd_T50 l0 t275).f0)) ∧ w'.cell? ⟨(ad276.add ((t275).toNat * 4)).block, (ad276.add ((t275).toNat * 4)).off + 1, none⟩ = some (.int .i64 ((rd_T50 l0 t275).f1)) ∧ w'.cell? ⟨(ad276.add ((t275).toNat * 4)).block, (ad276.add ((t275).toNat * 4)).off + 2, none⟩ = some (.int .i64 ((rd_T50 l0 t275).f2)) ∧ w'.cell? ⟨(ad276.add ((t275).toNat * 4)).block, (ad276.add ((t275).toNat * 4)).off + 3, none⟩ = some (.string ((rd_T50 l0 t275).f3))) (ds := []) #[false, false, false, false, false, false, false, false, false, false, false, false, false, false] (by kernel_rfl) rfl rfl ⟨((HB.out.cell (World.block_lt_of_cell? w _ hw284_0)).trans hw284_0), ((HB.out.cell (World.block_lt_of_cell? w _ hw284_1)).trans hw284_1), ((HB.out.cell (World.block_lt_of_cell? w _ hw284_2)).trans hw284_2), ((HB.out.cell (World.block_lt_of_cell? w _ hw284_3)).trans hw284_3)⟩ (fun hHeld => ?_); refine with_tabW barqueref12_Road.tab9 barqueref12_Road.bits9 (fun HT_ HW_ => ?_)
                generalize w.drew = w16 at HB HR283 hx284_0 hx284_1 hx284_2 hx284_3 hHeld ⊢
                refine pure_ (i := 0) (N := some 30) (v := ?_) (a' := ?_) #[true, false, false, false, false, false, false, false, false, false, false, false, false, false] rfl rfl (any_of HT_.out (by kernel_rfl)) (fun _ _ _ h => h) (Or.inl ⟨by rfl, ?_⟩) ?_ ?_
                rotate_left
                · intro w'
                  go_simp
                  with_reducible rfl
                rotate_left
                · simp only [Act.put, List.setIfInBounds_toArray, List.set_cons_zero, List.set_cons_succ, i64_w, i32_w]
                  rfl
                refine pure_ (i := 1) (N := some 31) (v := ?_) (a' := ?_) #[true, true, false, false, false, false, false, false, false, false, false, false, false, false] rfl rfl (any_of HT_.out (by kernel_rfl)) (fun _ _ _ h => h) (Or.inl ⟨by rfl, ?_⟩) ?_ ?_
                rotate_left
                · intro w'
                  go_simp
                  with_reducible rfl
                rotate_left
                · simp only [Act.put, List.setIfInBounds_toArray, List.set_cons_zero, List.set_cons_succ, i64_w, i32_w]
                  rfl
                refine pure_ (i := 2) (N := some 32) (v := ?_) (a' := ?_) #[true, true, true, false, false, false, false, false, false, false, false, false, false, false] rfl rfl (any_of HT_.out (by kernel_rfl)) (fun _ _ _ h => h) (Or.inl ⟨by rfl, ?_⟩) ?_ ?_
                rotate_left
                · intro w'
                  go_simp
                  with_reducible rfl
                rotate_left
                · simp only [Act.put, List.setIfInBounds_toArray, List.set_cons_zero, List.set_cons_succ, i64_w, i32_w]
                  rfl
                refine pure_ (i := 3) (N := some 33) (v := ?_) (a' := ?_) #[true, true, true, true, false, false, false, false, false, false, false, false, false, false] rfl rfl (any_of HT_.out (by kernel_rfl)) (fun _ _ _ h => h) (Or.inl ⟨by rfl, ?_⟩) ?_ ?_
                rotate_left
                · intro w'
                  go_simp
                  with_reducible rfl
                rotate_left
                · simp only [Act.put, List.setIfInBounds_toArray, List.set_cons_zero, List.set_cons_succ, i64_w, i32_w]
                  rfl
                refine pure_ (i := 4) (N := some 34) (v := ?_) (a' := ?_) #[true, true, true, true, true, false, false, false, false, false, false, false, false, false] rfl rfl (any_of HT_.out (by kernel_rfl)) (fun _ _ _ h => h) (Or.inl ⟨by rfl, ?_⟩) ?_ ?_
                rotate_left
                · intro w'
                  go_simp
                  with_reducible rfl
                rotate_left
                · simp only [Act.put, List.setIfInBounds_toArray, List.set_cons_zero, List.set_cons_succ, i64_w, i32_w]
                  rfl
                refine pure_ (i := 5) (N := some 35) (v := ?_) (a' := ?_) #[true, true, true, true, true, true, false, false, false, false, false, false, false, false] rfl rfl (any_of HT_.out (by kernel_rfl)) (fun _ _ _ h => h) (Or.inl ⟨by rfl, ?_⟩) ?_ ?_
                rotate_left
                · intro w'
                  go_simp
                  with_reducible rfl
                rotate_left
                · simp only [Act.put, List.setIfInBounds_toArray, List.set_cons_zero, List.set_cons_succ, i64_w, i32_w]
                  rfl
                refine pure_ (i := 6) (N := some 36) (v := ?_) (a' := ?_) #[true, true, true, true, true, true, true, false, false, false, false, false, false, false] rfl rfl (any_of HT_.out (by kernel_rfl)) (fun _ _ _ h => h) (Or.inl ⟨by rfl, ?_⟩) ?_ ?_
                rotate_left
                · intro w'
                  go_simp
                  with_reducible rfl
                rotate_left
                · simp only [Act.put, List.setIfInBounds_toArray, List.set_cons_zero, List.set_cons_succ, i64_w, i32_w]
                  rfl
                refine take_ (i := 7) (N := some 37) (v := ?_) (a' := ?_) #[true, true, true, true, true, true, true, true, false, false, false, false, false, false] rfl rfl (take_ofW HT_.out HW_.out (by kernel_rfl)) (fun _ _ _ h => h) (Or.inl ⟨by rfl, ?_⟩) hHeld ?_ ?_
                rotate_left
                · rintro w' ⟨s0, s1, s2, s3⟩
                  go_simp
                  with_reducible rfl
                rotate_left
                · simp only [Act.put, List.setIfInBounds_toArray, List.set_cons_zero, List.set_cons_succ, i64_w, i32_w]
                  rfl
                refine one_ (i := 8) (N := some 38) #[true, true, true, true, true, true, true, true, true, false, false, false, false, false] rfl rfl (one_of HT_.out (by kernel_rfl)) (by decide) (fun K hK => ?_)
                refine goes_ Try.func31 (by kernel_rfl) rfl #[.slice (some ad276) y280.length c0, .int .i64 ((rd_T50 l0 t275).f1)] (by rfl) rfl rfl (by (try simp only [List.map_toArray, List.map_cons, List.map_nil]); first | done | rfl | (simp only [List.length_drop, List.length_take]; rfl)) ?_
                with_reducible refine (ih k (by omega) _ _ y280 ((rd_T50 l0 t275).f1) t285 t286 _ ?side1 ?side2 A14.out).mono ?_
                (case side1 => repeat (first | exact HR283.out | exact (Kd.C_below HR283.out HB.out) | (with_reducible refine Kd.C_alloc ?_ _) | (with_reducible refine Kd.C_drewN ?_ _) | (with_reducible refine Kd.C_drew ?_)))
                (case side2 => exact HC283.out)
                rintro e w18 ⟨v287, rfl, ho0, hb⟩
                refine ⟨_, rfl, ?_⟩
                have n0_ := Aside0.mk (Kd.R_lower ho0 (below_size (show Below w.heap.size w _ from by (with_reducible repeat (first | exact Below.refl w.heap.size w | apply below_drew1 | apply pw_below_drewN)))))
                have n1_ := Aside0.mk (below_step (show Below w.heap.size w _ from by (with_reducible repeat (first | exact Below.refl w.heap.size w | apply below_drew1 | apply pw_below_drewN))) hb)
                clear HB
                have HO288 := n0_
                have HB := n1_
                clear n0_ n1_
                (try clear hb)
                (try clear hb2)
                (try clear hk)
                (try clear hi)
                (try clear ho0)
                refine hK.out _ _ ⟨((HB.out.cell (World.block_lt_of_cell? w _ hw284_0)).trans hw284_0), ((HB.out.cell (World.block_lt_of_cell? w _ hw284_1)).trans hw284_1), ((HB.out.cell (World.block_lt_of_cell? w _ hw284_2)).trans hw284_2), ((HB.out.cell (World.block_lt_of_cell? w _ hw284_3)).trans hw284_3)⟩ (fun hHeld => ?_)
                clear hK K
                refine norm_ (a' := ?_) ?_ ?_
                rotate_left
                · show Act.put _ (some 38) _ = _
                  simp only [Act.put, List.setIfInBounds_toArray, List.set_cons_zero, List.set_cons_succ, i64_w, i32_w]
                  rfl
                refine pure_ (i := 9) (N := some 29) (v := ?_) (a' := ?_) #[true, true, true, true, true, true, true, true, true, true, false, false, false, false] rfl rfl (any_of HT_.out (by kernel_rfl)) (fun _ _ _ h => h) (Or.inl ⟨by rfl, ?_⟩) ?_ ?_
                rotate_left
                · intro w'
                  go_simp
                  with_reducible rfl
                rotate_left
                · simp only [Act.put, List.setIfInBounds_toArray, List.set_cons_zero, List.set_cons_succ, i64_w, i32_w]
                  rfl
                refine pure_ (i := 10) (N := some 39) (v := ?_) (a' := ?_) #[true, true, true, true, true, true, true, true, true, true, true, false, false, false] rfl rfl (any_of HT_.out (by kernel_rfl)) (fun _ _ _ h => h) (Or.inl ⟨by rfl, ?_⟩) ?_ ?_
                rotate_left
                · intro w'
                  go_simp
                  with_reducible rfl
                rotate_left
                · simp only [Act.put, List.setIfInBounds_toArray, List.set_cons_zero, List.set_cons_succ, i64_w, i32_w]
                  rfl
                refine pure_ (i := 11) (N := some 40) (v := ?_) (a' := ?_) #[true, true, true, true, true, true, true, true, true, true, true, true, false, false] rfl rfl (any_of HT_.out (by kernel_rfl)) (fun _ _ _ h => h) (Or.inl ⟨by rfl, ?_⟩) ?_ ?_
                rotate_left
                · intro w'
                  go_simp
                  with_reducible rfl
                rotate_left
                · simp only [Act.put, List.setIfInBounds_toArray, List.set_cons_zero, List.set_cons_succ, i64_w, i32_w]
                  rfl
                refine pure_ (i := 12) (N := some 8) (v := ?_) (a' := ?_) #[true, true, true, true, true, true, true, true, true, true, true, true, true, false] rfl rfl (any_of HT_.out (by kernel_rfl)) (fun _ _ _ h => h) (Or.inl ⟨by rfl, ?_⟩) ?_ ?_
                rotate_left
                · intro w'
                  go_simp
                  with_reducible rfl
                rotate_left
                · simp only [Act.put, List.setIfInBounds_toArray, List.set_cons_zero, List.set_cons_succ, i64_w, i32_w]
                  rfl
                refine pure_ (i := 13) (N := some 9) (v := ?_) (a' := ?_) #[true, true, true, true, true, true, true, true, true, true, true, true, true, true] rfl rfl (any_of HT_.out (by kernel_rfl)) (fun _ _ _ h => h) (Or.inl ⟨by rfl, ?_⟩) ?_ ?_
                rotate_left
                · intro w'
                  go_simp
                  with_reducible rfl
                rotate_left
                · simp only [Act.put, List.setIfInBounds_toArray, List.set_cons_zero, List.set_cons_succ, i64_w, i32_w]
                  rfl
                refine done_ (done_of HT_.out (by kernel_rfl)) ?_
                try go_wp2_with (first | ((with_reducible refine gate_builtin (b := .append) (xs := #[.tmp 41, .tmp 43]) rfl ?_); at_builtin; refine Kd.R_append (Kd.int .i64) (w0 := w) w.heap.size rfl (.tmp 41) (.tmp 43) 34 3 (.int .i64 0) 8 rfl Try.underlying34 info3 rfl (by decide) (by omega) v287 t285 a1 [.int .i64 a1] (fun _ => True) (fun _ => False) rfl rfl ?aP (fun _ hk => hk.elim) ?aF ?aO ?aB ?aS ?aL ?_; (case aP => exact rfl); (case aB => exact (by repeat (first | (with_reducible first | exact HB.out | apply below_alloc | apply pw_below_drewN | apply below_drew1) | exact HB.out))); (case aF => exact (fun _ _ => trivial)); (case aO => exact (by (with_reducible repeat (first | apply Kd.R_alloc | apply Kd.R_drewN | apply Kd.R_drew)); exact HO288.out)); (case aS => exact (below_size (by repeat (first | (with_reducible first | exact HB.out | apply below_alloc | apply pw_below_drewN | apply below_drew1) | exact HB.out)))); (case aL => have := LMc15.out; omega); intro v290 w19 ho hb hg hat; rw [← Ny289.out] at ho; have n0_ := Aside0.mk (hb); have n1_ := Aside0.mk (ho); clear HB; clear HO288; have HB := n0_; have HO291 := n1_; clear n0_ n1_; clear ho hb hg hat))
                go_ret2
                exact ⟨_, by first | rfl | (simp [errW_none, errW_some] <;> rfl) | (simp [*, errW_none, errW_some] <;> rfl), by (with_reducible repeat (first | apply Kd.R_alloc | apply Kd.R_drewN | apply Kd.R_drew)); exact HO291.out, by repeat (first | (with_reducible first | exact HB.out | apply below_alloc | apply pw_below_drewN | apply below_drew1) | exact HB.out)⟩
              · rw [if_neg c15] at H
                exact absurd H (by simp)
            · rw [if_neg c13] at H
              exact absurd H (by simp)
        · rw [if_neg c8] at H
          exact absurd H (by simp)
      · rw [if_neg c7] at H
        exact absurd H (by simp)
  · rw [if_neg c4] at H
    have c4b0 : (t274 == 0) = false := beq_eq_false_iff_ne.mpr c4
    have c4b1 : (t274 != 0) = true := bne_iff_ne.mpr c4
    simp only [Option.some.injEq, Prod.mk.injEq] at H
    obtain ⟨rfl, rfl⟩ := H
    go_enter Try.func31, Try.ntmps31
    go_wp2_with (first | ((with_reducible refine gate_callee (f := 37) rfl ?_); refine goesL_ (some 11) rfl rfl Try.func37 (by kernel_rfl) rfl #[.slice A0 l0.length c0] rfl (by (try simp only [List.map_toArray, List.map_cons, List.map_nil]); first | done | rfl | (simp only [List.length_drop, List.length_take]; rfl)) ?_; (with_reducible refine (barqueref12_Check.calls k _ _ l0 t274 _ ?side1 ?side2 A3.out).mono ?_); (case side1 => repeat (first | exact HR0.out | (with_reducible refine Kd.C_alloc ?_ _) | (with_reducible refine Kd.C_drewN ?_ _) | (with_reducible refine Kd.C_drew ?_))); (case side2 => exact HC0.out); rintro e w' ⟨rfl, ⟨nd, rfl⟩⟩; refine ⟨_, rfl, ?_⟩))
    go_ret2
    exact ⟨_, by first | rfl | (simp [errW_none, errW_some] <;> rfl) | (simp [*, errW_none, errW_some] <;> rfl), by first | exact Kd.R_nil _ _ _ _ _ | exact Kd.N_nil _ _ _ _ _ | exact Kd.V_nil _ _ _ _ _ | exact Kd.Q_nil _ _ _ _ _ | exact Kd.S_nil _ _ _ _ _, by repeat (first | (with_reducible first | exact HB.out | apply below_alloc | apply pw_below_drewN | apply below_drew1) | exact HB.out)⟩

end Go.Proofs.Yteamoejgpcognaa.PAll

-- from YteamoejgpcognaaGivDeepest
namespace Go.Proofs.Yteamoejgpcognaa.PAll
open Go.RowKit Go.Proofs.YteamoejgpcognaaW.PrintWords Go.Proofs.YteamoejgpcognaaW.PrintLast Go.Proofs.YteamoejgpcognaaW.PrintMore
set_option linter.unusedVariables false
set_option linter.unusedSimpArgs false
open Go.Maps

/-- Block B is a map: its keys, and what stands at each. -/
def KCnt (w : World) (B n : Nat) (ks : Int → Prop) (f : Int → Int) : Prop :=
  ∃ D : DataW Unit, w.ownsMap Try.prog 3 (plainElem Try.prog 3) B n D ∧ IsMap D ∧ (∀ x, D.atKey (.int .i64 x) (.lit (.int .i64 0)) = .lit (.int .i64 (f x))) ∧ ∀ x, has D (.int .i64 x) = true ↔ ks x
theorem kcnt_made (w : World) : KCnt (w.alloc (.map #[] 0)) w.heap.size 0 (fun _ => False) (fun _ => 0) := ⟨_, World.ownsMap_made _ _ _ _, isMap_empty, fun _ => rfl, fun _ => by simp [has]⟩
theorem KCnt.lt {w : World} {B n : Nat} {ks : Int → Prop} {f : Int → Int} (h : KCnt w B n ks f) : B < w.heap.size := by obtain ⟨D, h, _⟩ := h; exact h.lt
theorem KCnt.same {w w' : World} {B n : Nat} {ks : Int → Prop} {f : Int → Int} (h : KCnt w B n ks f) (hs : w'.heap[B]? = w.heap[B]?) : KCnt w' B n ks f := by
  obtain ⟨D, ⟨es, clock, hb, r⟩, h2⟩ := h
  exact ⟨D, ⟨es, clock, hs.trans hb, r⟩, h2⟩
theorem KCnt.alloc {w : World} {B n : Nat} {ks : Int → Prop} {f : Int → Int} (h : KCnt w B n ks f) (o : Obj) : KCnt (w.alloc o) B n ks f := h.same (((Below.refl _ _).alloc (Nat.le_refl _) o).block B h.lt)
theorem KCnt.look {w : World} {B n : Nat} {ks : Int → Prop} {f : Int → Int} (h : KCnt w B n ks f) (x : Int) (hx : (Lit.int .i64 x).wf = true) : (Instr.lookup 74 (.map (some B)) (.int .i64 x) false).run Try.prog w = .ok (.int .i64 (f x)) w := by
  obtain ⟨D, ho, hm, hf, _⟩ := h
  exact Cnt.look ⟨D, ho, hm, hf⟩ x hx
theorem KCnt.put {w : World} {B n : Nat} {ks : Int → Prop} {f : Int → Int} (h : KCnt w B n ks f) (hn : n < maxLen) (x : Int) (hx : (Lit.int .i64 x).wf = true) (y : Int) (hy : (Lit.int .i64 y).wf = true) :
    ∃ w', (Instr.mapUpdate 74 (.map (some B)) (.int .i64 x) (.int .i64 y)).run Try.prog w = .ok () w' ∧ KCnt w' B (n + 1) (fun z => z = x ∨ ks z) (fun z => if z = x then y else f z) ∧ w.grownBy w' (some B) := by
  obtain ⟨D, ho, hm, hf, hk⟩ := h
  obtain ⟨w', hrun, ho', hg⟩ := ho.update law3 Try.underlying74 hn (keyOf_int_mk Try.underlying3 hx) (plainElem_int (H := Unit) Try.underlying3 hy)
  refine ⟨w', hrun, ⟨_, ho', hm.put _ _, fun z => ?_, fun z => ?_⟩, hg⟩
  · show _ = DataW.lit (.int .i64 (if z = x then y else f z))
    by_cases hz : z = x
    · subst hz; rw [if_pos rfl]; exact atKey_put_same hm (by simp [WideAt.IsKeyLit]) _ _
    · rw [if_neg hz, ← hf z]; exact atKey_put_other (fun e => hz (by injection e)) _ _
  · by_cases hz : z = x
    · subst hz; exact ⟨fun _ => .inl rfl, fun _ => has_put_same hm (by simp [WideAt.IsKeyLit]) _⟩
    · rw [has_put_other (fun e => hz (by injection e)), hk z]
      exact ⟨.inr, fun h => h.resolve_left hz⟩

/-- How deep the generations lie, behind k of them. -/
def depF (l : List S50) : Nat → Int → Int
  | 0, _ => 0
  | k + 1, z => if z = (l.getD k z50).f0 then (if (l.getD k z50).f1 = (l.getD k z50).f0 then 1 else (if (l.getD k z50).f1 = (l.getD k z50).f0 then 1 else depF l k (l.getD k z50).f1) + 1) else depF l k z
theorem depF_le (l : List S50) : ∀ k z, 0 ≤ depF l k z ∧ depF l k z ≤ k
  | 0, _ => by simp [depF]
  | k + 1, z => by
    have h1 := depF_le l k z
    have h2 := depF_le l k (l.getD k z50).f1
    simp only [depF]
    split
    · split <;> omega
    · omega
def keysTo (l : List S50) (k : Nat) (z : Int) : Prop := ∃ j, j < k ∧ z = (l.getD j z50).f0
theorem keysTo_succ (l : List S50) (k : Nat) : (fun z => z = (l.getD k z50).f0 ∨ keysTo l k z) = keysTo l (k + 1) := by
  funext z
  apply propext
  constructor
  · rintro (h | ⟨j, hj, h⟩)
    · exact ⟨k, by omega, h⟩
    · exact ⟨j, by omega, h⟩
  · rintro ⟨j, hj, h⟩
    by_cases e : j = k
    · subst e; exact .inl h
    · exact .inr ⟨j, by omega, h⟩
theorem kcnt0 (l : List S50) (w : World) : KCnt (w.alloc (.map #[] 0)) w.heap.size (2 * 0) (keysTo l 0) (depF l 0) := by
  have h := kcnt_made w
  have e : (fun _ : Int => False) = keysTo l 0 := by
    funext z
    apply propext
    exact ⟨fun h => h.elim, fun ⟨j, hj, _⟩ => by omega⟩
  rw [e] at h
  exact h
theorem kcnt_more {w : World} {B n n' : Nat} {ks : Int → Prop} {f : Int → Int} (h : KCnt w B n ks f) (hn : n ≤ n') : KCnt w B n' ks f := by
  obtain ⟨D, ho, r⟩ := h
  exact ⟨D, ho.mono hn, r⟩
theorem depF_self {l : List S50} {k : Nat} (h : (l.getD k z50).f1 = (l.getD k z50).f0) : (fun z => if z = (l.getD k z50).f0 then (1 : Int) else depF l k z) = depF l (k + 1) := by
  funext z
  simp only [depF]
  rw [if_pos h]
theorem depF_basis {l : List S50} {k : Nat} (h : ¬ (l.getD k z50).f1 = (l.getD k z50).f0) : (fun z => if z = (l.getD k z50).f0 then depF l k (l.getD k z50).f1 + 1 else (if z = (l.getD k z50).f0 then (1 : Int) else depF l k z)) = depF l (k + 1) := by
  funext z
  simp only [depF]
  rw [if_neg h, if_neg h]
  by_cases hz : z = (l.getD k z50).f0
  · rw [if_pos hz, if_pos hz]
  · rw [if_neg hz, if_neg hz, if_neg hz]
theorem or_same (a : Int) (p : Int → Prop) : (fun z => z = a ∨ (z = a ∨ p z)) = fun z => z = a ∨ p z := by
  funext z
  apply propext
  exact ⟨fun h => h.elim .inl id, .inr⟩
theorem rng_up {D : DataW Unit} {left : Lit → Bool} {m x c : Int} (hU : ∀ x c, has D (.int .i64 x) = true → left (.int .i64 x) = false → D.atKey (.int .i64 x) (.lit (.int .i64 0)) = .lit (.int .i64 c) → c ≤ m) (hat : ∀ zd, D.atKey (.int .i64 x) zd = .lit (.int .i64 c)) :
    ∀ x' c', has D (.int .i64 x') = true → (left (.int .i64 x') && !(Lit.int .i64 x').sameKey (.int .i64 x)) = false → D.atKey (.int .i64 x') (.lit (.int .i64 0)) = .lit (.int .i64 c') → c' ≤ (if m < c then c else m) := by
  intro x' c' h1 h2 h3
  by_cases hk : (Lit.int .i64 x').sameKey (.int .i64 x) = true
  · have e := WideAt.sameKey_eq hk
    injection e with _ e
    subst e
    rw [hat] at h3
    injection h3 with h3
    injection h3 with _ h3
    subst h3
    split <;> omega
  · rw [Bool.eq_false_iff.2 hk] at h2
    have := hU x' c' h1 (by simpa using h2) h3
    split <;> omega
theorem rng_mem {D : DataW Unit} {m x c : Int} (hX : m = 0 ∨ ∃ x, has D (.int .i64 x) = true ∧ D.atKey (.int .i64 x) (.lit (.int .i64 0)) = .lit (.int .i64 m)) (hat : ∀ zd, D.atKey (.int .i64 x) zd = .lit (.int .i64 c)) :
    (if m < c then c else m) = 0 ∨ ∃ x, has D (.int .i64 x) = true ∧ D.atKey (.int .i64 x) (.lit (.int .i64 0)) = .lit (.int .i64 (if m < c then c else m)) := by
  by_cases h : m < c
  · rw [if_pos h]; exact .inr ⟨x, has_true_of_atKey hat, hat _⟩
  · rw [if_neg h]; exact hX
/-- The greatest depth. -/
def DeepPost (l : List S50) (w : World) (e : Ending) (w' : World) : Prop :=
  ∃ m : Int, e = .returned (.tuple #[.int .i64 m, .int .i64 0]) ∧ 0 ≤ m ∧ (∀ j, j < l.length → depF l l.length (l.getD j z50).f0 ≤ m) ∧ (m = 0 ∨ ∃ j, j < l.length ∧ depF l l.length (l.getD j z50).f0 = m) ∧ Below w.heap.size w w'

set_option maxHeartbeats 2000000 in
set_option maxRecDepth 100000 in
theorem deepest_ok (k : Nat) (A0 : Option Addr) (c0 : Nat) (l0 : List S50) (w : World) (hr0 : Kd.C k50 w A0 l0.length l0) (hc0 : l0.length ≤ c0)
    (hck : keep_Check.f k l0 = some 0) (hok : NeedOk l0 []) :
    Calls Try.prog 38 #[.slice A0 l0.length c0] w (DeepPost l0 w) := by
  have HR0 := Aside0.mk hr0
  have HC0 := Aside0.mk hc0
  have HK := Aside0.mk hck
  have HO := Aside0.mk hok
  clear hr0 hc0 hck hok
  have hmm := @run_makeMap Try.prog
  go_enter Try.func38, Try.ntmps38
  go_wp2_with (go_at_call 39; refine (keep_Check.calls k _ _ l0 0 _ HR0.out HC0.out HK.out).mono ?_; rintro e wa ⟨rfl, hb⟩)
  have HBC := Aside0.mk hb
  clear hb
  go_wp2_with fail
  go_loopw [19] (fun v19 wr => ∃ k : Nat, k ≤ l0.length ∧ v19 = .int .i64 k ∧ Aside0 (KCnt wr wa.heap.size (2 * k) (keysTo l0 k) (depF l0 k)) ∧ Aside0 (Below w.heap.size w wr)) (fun v19 _ => l0.length - (intOf v19).toNat)
  case atStart => exact ⟨0, by omega, rfl, ⟨kcnt0 l0 wa⟩, ⟨HBC.out.alloc HBC.out.size _⟩⟩
  case round =>
    obtain ⟨k, hk, rfl, HM, HB⟩ := hrel
    by_cases hlt : k < l0.length
    · have hx0 : 0 ≤ ((k : Nat) : Int) := by omega
      have hx1 : ((k : Nat) : Int) < (l0.length : Int) := by omega
      obtain ⟨ad, e, q1, q2, q3, q4⟩ := cells_T50 HR0.out HB.out _ hx0 hx1
      have EL : Aside0 (rd_T50 l0 ((k : Nat) : Int) = l0.getD k z50) := ⟨by unfold rd_T50; rw [Int.toNat_natCast]⟩
      have WF : Aside0 (wf64 (rd_T50 l0 ((k : Nat) : Int)).f0 ∧ wf64 (rd_T50 l0 ((k : Nat) : Int)).f1) := ⟨by rw [EL.out, List.getD_eq_getElem?_getD, List.getElem?_eq_getElem hlt]; exact HO.out.2.2.1 _ (List.getElem_mem hlt)⟩
      generalize rd_T50 l0 ((k : Nat) : Int) = el at q1 q2 q3 q4 EL WF
      subst e
      rw [Int.toNat_natCast] at q1 q2 q3 q4
      have hll := HO.out.1
      obtain ⟨w1, hp1, hc1, hg1⟩ := (HM.out.alloc (.cells #[.int .i64 el.f0, .int .i64 el.f1, .int .i64 el.f2, .string el.f3] 50)).put (by unfold maxLen; omega) el.f0 WF.out.1 1 (wf_small (by omega) (by omega))
      have HC1 := Aside0.mk hc1
      have HG1 := Aside0.mk hg1
      clear hc1 hg1
      have hlt2 := HM.out.lt
      have hblk := blk_grown (heap_alloc_new wr (.cells #[.int .i64 el.f0, .int .i64 el.f1, .int .i64 el.f2, .string el.f3] 50)) HG1.out (by intro e; injection e with e; omega)
      have z0 : w1.cell? ⟨wr.heap.size, 0, none⟩ = some (.int .i64 el.f0) := (blk_cell hblk 0).trans rfl
      have z1 : w1.cell? ⟨wr.heap.size, 1, none⟩ = some (.int .i64 el.f1) := (blk_cell hblk 1).trans rfl
      have HB1 := Aside0.mk ((HB.out.alloc HB.out.size (.cells #[.int .i64 el.f0, .int .i64 el.f1, .int .i64 el.f2, .string el.f3] 50)).grown HG1.out (Nat.le_trans HB.out.size (by simp)) (fun j hj => by cases hj; exact HBC.out.size))
      clear hblk
      by_cases hs : el.f1 = el.f0
      · have hsb : (el.f1 != el.f0) = false := bne_eq_false_iff_eq.mpr hs
        have HS := Aside0.mk hs
        clear hs
        go_wp2_with fail
        go_roundw
        case rel => exact ⟨k + 1, by omega, by go_num, ⟨by have h := kcnt_more HC1.out (show 2 * k + 1 ≤ 2 * (k + 1) by omega); rw [EL.out, keysTo_succ, depF_self (by rw [← EL.out]; exact HS.out)] at h; exact h⟩, HB1⟩
        case measure => simp [intOf]; omega
      · have hsb : (el.f1 != el.f0) = true := by rw [bne_iff_ne]; exact hs
        have hL := HC1.out.look el.f1 WF.out.2
        have hdp := depF_le l0 k el.f1
        rw [if_neg hs] at hL
        obtain ⟨w2, hp2, hc2, hg2⟩ := HC1.out.put (by unfold maxLen; omega) el.f0 WF.out.1 (depF l0 k el.f1 + 1) (wf_small (by omega) (by omega))
        have HS := Aside0.mk hs
        have HC2 := Aside0.mk hc2
        have HG2 := Aside0.mk hg2
        clear hs hc2 hg2
        obtain ⟨c, HCE⟩ : ∃ c, Aside0 (depF l0 k el.f1 = c) := ⟨_, ⟨rfl⟩⟩
        rw [HCE.out] at hL hdp hp2
        go_wp2_with fail
        go_roundw
        case rel => exact ⟨k + 1, by omega, by go_num, ⟨by have h := kcnt_more HC2.out (show 2 * k + 1 + 1 ≤ 2 * (k + 1) by omega); rw [or_same, EL.out, keysTo_succ, depF_basis (by rw [← EL.out]; exact HS.out)] at h; exact h⟩, ⟨HB1.out.grown HG2.out HB1.out.size (fun j hj => by cases hj; exact HBC.out.size)⟩⟩
        case measure => simp [intOf]; omega
    · obtain rfl : k = l0.length := by omega
      obtain ⟨D, ho, hm, hf, hks⟩ := HM.out
      have HOW := Aside0.mk ho
      have HF := Aside0.mk hf
      have HKS := Aside0.mk hks
      have HIM := Aside0.mk hm
      clear ho hf hks hm HM
      generalize hn2 : 2 * l0.length = n2 at HOW
      clear hn2
      go_wp2_with (first
        | (at_range; refine wpList_range_own _ rfl _ 74 rfl 3 3 law3 Try.underlying74 _ _ n2 D rfl HOW.out ?_; intro w0 hrg0 hg0 hs0))
      go_frame
      have HG0 := Aside0.mk hg0
      have HR0' := Aside0.mk hrg0
      have HBL := Aside0.mk HBC.out.size
      clear hg0 hrg0
      obtain ⟨B, HBE⟩ : ∃ B, Aside0 (wa.heap.size = B) := ⟨_, ⟨rfl⟩⟩
      obtain ⟨r, HRE⟩ : ∃ r, Aside0 (wr.heap.size = r) := ⟨_, ⟨rfl⟩⟩
      have HRW : Aside0 (w.heap.size ≤ r) := ⟨by rw [← HRE.out]; exact HB.out.size⟩
      rw [HBE.out, HRE.out] at HR0'
      rw [HBE.out, HRE.out]
      go_loopw [8] (fun v8 wx => ∃ (left : Lit → Bool) (cnt : Nat) (m : Int), v8 = .int .i64 m ∧ Aside0 (wx.ranges Try.prog 3 (plainElem Try.prog 3) B r n2 D left cnt) ∧ Aside0 (Below w.heap.size w wx) ∧ 0 ≤ m ∧
          Aside0 (∀ x c, has D (.int .i64 x) = true → left (.int .i64 x) = false → D.atKey (.int .i64 x) (.lit (.int .i64 0)) = .lit (.int .i64 c) → c ≤ m) ∧ Aside0 (m = 0 ∨ ∃ x, has D (.int .i64 x) = true ∧ D.atKey (.int .i64 x) (.lit (.int .i64 0)) = .lit (.int .i64 m)))
        (fun _ wx => wx.rangeLeft B r)
      case atStart => exact ⟨_, _, 0, rfl, HR0', ⟨HB.out.grown HG0.out HB.out.size (fun j hj => by cases hj)⟩, by omega, ⟨fun x c h1 h2 => by rw [h1] at h2; cases h2⟩, ⟨.inl rfl⟩⟩
      case round =>
        clear HR0' HG0 HB
        obtain ⟨left, cnt, m, rfl, HRG, HB, hm0, HU, HX⟩ := hrel
        go_wp2_with (first
          | (at_next; refine wpList_next_ranges_ii _ rfl _ rfl 3 3 .i64 .i64 law3 Try.underlying3 Try.underlying3 B r n2 D left cnt rfl HRG.out ?_ ?_))
        · intro _ hl0
          have HL0 := Aside0.mk hl0
          clear hl0
          go_wp2_with fail
          go_ret2
          refine ⟨m, rfl, hm0, fun j hj => HU.out (l0.getD j z50).f0 _ ((HKS.out _).2 ⟨j, hj, rfl⟩) (HL0.out _) (HF.out _), ?_, HB.out⟩
          rcases HX.out with h | ⟨x, h1, h2⟩
          · exact .inl h
          · obtain ⟨j, hj, rfl⟩ := (HKS.out x).1 h1
            refine .inr ⟨j, hj, ?_⟩
            rw [HF.out] at h2
            injection h2 with h2
            injection h2 with _ h2
        · intro x c w1 cnt1 hwx hwc hlx hat hrg1 hlt' hg1 hs1 hen
          have HX1 := Aside0.mk (show left (.int .i64 x) = true ∧ (∀ zd, D.atKey (.int .i64 x) zd = .lit (.int .i64 c)) ∧ w1.ranges Try.prog 3 (plainElem Try.prog 3) B r n2 D (fun z => left z && !z.sameKey (.int .i64 x)) cnt1 ∧ cnt1 < cnt ∧ World.grownBy _ w1 (some r) from ⟨hlx, hat, hrg1, hlt', hg1⟩)
          clear hwx hwc hlx hat hrg1 hlt' hg1 hs1
          go_wp2_with fail
          have HLF := Aside0.mk HRG.out.left_eq
          go_roundw
          case rel => exact ⟨_, cnt1, _, rfl, ⟨HX1.out.2.2.1⟩, ⟨HB.out.grown HX1.out.2.2.2.2 HB.out.size (fun j hj => by cases hj; exact HRW.out)⟩, by split <;> omega, ⟨rng_up HU.out HX1.out.2.1⟩, ⟨rng_mem HX.out HX1.out.2.1⟩⟩
          case measure => rw [HX1.out.2.2.1.left_eq, HLF.out]; exact HX1.out.2.2.2.1
end Go.Proofs.Yteamoejgpcognaa.PAll

-- from YteamoejgpcognaaPureRoad
namespace Go.Proofs.Yteamoejgpcognaa.Pure
open Go.RowKit Go.Proofs.YteamoejgpcognaaW.PrintWords Go.Proofs.YteamoejgpcognaaW.PrintLast Go.Proofs.YteamoejgpcognaaW.PrintMore Go.Proofs.Yteamoejgpcognaa.PAll
set_option linter.unusedVariables false
set_option linter.unusedSimpArgs false

theorem getD_set (xs : List Int) (a : Nat) (v : Int) (t : Nat) : (xs.set a v).getD t 0 = if t = a ∧ a < xs.length then v else xs.getD t 0 := by
  rw [List.getD_eq_getElem?_getD, List.getElem?_set, List.getD_eq_getElem?_getD]
  by_cases h : a = t
  · subst h
    by_cases h2 : a < xs.length
    · simp [h2]
    · simp [h2]
  · have h3 : ¬ (t = a ∧ a < xs.length) := fun h4 => h h4.1.symm
    simp [h, h3]
theorem ext_getD {xs ys : List Int} (hl : xs.length = ys.length) (h : ∀ t, t < xs.length → xs.getD t 0 = ys.getD t 0) : xs = ys := by
  apply List.ext_getElem hl
  intro t h1 h2
  have := h t h1
  rwa [List.getD_eq_getElem?_getD, List.getD_eq_getElem?_getD, List.getElem?_eq_getElem h1, List.getElem?_eq_getElem h2] at this

theorem rev_l0 (n : Nat) (hn : n ≤ 1000000) (d : Nat) : ∀ (k i j : Nat) (xs : List Int), xs.length = n → j - i ≤ d → d < k → j < n → i ≤ j + 1 →
    ∃ r, slices_Reverse_int_int.l0 k xs i j = some r ∧ r.length = n ∧ ∀ t, t < n → r.getD t 0 = if i ≤ t ∧ t ≤ j then xs.getD (i + j - t) 0 else xs.getD t 0 := by
  induction d using Nat.strongRecOn with
  | _ d ih =>
    intro k i j xs hx hd hk hj hij
    obtain ⟨k, rfl⟩ : ∃ m, k = m + 1 := ⟨k - 1, by omega⟩
    by_cases h : i < j
    · simp only [slices_Reverse_int_int.l0]
      rw [if_pos (by omega), if_pos (by omega), if_pos (by omega), if_pos (by omega), if_pos (by omega), rdi_nat, rdi_nat, Int.toNat_natCast, Int.toNat_natCast,
        show wrap64 ((i : Int) + 1) = ((i + 1 : Nat) : Int) by unfold wrap64; omega, show wrap64 ((j : Int) - 1) = ((j - 1 : Nat) : Int) by unfold wrap64; omega]
      obtain ⟨r, h1, h2, h3⟩ := ih (d - 1) (by omega) k (i + 1) (j - 1) ((xs.set i (xs.getD j 0)).set j (xs.getD i 0)) (by simp [hx]) (by omega) (by omega) (by omega) (by omega)
      refine ⟨r, h1, h2, fun t ht => ?_⟩
      rw [h3 t ht]
      simp only [getD_set, List.length_set, hx]
      by_cases a : i + 1 ≤ t ∧ t ≤ j - 1
      · rw [if_pos a, if_neg (by omega), if_neg (by omega), if_pos (by omega)]
        congr 1; omega
      · rw [if_neg a]
        by_cases b : t = j
        · subst b
          rw [if_pos ⟨rfl, hj⟩, if_pos (by omega)]
          congr 1; omega
        · rw [if_neg (by omega)]
          by_cases c : t = i
          · subst c
            rw [if_pos ⟨rfl, by omega⟩, if_pos (by omega)]
            congr 1; omega
          · rw [if_neg (by omega), if_neg (by omega)]
    · simp only [slices_Reverse_int_int.l0]
      rw [if_neg (by omega)]
      refine ⟨xs, rfl, hx, fun t ht => ?_⟩
      by_cases a : i ≤ t ∧ t ≤ j
      · rw [if_pos a]; congr 1; omega
      · rw [if_neg a]
theorem rev_f (xs : List Int) (h0 : xs ≠ []) (h : xs.length ≤ 1000000) (k : Nat) (hk : xs.length < k) : slices_Reverse_int_int.f k xs = some xs.reverse := by
  have hp : 0 < xs.length := List.length_pos_iff.2 h0
  unfold slices_Reverse_int_int.f
  rw [show wrap64 ((xs.length : Int) - 1) = ((xs.length - 1 : Nat) : Int) by unfold wrap64; omega, show (0 : Int) = ((0 : Nat) : Int) from rfl]
  obtain ⟨r, h1, h2, h3⟩ := rev_l0 xs.length h xs.length k 0 (xs.length - 1) xs rfl (by omega) hk (by omega) (by omega)
  rw [h1]
  congr 1
  refine ext_getD (by rw [h2, List.length_reverse]) (fun t ht => ?_)
  rw [h2] at ht
  rw [h3 t ht, if_pos (by omega), List.getD_eq_getElem?_getD, List.getD_eq_getElem?_getD, List.getElem?_reverse ht]
  congr 2; omega

theorem depF_stable (l : List S50) (hr : Rises l) (n : Nat) (d : Nat) : n + 1 + d ≤ l.length → depF l (n + 1 + d) (nth l n).f0 = depF l (n + 1) (nth l n).f0 := by
  induction d with
  | zero => intro _; rfl
  | succ d ih =>
    intro h
    rw [← ih (by omega)]
    show depF l (n + 1 + d + 1) _ = _
    simp only [depF]
    rw [if_neg]
    have := hr n (n + 1 + d) (by omega) (by omega)
    intro e
    rw [e] at this
    exact absurd this (Int.lt_irrefl _)
theorem depF_at (l : List S50) (hr : Rises l) {n k : Nat} (hn : n < k) (hk : k ≤ l.length) : depF l k (nth l n).f0 = depF l (n + 1) (nth l n).f0 := by
  obtain ⟨d, rfl⟩ : ∃ d, k = n + 1 + d := ⟨k - (n + 1), by omega⟩
  exact depF_stable l hr n d hk
/-- The road to the n-th one. -/
theorem road_both (l : List S50) (hg : GoodTo l l.length) (hl : l.length ≤ 60) (n : Nat) : n < l.length → ∃ p : List Int, p ≠ [] ∧ p.length ≤ n + 1 ∧ (p.length : Int) = depF l (n + 1) (nth l n).f0 ∧ (∀ x ∈ p, ∃ m, m ≤ n ∧ x = (nth l m).f0) ∧
    (∀ (k : Nat) (acc : List Int), acc.length + n + 1 ≤ 60 → n + 70 ≤ k → keep_Road.l0 k l (nth l n).f0 acc = some (p ++ acc.reverse, 0)) ∧
    (∀ (k m : Nat), n < m → m ≤ l.length → n + 300 ≤ k → barqueref12_Road.f k (l.take m) (nth l n).f0 = some (p, 0)) := by
  induction n using Nat.strongRecOn with
  | _ n ih =>
    intro hn
    have hr : Rises l := fun a b => hg.rises a b
    have hat : ∀ m, n < m → m ≤ l.length → AtSpec (l.take m) (nth l n).f0 (n : Nat) := by
      intro m hm hml
      refine .inr ⟨n, rfl, by rw [List.length_take]; omega, by rw [nth_take hm], fun j hj => ?_⟩
      rw [nth_take (by omega)]
      have := hr j n hj hn
      omega
    have hpl : placeV l (nth l n).f0 = (n : Nat) := by
      have h1 := placeV_spec l (nth l n).f0 hr
      have h2 := hat l.length hn (Nat.le_refl _)
      rw [List.take_length] at h2
      exact h1.unique h2
    have hck : ∀ m, m ≤ l.length → GoodTo (l.take m) (l.take m).length := by
      intro m hm j hj
      rw [List.length_take] at hj
      have h := hg j (by omega)
      unfold OkAt
      rw [nth_take (show j < m by omega)]
      refine ⟨h.1, h.2.1, h.2.2.1, fun h0 => ?_, ?_⟩
      · rw [nth_take (by omega)]; exact h.2.2.2.1 h0
      · rcases h.2.2.2.2 with e | ⟨q, hq, e⟩
        · exact .inl e
        · exact .inr ⟨q, hq, by rw [nth_take (by omega)]; exact e⟩
    have hcz : ∀ k m, m ≤ l.length → 250 ≤ k → barqueref12_Check.f k (l.take m) = some 0 := by
      intro k m hm hk
      have hlt : (l.take m).length ≤ 60 := by rw [List.length_take]; omega
      obtain ⟨e, _, h2, _, h4⟩ := check_both (l.take m) k (by omega)
      rw [h2, h4 (hck m hm) (by omega)]
    have hatf : ∀ k m, n < m → m ≤ l.length → 70 ≤ k → barqueref12_At.f k (l.take m) (nth l n).f0 = some (n : Int) := by
      intro k m hm hml hk
      have hlt : (l.take m).length ≤ 60 := by rw [List.length_take]; omega
      obtain ⟨r, h1, h2⟩ := at_f (l.take m) (nth l n).f0 (by omega) k (by omega)
      rw [h1, h2.unique (hat m hm hml)]
    by_cases hself : (nth l n).f1 = (nth l n).f0
    · refine ⟨[(nth l n).f0], by simp, by simp, (by simp only [depF]; rw [if_pos trivial, if_pos hself]; rfl), fun x hx => ⟨n, Nat.le_refl _, by simpa using hx⟩, ?_, ?_⟩
      · intro k acc ha hk
        obtain ⟨k, rfl⟩ : ∃ m, k = m + 1 := ⟨k - 1, by omega⟩
        simp only [keep_Road.l0, keep_place.f, hpl, Option.bind_some]
        rw [if_neg (by omega), if_pos (by omega), if_pos (by omega), if_pos (by omega), rd_nat, if_pos hself, rev_f _ (by simp) (by simp; omega) k (by simp; omega)]
        simp
      · intro k m hm hml hk
        obtain ⟨k, rfl⟩ : ∃ m, k = m + 1 := ⟨k - 1, by omega⟩
        have hlt : (n : Int) < ((l.take m).length : Int) := by rw [List.length_take]; omega
        simp only [barqueref12_Road.f]
        rw [hcz k m hml (by omega), hatf k m hm hml (by omega)]
        simp only [Option.bind_some, if_true]
        rw [if_neg (by omega), if_pos (by omega), if_pos hlt, rd_nat, nth_take hm, if_pos hself]
    · rcases (hg n hn).2.2.2.2 with e | ⟨b, hb, e⟩
      · exact absurd e hself
      · obtain ⟨p, p0, p1, pd, p2, p3, p4⟩ := ih b hb (by omega)
        refine ⟨p ++ [(nth l n).f0], by simp, by simp; omega, ?_, ?_, ?_, ?_⟩
        · simp only [depF]
          rw [if_pos trivial, if_neg hself, if_neg hself, ← e, depF_at l hr hb (by omega), ← pd]
          simp
        · intro x hx
          rcases List.mem_append.1 hx with h | h
          · obtain ⟨m, hm, hx⟩ := p2 x h; exact ⟨m, by omega, hx⟩
          · exact ⟨n, Nat.le_refl _, by simpa using h⟩
        · intro k acc ha hk
          obtain ⟨k, rfl⟩ : ∃ m, k = m + 1 := ⟨k - 1, by omega⟩
          simp only [keep_Road.l0, keep_place.f, hpl, Option.bind_some]
          rw [if_neg (by omega), if_pos (by omega), if_pos (by omega), if_pos (by omega), rd_nat, if_neg hself, ← e, p3 k (acc ++ [(nth l n).f0]) (by simp; omega) (by omega)]
          simp
        · intro k m hm hml hk
          obtain ⟨k, rfl⟩ : ∃ m, k = m + 1 := ⟨k - 1, by omega⟩
          have hlt : (n : Int) < ((l.take m).length : Int) := by rw [List.length_take]; omega
          simp only [barqueref12_Road.f]
          rw [hcz k m hml (by omega), hatf k m hm hml (by omega)]
          simp only [Option.bind_some, if_true]
          rw [if_neg (by omega), if_pos (by omega), if_pos hlt, rd_nat, nth_take hm, if_neg hself, if_pos (by omega), Int.toNat_natCast, List.take_take, show min n m = n by omega, ← e, p4 k n hb (by omega) (by omega)]
          simp only [Option.bind_some]
          rw [if_pos (by omega)]

/-- What is read for a generation. -/
def bytesOf (l : List S50) (x : Int) : Int := (nth l (placeV l x).toNat).f2
def sumTo (l : List S50) (p : List Int) (i : Nat) : Int := ((p.take i).map (bytesOf l)).sum
/-- All of p are there. -/
def Among (l : List S50) (p : List Int) : Prop := GoodTo l l.length ∧ ∀ x ∈ p, ∃ m, m < l.length ∧ x = (nth l m).f0
theorem Among.place {l : List S50} {p : List Int} (h : Among l p) {x : Int} (hx : x ∈ p) : AtSpec l x (placeV l x) ∧ 0 ≤ placeV l x ∧ placeV l x < l.length ∧ 0 ≤ bytesOf l x ∧ bytesOf l x ≤ 524288 := by
  obtain ⟨m, hm, rfl⟩ := h.2 x hx
  have hr : Rises l := fun a b => h.1.rises a b
  have hs := placeV_spec l (nth l m).f0 hr
  refine ⟨hs, ?_⟩
  rcases hs with ⟨_, hn⟩ | ⟨n, e, hn, _, _⟩
  · exact absurd rfl (hn m hm)
  · unfold bytesOf
    rw [e]
    have := h.1 n hn
    simp only [Int.toNat_natCast]
    exact ⟨by omega, by omega, this.2.1, this.2.2.1⟩
theorem sumTo_succ (l : List S50) (p : List Int) (i : Nat) (h : i < p.length) : sumTo l p (i + 1) = sumTo l p i + bytesOf l (p.getD i 0) := by
  unfold sumTo
  rw [List.take_succ_eq_append_getElem h, List.map_append, List.sum_append, List.getD_eq_getElem?_getD, List.getElem?_eq_getElem h]
  simp
theorem sumTo_le {l : List S50} {p : List Int} (ha : Among l p) : ∀ i, i ≤ p.length → 0 ≤ sumTo l p i ∧ sumTo l p i ≤ i * 524288
  | 0, _ => by simp [sumTo]
  | i + 1, h => by
    have h1 := sumTo_le ha i (by omega)
    have hm : p.getD i 0 ∈ p := by rw [List.getD_eq_getElem?_getD, List.getElem?_eq_getElem (by omega)]; exact List.getElem_mem (by omega)
    have h2 := (ha.place hm).2.2.2
    rw [sumTo_succ l p i (by omega)]
    omega
theorem cost_l0 (l : List S50) (p : List Int) (ha : Among l p) (hl : l.length ≤ 60) (hp : p.length ≤ 60) (d : Nat) : ∀ (k i : Nat), p.length - i = d → i ≤ p.length → d < k → keep_Cost.l0 k l (sumTo l p i) p (p.length : Int) i = some (sumTo l p p.length, 0) := by
  induction d with
  | zero =>
    intro k i hd hi hk
    obtain ⟨k, rfl⟩ : ∃ m, k = m + 1 := ⟨k - 1, by omega⟩
    simp only [keep_Cost.l0]
    rw [if_neg (by omega), show i = p.length by omega]
  | succ d ih =>
    intro k i hd hi hk
    obtain ⟨k, rfl⟩ : ∃ m, k = m + 1 := ⟨k - 1, by omega⟩
    have hm : p.getD i 0 ∈ p := by rw [List.getD_eq_getElem?_getD, List.getElem?_eq_getElem (by omega)]; exact List.getElem_mem (by omega)
    obtain ⟨_, h0, h1, h2, h3⟩ := ha.place hm
    have hs := sumTo_le ha i (by omega)
    have hb : (rd_T50 l (placeV l (p.getD i 0))).f2 = bytesOf l (p.getD i 0) := rfl
    simp only [keep_Cost.l0, keep_place.f, rdi_nat, Option.bind_some]
    rw [if_pos (by omega), if_pos (by omega), if_pos (by omega), if_pos h0, if_pos h1, hb, show wrap64 ((i : Int) + 1) = ((i + 1 : Nat) : Int) by unfold wrap64; omega, show wrap64 (sumTo l p i + bytesOf l (p.getD i 0)) = sumTo l p (i + 1) by rw [sumTo_succ l p i (by omega)]; unfold wrap64; omega]
    exact ih k (i + 1) (by omega) (by omega) (by omega)

/-- The roads, and what they cost. -/
theorem roads (l : List S50) (g : Int) (hl : l.length ≤ 60) (k : Nat) (hk : 500 ≤ k) : ∃ (p : List Int) (e s : Int), keep_Road.f k l g = some (p, e) ∧ barqueref12_Road.f k l g = some (p, e) ∧ keep_Cost.f k l g = some (s, e) ∧ s = sumTo l p p.length ∧ p.length ≤ 60 ∧ (p ≠ [] → Among l p) ∧ (e = 0 → p ≠ []) := by
  obtain ⟨k, rfl⟩ : ∃ m, k = m + 1 := ⟨k - 1, by omega⟩
  obtain ⟨e, c1, _, c3, _⟩ := check_both l (k + 1) (by omega)
  obtain ⟨e', _, c2', c3', c4'⟩ := check_both l k (by omega)
  by_cases he : e = 0
  · obtain ⟨hg, _⟩ := c3 he
    have he' : e' = 0 := c4' hg (by omega)
    subst he he'
    have hr : Rises l := fun a b => hg.rises a b
    have hs := placeV_spec l g hr
    obtain ⟨r, ha1, ha2⟩ := at_f l g (by omega) k (by omega)
    obtain rfl := ha2.unique hs
    rcases hs with ⟨hn, hno⟩ | ⟨n, hn, hnl, hgn, _⟩
    · refine ⟨[], 8, 0, ?_, ?_, ?_, by simp [sumTo], by simp, fun h => absurd rfl h, fun h => absurd h (by decide)⟩
      · unfold keep_Road.f
        rw [c1]
        simp only [Option.bind_some, if_true, keep_Road.l0, keep_place.f, hn]
        rw [if_pos (by decide)]
      · simp only [barqueref12_Road.f]
        rw [c2', ha1]
        simp only [Option.bind_some, if_true, hn]
        rw [if_pos (by decide)]
      · unfold keep_Cost.f keep_Road.f
        rw [c1]
        simp only [Option.bind_some, if_true, keep_Road.l0, keep_place.f, hn]
        rw [if_pos (by decide)]
        rfl
    · obtain ⟨p, p0, p1, _, p2, p3, p4⟩ := road_both l hg hl n hnl
      have ha : Among l p := ⟨hg, fun x hx => by obtain ⟨m, hm, e⟩ := p2 x hx; exact ⟨m, by omega, e⟩⟩
      have hroad : keep_Road.f (k + 1) l g = some (p, 0) := by
        unfold keep_Road.f
        rw [c1]
        simp only [Option.bind_some, if_true]
        rw [← hgn, p3 (k + 1) [] (by simp; omega) (by omega)]
        simp
      refine ⟨p, 0, sumTo l p p.length, hroad, ?_, ?_, rfl, by omega, fun _ => ha, fun _ => p0⟩
      · have := p4 (k + 1) l.length hnl (Nat.le_refl _) (by omega)
        rw [List.take_length, hgn] at this
        exact this
      · unfold keep_Cost.f
        rw [hroad]
        simp only [Option.bind_some, if_true]
        exact cost_l0 l p ha hl (by omega) p.length (k + 1) 0 (by omega) (by omega) (by omega)
  · have he' : e' ≠ 0 := fun h => he (by obtain ⟨hg, _⟩ := c3' h; obtain ⟨_, d1, _, _, d4⟩ := check_both l (k + 1) (by omega); rw [c1] at d1; cases d1; exact d4 hg (by omega))
    have hee : e' = e := by
      have m1 := barqueref12_Check.mono l k
      obtain ⟨e2, d1, d2, _⟩ := check_both l (k + 1) (by omega)
      have := m1 _ c2'
      rw [d2] at this
      rw [c1] at d1
      cases d1; cases this; rfl
    subst hee
    refine ⟨[], e', 0, ?_, ?_, ?_, by simp [sumTo], by simp, fun h => absurd rfl h, fun h => absurd h he'⟩
    · unfold keep_Road.f; rw [c1]; simp only [Option.bind_some]; rw [if_neg he']
    · simp only [barqueref12_Road.f]; rw [c2']; simp only [Option.bind_some]; rw [if_neg he']
    · unfold keep_Cost.f keep_Road.f; rw [c1]; simp only [Option.bind_some, if_neg he']
end Go.Proofs.Yteamoejgpcognaa.Pure

-- from YteamoejgpcognaaPureHolds
namespace Go.Proofs.Yteamoejgpcognaa.Pure
open Go.RowKit Go.Proofs.YteamoejgpcognaaW.PrintWords Go.Proofs.YteamoejgpcognaaW.PrintLast Go.Proofs.YteamoejgpcognaaW.PrintMore Go.Proofs.Yteamoejgpcognaa.PAll
set_option linter.unusedVariables false
set_option linter.unusedSimpArgs false

theorem nth_mem {l : List S50} {j : Nat} (h : j < l.length) : nth l j ∈ l := by
  unfold nth; rw [List.getD_eq_getElem?_getD, List.getElem?_eq_getElem h]; exact List.getElem_mem h
theorem mem_nth {l : List S50} {g : S50} (h : g ∈ l) : ∃ j, j < l.length ∧ nth l j = g := by
  obtain ⟨j, hj, e⟩ := List.getElem_of_mem h
  exact ⟨j, hj, by unfold nth; rw [List.getD_eq_getElem?_getD, List.getElem?_eq_getElem hj]; exact e⟩
theorem Rises.inj {l : List S50} (h : Rises l) {i j : Nat} (hi : i < l.length) (hj : j < l.length) (e : (nth l i).f0 = (nth l j).f0) : i = j := by
  rcases Nat.lt_trichotomy i j with h1 | h1 | h1
  · have := h i j h1 hj; omega
  · exact h1
  · have := h j i h1 hi; omega
theorem pairwise_of_rises {l : List S50} (hr : Rises l) : l.Pairwise (fun a b => a.f0 < b.f0) := by
  rw [List.pairwise_iff_getElem]
  intro i j hi hj hij
  have := hr i j hij hj
  unfold nth at this
  rwa [List.getD_eq_getElem?_getD, List.getD_eq_getElem?_getD, List.getElem?_eq_getElem hi, List.getElem?_eq_getElem hj] at this
theorem rises_of_pairwise {l : List S50} (h : l.Pairwise (fun a b => a.f0 < b.f0)) : Rises l := by
  intro i j hij hj
  unfold nth
  rw [List.getD_eq_getElem?_getD, List.getD_eq_getElem?_getD, List.getElem?_eq_getElem hj, List.getElem?_eq_getElem (by omega)]
  exact List.pairwise_iff_getElem.1 h i j (by omega) hj hij
/-- Generations that may be, told without places. -/
theorem good_of {a : List S50} (hp : a.Pairwise (fun x y => x.f0 < y.f0)) (h : ∀ g ∈ a, 0 ≤ g.f0 ∧ 0 ≤ g.f2 ∧ g.f2 ≤ 524288 ∧ (g.f1 = g.f0 ∨ ∃ b ∈ a, b.f0 = g.f1 ∧ b.f0 < g.f0)) : GoodTo a a.length := by
  have hr := rises_of_pairwise hp
  intro j hj
  obtain ⟨h0, h1, h2, h3⟩ := h _ (nth_mem hj)
  refine ⟨h0, h1, h2, fun h0 => hr (j - 1) j (by omega) hj, ?_⟩
  rcases h3 with h | ⟨b, hb, e, hlt⟩
  · exact .inl h
  · obtain ⟨m, hm, rfl⟩ := mem_nth hb
    refine .inr ⟨m, ?_, e⟩
    rcases Nat.lt_trichotomy m j with h | h | h
    · exact h
    · subst h; omega
    · have := hr j m h hm; omega

theorem turnG_f0 (need wh : List Int) (g : S50) : (turnG need wh g).f0 = g.f0 := by unfold turnG; split <;> rfl
theorem mem_after {l : List S50} {ws need wh : List Int} {x : S50} : x ∈ afterV l ws need wh ↔ ∃ g ∈ l, ws.contains g.f0 = true ∧ turnG need wh g = x := by
  unfold afterV
  simp only [List.mem_map, List.mem_filter]
  constructor
  · rintro ⟨g, ⟨h1, h2⟩, h3⟩; exact ⟨g, h1, h2, h3⟩
  · rintro ⟨g, h1, h2, h3⟩; exact ⟨g, ⟨h1, h2⟩, h3⟩
theorem need_has {l : List S50} {ws : List Int} (hr : Rises l) {g : S50} (hg : g ∈ l) : (needV l ws).contains g.f0 = (ws.contains g.f0 && !ws.contains g.f1) := by
  rw [Bool.eq_iff_iff, List.contains_iff_mem]
  unfold needV
  simp only [List.mem_map, List.mem_filter]
  constructor
  · rintro ⟨b, ⟨hb, hc⟩, e⟩
    obtain ⟨i, hi, rfl⟩ := mem_nth hb
    obtain ⟨j, hj, rfl⟩ := mem_nth hg
    obtain rfl := hr.inj hi hj e
    exact hc
  · intro h; exact ⟨g, ⟨hg, h⟩, rfl⟩

section
variable {l : List S50} {ws : List Int} {n : Nat} {bytes : Int}
/-- What stays, of one size. -/
abbrev stay (l : List S50) (ws : List Int) (bytes : Int) : List S50 := afterV l ws (needV l ws) (List.replicate (needV l ws).length bytes)
theorem turn_bytes (hb0 : 0 ≤ bytes) (hb1 : bytes ≤ 524288) (need : List Int) (g : S50) (hg : 0 ≤ g.f2 ∧ g.f2 ≤ 524288) : 0 ≤ (turnG need (List.replicate need.length bytes) g).f2 ∧ (turnG need (List.replicate need.length bytes) g).f2 ≤ 524288 := by
  unfold turnG
  split
  · simp only
    rw [List.getD_eq_getElem?_getD, List.getElem?_replicate]
    split
    · exact ⟨hb0, hb1⟩
    · simp
  · exact hg
theorem stay_good (hg : GoodTo l l.length) (hb0 : 0 ≤ bytes) (hb1 : bytes ≤ 524288) : GoodTo (stay l ws bytes) (stay l ws bytes).length := by
  have hr : Rises l := fun a b => hg.rises a b
  refine good_of ?_ ?_
  · unfold stay afterV
    rw [List.pairwise_map]
    refine ((pairwise_of_rises hr).filter _).imp (fun h => ?_)
    rw [turnG_f0, turnG_f0]; exact h
  · intro x hx
    obtain ⟨g, hgl, hgw, rfl⟩ := mem_after.1 hx
    obtain ⟨j, hj, rfl⟩ := mem_nth hgl
    have ok := hg j hj
    rw [turnG_f0]
    have hbb := turn_bytes hb0 hb1 (needV l ws) (nth l j) ⟨ok.2.1, ok.2.2.1⟩
    refine ⟨ok.1, hbb.1, hbb.2, ?_⟩
    by_cases hn : (needV l ws).contains (nth l j).f0 = true
    · left; unfold turnG; rw [if_pos hn]
    · have ht : turnG (needV l ws) (List.replicate (needV l ws).length bytes) (nth l j) = nth l j := by unfold turnG; rw [if_neg hn]
      rw [ht]
      rcases ok.2.2.2.2 with h | ⟨m, hm, h⟩
      · exact .inl h
      · right
        have hml : m < l.length := by omega
        rw [need_has hr hgl, hgw] at hn
        have hw1 : ws.contains (nth l m).f0 = true := by rw [h]; simpa using hn
        exact ⟨_, mem_after.2 ⟨nth l m, nth_mem hml, hw1, rfl⟩, by rw [turnG_f0]; exact h, by rw [turnG_f0]; exact hr m j hm hj⟩
theorem depF_self_at {l : List S50} {n : Nat} (h : (nth l n).f1 = (nth l n).f0) : depF l (n + 1) (nth l n).f0 = 1 := by
  simp only [depF]; rw [if_pos trivial, if_pos h]
theorem depF_pos (l : List S50) (n : Nat) : 1 ≤ depF l (n + 1) (nth l n).f0 := by
  simp only [depF]
  rw [if_pos trivial]
  split
  · omega
  · have := depF_le l n (l.getD n z50).f1; omega
theorem depF_base {l : List S50} (hr : Rises l) {n m : Nat} (hn : n < l.length) (hm : m < n) (hs : ¬ (nth l n).f1 = (nth l n).f0) (e : (nth l m).f0 = (nth l n).f1) : depF l (n + 1) (nth l n).f0 = depF l (m + 1) (nth l m).f0 + 1 := by
  simp only [depF]
  rw [if_pos trivial, if_neg hs, if_neg hs, ← e, depF_at l hr hm (by omega)]
  simp only [depF]
theorem stay_deep (hg : GoodTo l l.length) (hb0 : 0 ≤ bytes) (hb1 : bytes ≤ 524288) (n : Nat) : n < l.length → ∀ j, j < (stay l ws bytes).length → (nth (stay l ws bytes) j).f0 = (nth l n).f0 → depF (stay l ws bytes) (j + 1) (nth (stay l ws bytes) j).f0 ≤ depF l (n + 1) (nth l n).f0 := by
  have hga := stay_good (ws := ws) hg hb0 hb1
  have hr : Rises l := fun a b => hg.rises a b
  have hra : Rises (stay l ws bytes) := fun a b => hga.rises a b
  induction n using Nat.strongRecOn with
  | _ n ih =>
    intro hn j hj he
    by_cases hs : (nth (stay l ws bytes) j).f1 = (nth (stay l ws bytes) j).f0
    · rw [depF_self_at hs]; exact depF_pos l n
    · obtain ⟨g, hgl, hgw, hge⟩ := mem_after.1 (nth_mem hj)
      obtain ⟨q, hq, rfl⟩ := mem_nth hgl
      have hqn : q = n := hr.inj hq hn (by rw [← he, ← hge, turnG_f0])
      subst hqn
      have hnn : ¬ (needV l ws).contains (nth l q).f0 = true := by
        intro h
        apply hs
        rw [← hge]
        unfold turnG
        rw [if_pos h]
      have ht : nth (stay l ws bytes) j = nth l q := by rw [← hge]; unfold turnG; rw [if_neg hnn]
      rw [ht] at hs
      rcases (hg q hn).2.2.2.2 with h | ⟨m, hm, h⟩
      · exact absurd h hs
      · rcases (hga j hj).2.2.2.2 with h' | ⟨m', hm', h'⟩
        · rw [ht] at h'; exact absurd h' hs
        · have i1 := ih m hm (by omega) m' (by omega) (by rw [h', ht, h])
          rw [depF_base hra hj hm' (by rw [ht]; exact hs) h', depF_base hr hn hm hs h]
          omega
end
/-- The road to one that is there, and how long it is. -/
theorem road_len (l : List S50) (hg : GoodTo l l.length) (hl : l.length ≤ 60) (k : Nat) (hk : 500 ≤ k) (n : Nat) (hn : n < l.length) : ∃ p : List Int, keep_Road.f k l (nth l n).f0 = some (p, 0) ∧ (p.length : Int) = depF l (n + 1) (nth l n).f0 := by
  obtain ⟨p, _, _, pd, _, p3, _⟩ := road_both l hg hl n hn
  obtain ⟨e, c1, _, _, c4⟩ := check_both l k (by omega)
  have he := c4 hg (by omega)
  subst he
  refine ⟨p, ?_, pd⟩
  unfold keep_Road.f
  rw [c1]
  simp only [Option.bind_some, if_true]
  rw [p3 k [] (by simp; omega) (by omega)]
  simp

/-- What the law asks. -/
theorem holds (l : List S50) (ws : List Int) (need : List Int) (bytes : Int) (k : Nat) (h1 : l.length ≤ 60) (h2 : ws.length ≤ 60) (hk : 5000 ≤ k) (hg : ∀ y ∈ l, good50 y) (hw : ∀ y ∈ ws, good3 y) (hn : keep_Need.f k l ws = some (need, 0)) (hb0 : 0 ≤ bytes) (hb1 : bytes ≤ 524288) :
    need.length ≤ 60 ∧ NeedOk l ws ∧ (afterV l ws need (List.replicate need.length bytes)).length ≤ 60 ∧ keep_Check.f k (afterV l ws need (List.replicate need.length bytes)) = some 0 ∧
      ∀ x ∈ ws, ∃ r q : List Int, keep_Road.f k (afterV l ws need (List.replicate need.length bytes)) x = some (r, 0) ∧ keep_Road.f k l x = some (q, 0) ∧ r.length ≤ q.length := by
  obtain ⟨⟨need', e'⟩, n1, _, n3⟩ := need_both l ws k h1 h2 (by omega) hg hw
  rw [hn] at n1
  cases n1
  have hok : NeedOk l ws := ⟨by omega, by omega, fun g hg' => ⟨(hg g hg').1, (hg g hg').2.1⟩, hw⟩
  obtain ⟨e, c1, _, c3, _⟩ := check_both l k (by omega)
  unfold keep_Need.f at hn
  rw [c1] at hn
  simp only [Option.bind_some] at hn
  by_cases hz : e = 0
  · rw [if_pos hz, if_pos hok] at hn
    obtain ⟨hgo, _⟩ := c3 hz
    have hr : Rises l := fun a b => hgo.rises a b
    change (if allIn l ws = true then some (needV l ws, (0 : Int)) else some ([], 8)) = some (need, 0) at hn
    by_cases ha : allIn l ws = true
    · rw [if_pos ha] at hn
      cases hn
      have hga := stay_good (ws := ws) hgo hb0 hb1
      have hal : (stay l ws bytes).length ≤ 60 := by
        have := afterV_le l ws (needV l ws) (List.replicate (needV l ws).length bytes) l.length
        rw [List.take_length] at this
        exact Nat.le_trans this h1
      refine ⟨n3, hok, hal, ?_, fun x hx => ?_⟩
      · obtain ⟨e2, d1, _, _, d4⟩ := check_both (stay l ws bytes) k (by omega)
        rw [d1, d4 hga (by omega)]
      · obtain ⟨i, hi, rfl⟩ := List.getElem_of_mem hx
        have hp := (allIn_iff l ws).1 ha i hi
        rw [List.getD_eq_getElem?_getD, List.getElem?_eq_getElem hi] at hp
        simp only [Option.getD_some] at hp
        rcases placeV_spec l ws[i] hr with ⟨h, _⟩ | ⟨n, _, hnl, he, _⟩
        · omega
        · rw [← he]
          have hc : ws.contains (nth l n).f0 = true := by rw [he, List.contains_iff_mem]; exact hx
          obtain ⟨j, hj, hje⟩ := mem_nth (mem_after.2 ⟨nth l n, nth_mem hnl, hc, rfl⟩ : turnG (needV l ws) (List.replicate (needV l ws).length bytes) (nth l n) ∈ stay l ws bytes)
          have hj0 : (nth (stay l ws bytes) j).f0 = (nth l n).f0 := by rw [hje, turnG_f0]
          obtain ⟨q, q1, q2⟩ := road_len l hgo h1 k (by omega) n hnl
          obtain ⟨r, r1, r2⟩ := road_len (stay l ws bytes) hga hal k (by omega) j hj
          have hd := stay_deep (ws := ws) hgo hb0 hb1 n hnl j hj hj0
          rw [hj0] at r1
          exact ⟨r, q, r1, q1, by omega⟩
    · rw [if_neg ha] at hn; cases hn
  · rw [if_neg hz] at hn
    cases hn
    exact absurd rfl hz
end Go.Proofs.Yteamoejgpcognaa.Pure

-- from YteamoejgpcognaaPAllx22
-- Written by a program of this session (wip/tools/hookprint.py, over the print); Lean checks it.
namespace Go.Proofs.Yteamoejgpcognaa.PAll
open Go.RowKit Go.Proofs.YteamoejgpcognaaW.PrintWords Go.Proofs.YteamoejgpcognaaW.PrintLast Go.Proofs.YteamoejgpcognaaW.PrintMore
attribute [local go_sem] max2_int min2_int max_two min_two max_three min_three max_four min_four   -- for this text's walks alone
set_option linter.unusedVariables false
set_option linter.unusedSimpArgs false

/-! ### keep_Right: function 25 -/
def keep_Right.f (a0_0 : Int) (a0_1 : Int) : Option (Bool) := if a0_0 ≥ 1 then (if a0_0 ≤ 1048576 then (if a0_1 ≥ 0 then (some (decide (a0_1 ≤ 1048576))) else (some false)) else (some false)) else (some false)
set_option maxHeartbeats 8000000 in
set_option maxRecDepth 100000 in
theorem keep_Right.calls (a0_0 : Int) (a0_1 : Int) (r : Bool) (w : World) (h : keep_Right.f a0_0 a0_1 = some r) :
    Calls Try.prog 25 #[.agg #[.int .i64 a0_0, .int .i64 a0_1]] w fun e w' => e = .returned (.bool r) ∧ Below w.heap.size w w' := by
  have hu42 := Try.underlying42
  have HB := Aside0.mk (Below.refl w.heap.size w)
  have H : (if a0_0 ≥ 1 then (if a0_0 ≤ 1048576 then (if a0_1 ≥ 0 then (some (decide (a0_1 ≤ 1048576))) else (some false)) else (some false)) else (some false)) = some r := h
  clear h
  by_cases c2 : a0_0 ≥ 1
  · rw [if_pos c2] at H
    have c2b0 : decide (1 ≤ a0_0) = true := decide_eq_true c2
    clear c2
    by_cases c3 : a0_0 ≤ 1048576
    · rw [if_pos c3] at H
      have c3b0 : decide (a0_0 ≤ 1048576) = true := decide_eq_true c3
      clear c3
      by_cases c4 : a0_1 ≥ 0
      · rw [if_pos c4] at H
        have c4b0 : decide (0 ≤ a0_1) = true := decide_eq_true c4
        clear c4
        obtain rfl := Option.some.inj H
        go_enter Try.func25, Try.ntmps25
        go_wp2_with (first | ((with_reducible refine gate_dst (N := 1) rfl ?_); refine box_event ?hg (N := 1) ?hd (cs := #[.int .i64 a0_0, .int .i64 a0_1]) (t := 42) ?hr ?_; (case hd => rfl); (case hg => rfl); (case hr => first | (go_simp; done) | (go_simp; rfl)); intro gb216 hg w5 hbox hb; have n0_ := Aside0.mk (below_step (by repeat (first | (with_reducible first | exact HB.out | apply below_alloc | apply pw_below_drewN | apply below_drew1) | exact HB.out)) hb); have n1_ := Aside0.mk (hbox); have n2_ := Aside0.mk ((by rw [hg]; exact (below_size (by repeat (first | (with_reducible first | exact HB.out | apply below_alloc | apply pw_below_drewN | apply below_drew1) | exact HB.out))) : w.heap.size ≤ gb216)); have n3_ := Aside0.mk ((by rw [hg]; exact (below_size (by repeat (first | (with_reducible first | exact HB.out | apply below_alloc | apply pw_below_drewN | apply below_drew1) | exact HB.out))) : w.heap.size ≤ gb216)); clear HB; have HB := n0_; have BK216 := n1_; have GW216 := n2_; have GE216 := n3_; clear n0_ n1_ n2_ n3_; clear hb hbox hg; have hcz6_0 : w5.cell? ⟨gb216, 0, none⟩ = some (.int .i64 a0_0) := (blk_cell BK216.out 0).trans rfl; have hcz6_1 : w5.cell? ⟨gb216, 1, none⟩ = some (.int .i64 a0_1) := (blk_cell BK216.out 1).trans rfl; have hfz6_0 := blk_frozen BK216.out 0; have hfz6_1 := blk_frozen BK216.out 1))
        go_ret
        exact ⟨by first | rfl | (simp [errW_none, errW_some] <;> rfl) | (simp [*, errW_none, errW_some] <;> rfl), by repeat (first | (with_reducible first | exact HB.out | apply below_alloc | apply pw_below_drewN | apply below_drew1 | refine below_set ?_ GE216.out) | exact HB.out)⟩
      · rw [if_neg c4] at H
        have c4b0 : decide (0 ≤ a0_1) = false := decide_eq_false c4
        clear c4
        obtain rfl := Option.some.inj H
        go_enter Try.func25, Try.ntmps25
        go_wp2_with (first | ((with_reducible refine gate_dst (N := 1) rfl ?_); refine box_event ?hg (N := 1) ?hd (cs := #[.int .i64 a0_0, .int .i64 a0_1]) (t := 42) ?hr ?_; (case hd => rfl); (case hg => rfl); (case hr => first | (go_simp; done) | (go_simp; rfl)); intro gb216 hg w7 hbox hb; have n0_ := Aside0.mk (below_step (by repeat (first | (with_reducible first | exact HB.out | apply below_alloc | apply pw_below_drewN | apply below_drew1) | exact HB.out)) hb); have n1_ := Aside0.mk (hbox); have n2_ := Aside0.mk ((by rw [hg]; exact (below_size (by repeat (first | (with_reducible first | exact HB.out | apply below_alloc | apply pw_below_drewN | apply below_drew1) | exact HB.out))) : w.heap.size ≤ gb216)); have n3_ := Aside0.mk ((by rw [hg]; exact (below_size (by repeat (first | (with_reducible first | exact HB.out | apply below_alloc | apply pw_below_drewN | apply below_drew1) | exact HB.out))) : w.heap.size ≤ gb216)); clear HB; have HB := n0_; have BK216 := n1_; have GW216 := n2_; have GE216 := n3_; clear n0_ n1_ n2_ n3_; clear hb hbox hg; have hcz8_0 : w7.cell? ⟨gb216, 0, none⟩ = some (.int .i64 a0_0) := (blk_cell BK216.out 0).trans rfl; have hcz8_1 : w7.cell? ⟨gb216, 1, none⟩ = some (.int .i64 a0_1) := (blk_cell BK216.out 1).trans rfl; have hfz8_0 := blk_frozen BK216.out 0; have hfz8_1 := blk_frozen BK216.out 1))
        go_ret
        exact ⟨by first | rfl | (simp [errW_none, errW_some] <;> rfl) | (simp [*, errW_none, errW_some] <;> rfl), by repeat (first | (with_reducible first | exact HB.out | apply below_alloc | apply pw_below_drewN | apply below_drew1 | refine below_set ?_ GE216.out) | exact HB.out)⟩
    · rw [if_neg c3] at H
      have c3b0 : decide (a0_0 ≤ 1048576) = false := decide_eq_false c3
      clear c3
      obtain rfl := Option.some.inj H
      go_enter Try.func25, Try.ntmps25
      go_wp2_with (first | ((with_reducible refine gate_dst (N := 1) rfl ?_); refine box_event ?hg (N := 1) ?hd (cs := #[.int .i64 a0_0, .int .i64 a0_1]) (t := 42) ?hr ?_; (case hd => rfl); (case hg => rfl); (case hr => first | (go_simp; done) | (go_simp; rfl)); intro gb216 hg w9 hbox hb; have n0_ := Aside0.mk (below_step (by repeat (first | (with_reducible first | exact HB.out | apply below_alloc | apply pw_below_drewN | apply below_drew1) | exact HB.out)) hb); have n1_ := Aside0.mk (hbox); have n2_ := Aside0.mk ((by rw [hg]; exact (below_size (by repeat (first | (with_reducible first | exact HB.out | apply below_alloc | apply pw_below_drewN | apply below_drew1) | exact HB.out))) : w.heap.size ≤ gb216)); have n3_ := Aside0.mk ((by rw [hg]; exact (below_size (by repeat (first | (with_reducible first | exact HB.out | apply below_alloc | apply pw_below_drewN | apply below_drew1) | exact HB.out))) : w.heap.size ≤ gb216)); clear HB; have HB := n0_; have BK216 := n1_; have GW216 := n2_; have GE216 := n3_; clear n0_ n1_ n2_ n3_; clear hb hbox hg; have hcz10_0 : w9.cell? ⟨gb216, 0, none⟩ = some (.int .i64 a0_0) := (blk_cell BK216.out 0).trans rfl; have hcz10_1 : w9.cell? ⟨gb216, 1, none⟩ = some (.int .i64 a0_1) := (blk_cell BK216.out 1).trans rfl; have hfz10_0 := blk_frozen BK216.out 0; have hfz10_1 := blk_frozen BK216.out 1))
      go_ret
      exact ⟨by first | rfl | (simp [errW_none, errW_some] <;> rfl) | (simp [*, errW_none, errW_some] <;> rfl), by repeat (first | (with_reducible first | exact HB.out | apply below_alloc | apply pw_below_drewN | apply below_drew1 | refine below_set ?_ GE216.out) | exact HB.out)⟩
  · rw [if_neg c2] at H
    have c2b0 : decide (1 ≤ a0_0) = false := decide_eq_false c2
    clear c2
    obtain rfl := Option.some.inj H
    go_enter Try.func25, Try.ntmps25
    go_wp2_with (first | ((with_reducible refine gate_dst (N := 1) rfl ?_); refine box_event ?hg (N := 1) ?hd (cs := #[.int .i64 a0_0, .int .i64 a0_1]) (t := 42) ?hr ?_; (case hd => rfl); (case hg => rfl); (case hr => first | (go_simp; done) | (go_simp; rfl)); intro gb216 hg w11 hbox hb; have n0_ := Aside0.mk (below_step (by repeat (first | (with_reducible first | exact HB.out | apply below_alloc | apply pw_below_drewN | apply below_drew1) | exact HB.out)) hb); have n1_ := Aside0.mk (hbox); have n2_ := Aside0.mk ((by rw [hg]; exact (below_size (by repeat (first | (with_reducible first | exact HB.out | apply below_alloc | apply pw_below_drewN | apply below_drew1) | exact HB.out))) : w.heap.size ≤ gb216)); have n3_ := Aside0.mk ((by rw [hg]; exact (below_size (by repeat (first | (with_reducible first | exact HB.out | apply below_alloc | apply pw_below_drewN | apply below_drew1) | exact HB.out))) : w.heap.size ≤ gb216)); clear HB; have HB := n0_; have BK216 := n1_; have GW216 := n2_; have GE216 := n3_; clear n0_ n1_ n2_ n3_; clear hb hbox hg; have hcz12_0 : w11.cell? ⟨gb216, 0, none⟩ = some (.int .i64 a0_0) := (blk_cell BK216.out 0).trans rfl; have hcz12_1 : w11.cell? ⟨gb216, 1, none⟩ = some (.int .i64 a0_1) := (blk_cell BK216.out 1).trans rfl; have hfz12_0 := blk_frozen BK216.out 0; have hfz12_1 := blk_frozen BK216.out 1))
    go_ret
    exact ⟨by first | rfl | (simp [errW_none, errW_some] <;> rfl) | (simp [*, errW_none, errW_some] <;> rfl), by repeat (first | (with_reducible first | exact HB.out | apply below_alloc | apply pw_below_drewN | apply below_drew1 | refine below_set ?_ GE216.out) | exact HB.out)⟩

end Go.Proofs.Yteamoejgpcognaa.PAll

-- from YteamoejgpcognaaPAllx23
-- Written by a program of this session (wip/tools/hookprint.py, over the print); Lean checks it.
namespace Go.Proofs.Yteamoejgpcognaa.PAll
open Go.RowKit Go.Proofs.YteamoejgpcognaaW.PrintWords Go.Proofs.YteamoejgpcognaaW.PrintLast Go.Proofs.YteamoejgpcognaaW.PrintMore
attribute [local go_sem] max2_int min2_int max_two min_two max_three min_three max_four min_four   -- for this text's walks alone
set_option linter.unusedVariables false
set_option linter.unusedSimpArgs false

/-! ### keep_Floor: function 29 -/
def keep_Floor.f (a0_0 : Int) (a0_1 : Int) (a1 : Int) : Option (Int) := (keep_Right.f a0_0 a0_1).bind fun t218 => (if t218 = true then (if a1 < a0_0 then (some 0) else (some (wrap64 ((wrap64 (a1 - a0_0)) + 1)))) else (some 0))
set_option maxHeartbeats 8000000 in
set_option maxRecDepth 100000 in
theorem keep_Floor.calls (a0_0 : Int) (a0_1 : Int) (a1 : Int) (r : Int) (w : World) (h : keep_Floor.f a0_0 a0_1 a1 = some r) :
    Calls Try.prog 29 #[.agg #[.int .i64 a0_0, .int .i64 a0_1], .int .i64 a1] w fun e w' => e = .returned (.int .i64 r) ∧ Below w.heap.size w w' := by
  have hu42 := Try.underlying42
  have HB := Aside0.mk (Below.refl w.heap.size w)
  have H : ((keep_Right.f a0_0 a0_1).bind fun t218 => (if t218 = true then (if a1 < a0_0 then (some 0) else (some (wrap64 ((wrap64 (a1 - a0_0)) + 1)))) else (some 0))) = some r := h
  clear h
  replace H := Option.bind_eq_some_iff.mp H
  obtain ⟨t218, A30, H⟩ := H
  replace H : (if t218 = true then (if a1 < a0_0 then (some 0) else (some (wrap64 ((wrap64 (a1 - a0_0)) + 1)))) else (some 0)) = some r := H
  have A3 := Aside0.mk A30
  clear A30
  by_cases c4 : t218 = true
  · subst c4
    have H1 : (if a1 < a0_0 then (some 0) else (some (wrap64 ((wrap64 (a1 - a0_0)) + 1)))) = some r := by rw [if_pos rfl] at H; exact H
    clear H
    have H := H1
    clear H1
    by_cases c5 : a1 < a0_0
    · rw [if_pos c5] at H
      have c5b0 : decide (a1 < a0_0) = true := decide_eq_true c5
      clear c5
      obtain rfl := Option.some.inj H
      go_enter Try.func29, Try.ntmps29
      go_wp2_with (first | ((with_reducible refine gate_dst (N := 2) rfl ?_); refine box_event ?hg (N := 2) ?hd (cs := #[.int .i64 a0_0, .int .i64 a0_1]) (t := 42) ?hr ?_; (case hd => rfl); (case hg => rfl); (case hr => first | (go_simp; done) | (go_simp; rfl)); intro gb217 hg w6 hbox hb; have n0_ := Aside0.mk (below_step (by repeat (first | (with_reducible first | exact HB.out | apply below_alloc | apply pw_below_drewN | apply below_drew1) | exact HB.out)) hb); have n1_ := Aside0.mk (hbox); have n2_ := Aside0.mk ((by rw [hg]; exact (below_size (by repeat (first | (with_reducible first | exact HB.out | apply below_alloc | apply pw_below_drewN | apply below_drew1) | exact HB.out))) : w.heap.size ≤ gb217)); have n3_ := Aside0.mk ((by rw [hg]; exact (below_size (by repeat (first | (with_reducible first | exact HB.out | apply below_alloc | apply pw_below_drewN | apply below_drew1) | exact HB.out))) : w.heap.size ≤ gb217)); clear HB; have HB := n0_; have BK217 := n1_; have GW217 := n2_; have GE217 := n3_; clear n0_ n1_ n2_ n3_; clear hb hbox hg; have hcz7_0 : w6.cell? ⟨gb217, 0, none⟩ = some (.int .i64 a0_0) := (blk_cell BK217.out 0).trans rfl; have hcz7_1 : w6.cell? ⟨gb217, 1, none⟩ = some (.int .i64 a0_1) := (blk_cell BK217.out 1).trans rfl; have hfz7_0 := blk_frozen BK217.out 0; have hfz7_1 := blk_frozen BK217.out 1) | ((with_reducible refine gate_callee (f := 25) rfl ?_); refine goesL_ (some 6) rfl rfl Try.func25 (by kernel_rfl) rfl #[.agg #[.int .i64 a0_0, .int .i64 a0_1]] rfl (by (try simp only [List.map_toArray, List.map_cons, List.map_nil]); first | done | rfl | (simp only [List.length_drop, List.length_take]; rfl)) ?_; (with_reducible refine (keep_Right.calls a0_0 a0_1 true _ A3.out).mono ?_); rintro e w8 ⟨rfl, hb⟩; refine ⟨_, rfl, ?_⟩; have n0_ := Aside0.mk (blk_below (g := gb217) (o := .cells #[.int .i64 a0_0, .int .i64 a0_1] 42 (0, 0)) (by (with_reducible repeat (first | refine blk_drewN ?_ _ | refine blk_drew ?_ | refine blk_alloc ?_ _)); exact BK217.out) hb); have n1_ := Aside0.mk (below_step (by repeat (first | (with_reducible first | exact HB.out | apply below_alloc | apply pw_below_drewN | apply below_drew1 | refine below_set ?_ GE217.out) | exact HB.out)) hb); clear BK217; clear HB; have BK217 := n0_; have HB := n1_; clear n0_ n1_; (try clear hb); (try clear hb2); (try clear hk); (try clear hi); have hcz9_0 : w8.cell? ⟨gb217, 0, none⟩ = some (.int .i64 a0_0) := (blk_cell BK217.out 0).trans rfl; have hcz9_1 : w8.cell? ⟨gb217, 1, none⟩ = some (.int .i64 a0_1) := (blk_cell BK217.out 1).trans rfl; have hfz9_0 := blk_frozen BK217.out 0; have hfz9_1 := blk_frozen BK217.out 1))
      go_ret
      exact ⟨by first | rfl | (simp [errW_none, errW_some] <;> rfl) | (simp [*, errW_none, errW_some] <;> rfl), by repeat (first | (with_reducible first | exact HB.out | apply below_alloc | apply pw_below_drewN | apply below_drew1 | refine below_set ?_ GE217.out) | exact HB.out)⟩
    · rw [if_neg c5] at H
      have c5b0 : decide (a1 < a0_0) = false := decide_eq_false c5
      clear c5
      obtain rfl := Option.some.inj H
      go_enter Try.func29, Try.ntmps29
      go_wp2_with (first | ((with_reducible refine gate_dst (N := 2) rfl ?_); refine box_event ?hg (N := 2) ?hd (cs := #[.int .i64 a0_0, .int .i64 a0_1]) (t := 42) ?hr ?_; (case hd => rfl); (case hg => rfl); (case hr => first | (go_simp; done) | (go_simp; rfl)); intro gb217 hg w10 hbox hb; have n0_ := Aside0.mk (below_step (by repeat (first | (with_reducible first | exact HB.out | apply below_alloc | apply pw_below_drewN | apply below_drew1) | exact HB.out)) hb); have n1_ := Aside0.mk (hbox); have n2_ := Aside0.mk ((by rw [hg]; exact (below_size (by repeat (first | (with_reducible first | exact HB.out | apply below_alloc | apply pw_below_drewN | apply below_drew1) | exact HB.out))) : w.heap.size ≤ gb217)); have n3_ := Aside0.mk ((by rw [hg]; exact (below_size (by repeat (first | (with_reducible first | exact HB.out | apply below_alloc | apply pw_below_drewN | apply below_drew1) | exact HB.out))) : w.heap.size ≤ gb217)); clear HB; have HB := n0_; have BK217 := n1_; have GW217 := n2_; have GE217 := n3_; clear n0_ n1_ n2_ n3_; clear hb hbox hg; have hcz11_0 : w10.cell? ⟨gb217, 0, none⟩ = some (.int .i64 a0_0) := (blk_cell BK217.out 0).trans rfl; have hcz11_1 : w10.cell? ⟨gb217, 1, none⟩ = some (.int .i64 a0_1) := (blk_cell BK217.out 1).trans rfl; have hfz11_0 := blk_frozen BK217.out 0; have hfz11_1 := blk_frozen BK217.out 1) | ((with_reducible refine gate_callee (f := 25) rfl ?_); refine goesL_ (some 6) rfl rfl Try.func25 (by kernel_rfl) rfl #[.agg #[.int .i64 a0_0, .int .i64 a0_1]] rfl (by (try simp only [List.map_toArray, List.map_cons, List.map_nil]); first | done | rfl | (simp only [List.length_drop, List.length_take]; rfl)) ?_; (with_reducible refine (keep_Right.calls a0_0 a0_1 true _ A3.out).mono ?_); rintro e w12 ⟨rfl, hb⟩; refine ⟨_, rfl, ?_⟩; have n0_ := Aside0.mk (blk_below (g := gb217) (o := .cells #[.int .i64 a0_0, .int .i64 a0_1] 42 (0, 0)) (by (with_reducible repeat (first | refine blk_drewN ?_ _ | refine blk_drew ?_ | refine blk_alloc ?_ _)); exact BK217.out) hb); have n1_ := Aside0.mk (below_step (by repeat (first | (with_reducible first | exact HB.out | apply below_alloc | apply pw_below_drewN | apply below_drew1 | refine below_set ?_ GE217.out) | exact HB.out)) hb); clear BK217; clear HB; have BK217 := n0_; have HB := n1_; clear n0_ n1_; (try clear hb); (try clear hb2); (try clear hk); (try clear hi); have hcz13_0 : w12.cell? ⟨gb217, 0, none⟩ = some (.int .i64 a0_0) := (blk_cell BK217.out 0).trans rfl; have hcz13_1 : w12.cell? ⟨gb217, 1, none⟩ = some (.int .i64 a0_1) := (blk_cell BK217.out 1).trans rfl; have hfz13_0 := blk_frozen BK217.out 0; have hfz13_1 := blk_frozen BK217.out 1))
      go_ret
      exact ⟨by first | rfl | (simp [errW_none, errW_some] <;> rfl) | (simp [*, errW_none, errW_some] <;> rfl), by repeat (first | (with_reducible first | exact HB.out | apply below_alloc | apply pw_below_drewN | apply below_drew1 | refine below_set ?_ GE217.out) | exact HB.out)⟩
  · replace c4 := Bool.eq_false_iff.mpr c4
    subst c4
    have H1 : (some 0) = some r := by rw [if_neg (show ¬ (false = true) by decide)] at H; exact H
    clear H
    have H := H1
    clear H1
    obtain rfl := Option.some.inj H
    go_enter Try.func29, Try.ntmps29
    go_wp2_with (first | ((with_reducible refine gate_dst (N := 2) rfl ?_); refine box_event ?hg (N := 2) ?hd (cs := #[.int .i64 a0_0, .int .i64 a0_1]) (t := 42) ?hr ?_; (case hd => rfl); (case hg => rfl); (case hr => first | (go_simp; done) | (go_simp; rfl)); intro gb217 hg w14 hbox hb; have n0_ := Aside0.mk (below_step (by repeat (first | (with_reducible first | exact HB.out | apply below_alloc | apply pw_below_drewN | apply below_drew1) | exact HB.out)) hb); have n1_ := Aside0.mk (hbox); have n2_ := Aside0.mk ((by rw [hg]; exact (below_size (by repeat (first | (with_reducible first | exact HB.out | apply below_alloc | apply pw_below_drewN | apply below_drew1) | exact HB.out))) : w.heap.size ≤ gb217)); have n3_ := Aside0.mk ((by rw [hg]; exact (below_size (by repeat (first | (with_reducible first | exact HB.out | apply below_alloc | apply pw_below_drewN | apply below_drew1) | exact HB.out))) : w.heap.size ≤ gb217)); clear HB; have HB := n0_; have BK217 := n1_; have GW217 := n2_; have GE217 := n3_; clear n0_ n1_ n2_ n3_; clear hb hbox hg; have hcz15_0 : w14.cell? ⟨gb217, 0, none⟩ = some (.int .i64 a0_0) := (blk_cell BK217.out 0).trans rfl; have hcz15_1 : w14.cell? ⟨gb217, 1, none⟩ = some (.int .i64 a0_1) := (blk_cell BK217.out 1).trans rfl; have hfz15_0 := blk_frozen BK217.out 0; have hfz15_1 := blk_frozen BK217.out 1) | ((with_reducible refine gate_callee (f := 25) rfl ?_); refine goesL_ (some 6) rfl rfl Try.func25 (by kernel_rfl) rfl #[.agg #[.int .i64 a0_0, .int .i64 a0_1]] rfl (by (try simp only [List.map_toArray, List.map_cons, List.map_nil]); first | done | rfl | (simp only [List.length_drop, List.length_take]; rfl)) ?_; (with_reducible refine (keep_Right.calls a0_0 a0_1 false _ A3.out).mono ?_); rintro e w16 ⟨rfl, hb⟩; refine ⟨_, rfl, ?_⟩; have n0_ := Aside0.mk (blk_below (g := gb217) (o := .cells #[.int .i64 a0_0, .int .i64 a0_1] 42 (0, 0)) (by (with_reducible repeat (first | refine blk_drewN ?_ _ | refine blk_drew ?_ | refine blk_alloc ?_ _)); exact BK217.out) hb); have n1_ := Aside0.mk (below_step (by repeat (first | (with_reducible first | exact HB.out | apply below_alloc | apply pw_below_drewN | apply below_drew1 | refine below_set ?_ GE217.out) | exact HB.out)) hb); clear BK217; clear HB; have BK217 := n0_; have HB := n1_; clear n0_ n1_; (try clear hb); (try clear hb2); (try clear hk); (try clear hi)))
    go_ret
    exact ⟨by first | rfl | (simp [errW_none, errW_some] <;> rfl) | (simp [*, errW_none, errW_some] <;> rfl), by repeat (first | (with_reducible first | exact HB.out | apply below_alloc | apply pw_below_drewN | apply below_drew1 | refine below_set ?_ GE217.out) | exact HB.out)⟩

end Go.Proofs.Yteamoejgpcognaa.PAll

-- from YteamoejgpcognaaPAllx16
-- Written by a program of this session (wip/tools/hookprint.py, over the print); Lean checks it.
namespace Go.Proofs.Yteamoejgpcognaa.PAll
open Go.RowKit Go.Proofs.YteamoejgpcognaaW.PrintWords Go.Proofs.YteamoejgpcognaaW.PrintLast Go.Proofs.YteamoejgpcognaaW.PrintMore
attribute [local go_sem] max2_int min2_int max_two min_two max_three min_three max_four min_four   -- for this text's walks alone
set_option linter.unusedVariables false
set_option linter.unusedSimpArgs false

/- GIVEN: Derived.Test.YteamoejgpcognaaGivNeed
def keep_Need.f
theorem keep_Need.mono
theorem keep_Need.calls
-/
end Go.Proofs.Yteamoejgpcognaa.PAll

