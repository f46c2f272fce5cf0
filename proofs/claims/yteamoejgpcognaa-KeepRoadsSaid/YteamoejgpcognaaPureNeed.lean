import Derived.Test.YteamoejgpcognaaPureCheck
import Derived.Test.YteamoejgpcognaaPAllx19
import Derived.Test.YteamoejgpcognaaPAllx20
import Derived.Test.YteamoejgpcognaaPAllx21
import Derived.Test.YteamoejgpcognaaGivNeed
import Derived.Test.YteamoejgpcognaaRead
namespace Go.Proofs.Yteamoejgpcognaa.Pure
open Go.RowKit Go.Proofs.YteamoejgpcognaaW.PrintWords Go.Proofs.YteamoejgpcognaaW.PrintLast Go.Proofs.YteamoejgpcognaaW.PrintMore Go.Proofs.Yteamoejgpcognaa.PAll
set_option linter.unusedVariables false
set_option linter.unusedSimpArgs false

theorem rdi_nat (l : List Int) (j : Nat) : rd l (j : Int) = l.getD j 0 := by unfold rd; rw [Int.toNat_natCast]
theorem in_l0 (l : List Int) (g : Int) (hlen : l.length ≤ 1000000) (d : Nat) : ∀ (k i : Nat), l.length - i = d → i ≤ l.length → d < k → barqueref12_in.l0 k l g i = some ((l.drop i).contains g) := by
  induction d with
  | zero =>
    intro k i hd hi hk
    obtain ⟨k, rfl⟩ : ∃ m, k = m + 1 := ⟨k - 1, by omega⟩
    simp only [barqueref12_in.l0]
    rw [if_neg (by omega), List.drop_of_length_le (by omega)]; rfl
  | succ d ih =>
    intro k i hd hi hk
    obtain ⟨k, rfl⟩ : ∃ m, k = m + 1 := ⟨k - 1, by omega⟩
    have hil : i < l.length := by omega
    have e0 : l.getD i 0 = l[i] := by rw [List.getD_eq_getElem?_getD, List.getElem?_eq_getElem hil]; rfl
    simp only [barqueref12_in.l0]
    rw [if_pos (by omega), if_pos (by omega), rdi_nat, List.drop_eq_getElem_cons hil, List.contains_cons, e0]
    by_cases he : l[i] = g
    · rw [if_pos he, he]; simp
    · rw [if_neg he, show wrap64 ((i : Int) + 1) = ((i + 1 : Nat) : Int) by unfold wrap64; omega, ih k (i + 1) (by omega) (by omega) (by omega)]
      rw [show (g == l[i]) = false from beq_eq_false_iff_ne.2 (fun e => he e.symm), Bool.false_or]
theorem in_f (l : List Int) (g : Int) (hlen : l.length ≤ 1000000) (k : Nat) (hk : l.length < k) : barqueref12_in.f k l g = some (l.contains g) := by
  unfold barqueref12_in.f
  rw [show (0 : Int) = ((0 : Nat) : Int) from rfl, in_l0 l g hlen l.length k 0 (by omega) (by omega) hk, List.drop_zero]

theorem need_l1 (l : List S50) (ws : List Int) (h1 : l.length ≤ 4096) (h2 : ws.length ≤ 1000000) (d : Nat) : ∀ (k i : Nat), l.length - i = d → i ≤ l.length → d + ws.length + 1 < k →
    barqueref12_Need.l1 k l ws (needV (l.take i) ws) i = some (needV l ws, 0) := by
  induction d with
  | zero =>
    intro k i hd hi hk
    obtain ⟨k, rfl⟩ : ∃ m, k = m + 1 := ⟨k - 1, by omega⟩
    simp only [barqueref12_Need.l1]
    rw [if_neg (by omega), List.take_of_length_le (by omega)]
  | succ d ih =>
    intro k i hd hi hk
    obtain ⟨k, rfl⟩ : ∃ m, k = m + 1 := ⟨k - 1, by omega⟩
    have hil : i < l.length := by omega
    have hw : wrap64 ((i : Int) + 1) = ((i + 1 : Nat) : Int) := by unfold wrap64; omega
    have hn := ih k (i + 1) (by omega) (by omega) (by omega)
    have hlen : (needV (l.take i) ws).length < 17592186044416 := by have := needV_le l ws i; omega
    have c0 := in_f ws (nth l i).f0 h2 k (by omega)
    have c1 := in_f ws (nth l i).f1 h2 k (by omega)
    simp only [barqueref12_Need.l1]
    rw [if_pos (by omega), if_pos (by omega), rd_nat, c0]
    simp only [Option.bind_some]
    have hs : needV (l.take (i + 1)) ws = needV (l.take i) ws ++ ((if (ws.contains (nth l i).f0 && !ws.contains (nth l i).f1) = true then [(nth l i).f0] else [])) := by
      unfold needV
      rw [take_snoc_S l i hil, List.filter_append, List.map_append]
      congr 1
      by_cases hc : (ws.contains (nth l i).f0 && !ws.contains (nth l i).f1) = true
      · rw [if_pos hc]; simp only [List.filter_cons, hc]; rfl
      · rw [if_neg hc]; simp only [List.filter_cons, hc]; rfl
    by_cases hb0 : ws.contains (nth l i).f0 = true
    · rw [if_pos hb0, c1]
      simp only [Option.bind_some]
      by_cases hb1 : ws.contains (nth l i).f1 = true
      · rw [if_pos hb1, hw]
        rw [hb0, hb1, if_neg (by decide), List.append_nil] at hs
        rw [← hs]; exact hn
      · rw [if_neg hb1, if_pos hlen, hw]
        rw [hb0, Bool.eq_false_iff.2 hb1, if_pos (by decide)] at hs
        rw [← hs]; exact hn
    · rw [if_neg hb0, hw]
      rw [Bool.eq_false_iff.2 hb0, if_neg (by simp), List.append_nil] at hs
      rw [← hs]; exact hn

theorem need_l0 (l : List S50) (ws : List Int) (hg : GoodTo l l.length) (h1 : l.length ≤ 4096) (h2 : ws.length ≤ 1000000) (d : Nat) : ∀ (k i : Nat), ws.length - i = d → i ≤ ws.length → d + l.length + ws.length + 2 < k → (∀ j, j < i → 0 ≤ placeV l (ws.getD j 0)) →
    barqueref12_Need.l0 k l ws i = some (if allIn l ws = true then (needV l ws, 0) else ([], 8)) := by
  have hr : Rises l := fun a b => hg.rises a b
  induction d with
  | zero =>
    intro k i hd hi hk hlow
    obtain ⟨k, rfl⟩ : ∃ m, k = m + 1 := ⟨k - 1, by omega⟩
    simp only [barqueref12_Need.l0]
    rw [if_neg (by omega), if_pos ((allIn_iff l ws).2 (fun j hj => hlow j (by omega)))]
    exact need_l1 l ws h1 h2 l.length k 0 (by omega) (by omega) (by omega)
  | succ d ih =>
    intro k i hd hi hk hlow
    obtain ⟨k, rfl⟩ : ∃ m, k = m + 1 := ⟨k - 1, by omega⟩
    have hil : i < ws.length := by omega
    have hw : wrap64 ((i : Int) + 1) = ((i + 1 : Nat) : Int) := by unfold wrap64; omega
    obtain ⟨r, hr1, hs⟩ := at_f l (ws.getD i 0) (by omega) k (by omega)
    have hp : placeV l (ws.getD i 0) = r := (placeV_spec _ _ hr).unique hs
    simp only [barqueref12_Need.l0]
    rw [if_pos (by omega), if_pos (by omega), rdi_nat, hr1]
    simp only [Option.bind_some]
    by_cases hn : r < 0
    · rw [if_pos hn, if_neg]
      intro ha
      have := (allIn_iff l ws).1 ha i hil
      omega
    · rw [if_neg hn, hw]
      refine ih k (i + 1) (by omega) (by omega) (by omega) (fun j hj => ?_)
      rcases Nat.lt_or_ge j i with e | e
      · exact hlow j e
      · obtain rfl : j = i := by omega
        omega

/-- Both find the same. -/
theorem need_both (l : List S50) (ws : List Int) (k : Nat) (h1 : l.length ≤ 60) (h2 : ws.length ≤ 60) (hk : 400 ≤ k) (hg : ∀ y ∈ l, good50 y) (hw : ∀ y ∈ ws, good3 y) :
    ∃ r, keep_Need.f k l ws = some r ∧ barqueref12_Need.f k l ws = some r ∧ r.1.length ≤ 60 := by
  obtain ⟨e, c1, c2, c3, _⟩ := check_both l k (by omega)
  unfold keep_Need.f barqueref12_Need.f
  rw [c1, c2]
  simp only [Option.bind_some]
  by_cases he : e = 0
  · have hgo := (c3 he).1
    have hok : NeedOk l ws := ⟨by omega, by omega, fun g hg' => ⟨(hg g hg').1, (hg g hg').2.1⟩, hw⟩
    rw [if_pos he, if_pos he, if_pos hok, show (0 : Int) = ((0 : Nat) : Int) from rfl, need_l0 l ws hgo (by omega) (by omega) ws.length k 0 (by omega) (by omega) (by omega) (fun j hj => absurd hj (by omega))]
    change ∃ r, (if allIn l ws = true then some (needV l ws, ((0 : Nat) : Int)) else some ([], 8)) = some r ∧ _
    by_cases ha : allIn l ws = true
    · rw [if_pos ha, if_pos ha]
      refine ⟨_, rfl, rfl, ?_⟩
      have := needV_le l ws l.length
      rw [List.take_length] at this
      exact Nat.le_trans this h1
    · rw [if_neg ha, if_neg ha]; exact ⟨_, rfl, rfl, by simp⟩
  · rw [if_neg he, if_neg he]; exact ⟨_, rfl, rfl, by simp⟩

theorem ints_l0 (l : List Int) (h : l.length ≤ 1000000) (d : Nat) : ∀ (k i : Nat), l.length - i = d → i ≤ l.length → d < k → barqueref12_Ints.l0 k l l i = some true := by
  induction d with
  | zero =>
    intro k i hd hi hk
    obtain ⟨k, rfl⟩ : ∃ m, k = m + 1 := ⟨k - 1, by omega⟩
    simp only [barqueref12_Ints.l0]
    rw [if_neg (by omega)]
  | succ d ih =>
    intro k i hd hi hk
    obtain ⟨k, rfl⟩ : ∃ m, k = m + 1 := ⟨k - 1, by omega⟩
    simp only [barqueref12_Ints.l0]
    rw [if_pos (by omega), if_pos (by omega), if_pos (by omega), if_pos trivial, show wrap64 ((i : Int) + 1) = ((i + 1 : Nat) : Int) by unfold wrap64; omega]
    exact ih k (i + 1) (by omega) (by omega) (by omega)
theorem ints_refl (l : List Int) (h : l.length ≤ 1000000) (k : Nat) (hk : l.length < k) : barqueref12_Ints.f k l l = some true := by
  unfold barqueref12_Ints.f
  rw [if_pos rfl]
  exact ints_l0 l h l.length k 0 (by omega) (by omega) hk
end Go.Proofs.Yteamoejgpcognaa.Pure
