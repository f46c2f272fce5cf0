import Derived.Test.YteamoejgpcognaaPAllx15
import Derived.Test.YteamoejgpcognaaPAllx18
import Derived.Test.YteamoejgpcognaaGivPlace
namespace Go.Proofs.Yteamoejgpcognaa.Pure
open Go.RowKit Go.Proofs.YteamoejgpcognaaW.PrintWords Go.Proofs.YteamoejgpcognaaW.PrintLast Go.Proofs.YteamoejgpcognaaW.PrintMore Go.Proofs.Yteamoejgpcognaa.PAll
set_option linter.unusedVariables false
set_option linter.unusedSimpArgs false

/-- The j-th generation. -/
abbrev nth (l : List S50) (j : Nat) : S50 := l.getD j z50
theorem rd_nat (l : List S50) (j : Nat) : rd_T50 l (j : Int) = nth l j := by unfold rd_T50; rw [Int.toNat_natCast]

/-- Where a generation lies: the first place, or -1. -/
def AtSpec (l : List S50) (g : Int) (r : Int) : Prop :=
  (r = -1 ∧ ∀ j, j < l.length → (nth l j).f0 ≠ g) ∨ ∃ n : Nat, r = n ∧ n < l.length ∧ (nth l n).f0 = g ∧ ∀ j, j < n → (nth l j).f0 ≠ g
theorem AtSpec.unique {l : List S50} {g r s : Int} (h : AtSpec l g r) (h' : AtSpec l g s) : r = s := by
  rcases h with ⟨rfl, h⟩ | ⟨n, rfl, hn, he, hl⟩ <;> rcases h' with ⟨rfl, h'⟩ | ⟨m, rfl, hm, he', hl'⟩
  · rfl
  · exact absurd he' (h m hm)
  · exact absurd he (h' n hn)
  · rcases Nat.lt_trichotomy n m with h | h | h
    · exact absurd he (hl' n h)
    · rw [h]
    · exact absurd he' (hl m h)
theorem AtSpec.neg {l : List S50} {g r : Int} (h : AtSpec l g r) : r < 0 ↔ ∀ j, j < l.length → (nth l j).f0 ≠ g := by
  rcases h with ⟨rfl, h⟩ | ⟨n, rfl, hn, he, hl⟩
  · exact ⟨fun _ => h, fun _ => by omega⟩
  · exact ⟨fun h => absurd h (by omega), fun h => absurd he (h n hn)⟩

theorem at_l0 (l : List S50) (g : Int) (hlen : l.length ≤ 1000000) (d : Nat) : ∀ (k i : Nat), l.length - i = d → i ≤ l.length → d < k → (∀ j, j < i → (nth l j).f0 ≠ g) → ∃ r, barqueref12_At.l0 k l g i = some r ∧ AtSpec l g r := by
  induction d with
  | zero =>
    intro k i hd hi hk hlow
    obtain ⟨k, rfl⟩ : ∃ m, k = m + 1 := ⟨k - 1, by omega⟩
    refine ⟨-1, ?_, .inl ⟨rfl, fun j hj => hlow j (by omega)⟩⟩
    simp only [barqueref12_At.l0]
    rw [if_neg (by omega)]
  | succ d ih =>
    intro k i hd hi hk hlow
    obtain ⟨k, rfl⟩ : ∃ m, k = m + 1 := ⟨k - 1, by omega⟩
    simp only [barqueref12_At.l0]
    rw [if_pos (by omega), if_pos (by omega), rd_nat]
    by_cases he : (nth l i).f0 = g
    · rw [if_pos he]
      exact ⟨_, rfl, .inr ⟨i, rfl, by omega, he, hlow⟩⟩
    · rw [if_neg he, show wrap64 ((i : Int) + 1) = ((i + 1 : Nat) : Int) by unfold wrap64; omega]
      refine ih k (i + 1) (by omega) (by omega) (by omega) (fun j hj => ?_)
      by_cases e : j = i
      · subst e; exact he
      · exact hlow j (by omega)
theorem at_f (l : List S50) (g : Int) (hlen : l.length ≤ 1000000) (k : Nat) (hk : l.length < k) : ∃ r, barqueref12_At.f k l g = some r ∧ AtSpec l g r :=
  at_l0 l g hlen l.length k 0 (by omega) (by omega) hk (fun j hj => absurd hj (by omega))

/-- They rise. -/
def Rises (l : List S50) : Prop := ∀ i j, i < j → j < l.length → (nth l i).f0 < (nth l j).f0
theorem bsF_spec (l : List S50) (g : Int) (hr : Rises l) : ∀ (k i j : Nat), j - i ≤ k → i ≤ j → j ≤ l.length → (∀ m, m < i → (nth l m).f0 < g) → (∀ m, j ≤ m → m < l.length → g ≤ (nth l m).f0) →
    bsF k l g i j ≤ l.length ∧ (∀ m, m < bsF k l g i j → (nth l m).f0 < g) ∧ (∀ m, bsF k l g i j ≤ m → m < l.length → g ≤ (nth l m).f0) := by
  intro k
  induction k with
  | zero =>
    intro i j hk hij hj hlo hhi
    obtain rfl : i = j := by omega
    exact ⟨hj, hlo, hhi⟩
  | succ k ih =>
    intro i j hk hij hj hlo hhi
    simp only [bsF]
    by_cases h : i < j
    · rw [if_pos h]
      by_cases hx : (l.getD ((i + j) / 2) z50).f0 < g
      · rw [if_pos hx]
        refine ih _ _ (by omega) (by omega) hj (fun m hm => ?_) hhi
        by_cases e : m = (i + j) / 2
        · subst e; exact hx
        · have := hr m ((i + j) / 2) (by omega) (by omega)
          exact Int.lt_trans this hx
      · rw [if_neg hx]
        refine ih _ _ (by omega) (by omega) (by omega) hlo (fun m hm hml => ?_)
        by_cases e : m = (i + j) / 2
        · subst e; exact Int.not_lt.1 hx
        · have := hr ((i + j) / 2) m (by omega) hml
          exact Int.le_trans (Int.not_lt.1 hx) (Int.le_of_lt this)
    · rw [if_neg h]
      obtain rfl : i = j := by omega
      exact ⟨hj, hlo, hhi⟩
theorem placeV_spec (l : List S50) (g : Int) (hr : Rises l) : AtSpec l g (placeV l g) := by
  obtain ⟨h1, h2, h3⟩ := bsF_spec l g hr (l.length - 0) 0 l.length (Nat.le_refl _) (Nat.zero_le _) (Nat.le_refl _) (fun m hm => absurd hm (by omega)) (fun m hm hml => absurd hml (by omega))
  change bs l g 0 l.length ≤ _ at h1
  change ∀ m, m < bs l g 0 l.length → _ at h2
  change ∀ m, bs l g 0 l.length ≤ m → _ at h3
  unfold placeV
  by_cases h : bs l g 0 l.length < l.length ∧ (l.getD (bs l g 0 l.length) z50).f0 = g
  · rw [if_pos h]
    exact .inr ⟨_, rfl, h.1, h.2, fun j hj => by have := h2 j hj; omega⟩
  · rw [if_neg h]
    refine .inl ⟨rfl, fun j hj e => ?_⟩
    by_cases hlt : j < bs l g 0 l.length
    · have := h2 j hlt; omega
    · by_cases e2 : j = bs l g 0 l.length
      · subst e2; exact h ⟨hj, e⟩
      · have a := h3 (bs l g 0 l.length) (Nat.le_refl _) (by omega)
        have b := hr (bs l g 0 l.length) j (by omega) hj
        omega

/-- The j-th one may be. -/
def OkAt (l : List S50) (j : Nat) : Prop :=
  0 ≤ (nth l j).f0 ∧ 0 ≤ (nth l j).f2 ∧ (nth l j).f2 ≤ 524288 ∧ (0 < j → (nth l (j - 1)).f0 < (nth l j).f0) ∧ ((nth l j).f1 = (nth l j).f0 ∨ ∃ m, m < j ∧ (nth l m).f0 = (nth l j).f1)
def GoodTo (l : List S50) (i : Nat) : Prop := ∀ j, j < i → OkAt l j
theorem GoodTo.rises {l : List S50} {n : Nat} (h : GoodTo l n) : ∀ i j, i < j → j < n → (nth l i).f0 < (nth l j).f0 := by
  intro i j hij hj
  induction j with
  | zero => omega
  | succ j ih =>
    have := (h (j + 1) hj).2.2.2.1 (by omega)
    simp only [Nat.add_sub_cancel] at this
    by_cases e : i = j
    · subst e; exact this
    · exact Int.lt_trans (ih (by omega) (by omega)) this
theorem nth_take {l : List S50} {i j : Nat} (h : j < i) : nth (l.take i) j = nth l j := by
  unfold nth
  rw [List.getD_eq_getElem?_getD, List.getD_eq_getElem?_getD, List.getElem?_take_of_lt h]
theorem GoodTo.rises_take {l : List S50} {n i : Nat} (h : GoodTo l n) (hi : i ≤ n) (hl : i ≤ l.length) : Rises (l.take i) := by
  intro a b hab hb
  rw [List.length_take] at hb
  rw [nth_take (by omega), nth_take (by omega)]
  exact h.rises a b hab (by omega)

theorem check_l0 (l : List S50) (hlen : l.length ≤ 4096) (d : Nat) : ∀ (k i : Nat), l.length - i = d → i ≤ l.length → 3 * d + l.length + 1 < k → GoodTo l i →
    ∃ e, keep_Check.l0 k l l (l.length : Int) i = some e ∧ barqueref12_Check.l0 k l i = some e ∧ (e = 0 ↔ GoodTo l l.length) := by
  induction d with
  | zero =>
    intro k i hd hi hk hg
    obtain ⟨k, rfl⟩ : ∃ m, k = m + 1 := ⟨k - 1, by omega⟩
    refine ⟨0, ?_, ?_, ⟨fun _ => by rw [show l.length = i by omega]; exact hg, fun _ => rfl⟩⟩
    · simp only [keep_Check.l0]; rw [if_neg (by omega)]
    · simp only [barqueref12_Check.l0]; rw [if_neg (by omega)]
  | succ d ih =>
    intro k i hd hi hk hg
    obtain ⟨k, rfl⟩ : ∃ m, k = m + 3 := ⟨k - 3, by omega⟩
    have hil : i < l.length := by omega
    have hw : wrap64 ((i : Int) + 1) = ((i + 1 : Nat) : Int) := by unfold wrap64; omega
    -- behind the first tests
    have j2 : ∀ (hok : 0 ≤ (nth l i).f0 ∧ 0 ≤ (nth l i).f2 ∧ (nth l i).f2 ≤ 524288 ∧ (0 < i → (nth l (i - 1)).f0 < (nth l i).f0)),
        ∃ e, keep_Check.j2 (k + 1) l i l (l.length : Int) i false (nth l i).f0 (nth l i).f1 (nth l i).f2 (nth l i).f3 = some e ∧ barqueref12_Check.j2 (k + 1) l i false = some e ∧ (e = 0 ↔ GoodTo l l.length) := by
      intro hok
      have next : ((nth l i).f1 = (nth l i).f0 ∨ ∃ m, m < i ∧ (nth l m).f0 = (nth l i).f1) → ∃ e, keep_Check.l0 k l l (l.length : Int) (wrap64 ((i : Int) + 1)) = some e ∧ barqueref12_Check.l0 k l (wrap64 ((i : Int) + 1)) = some e ∧ (e = 0 ↔ GoodTo l l.length) := by
        rw [hw]
        have b1 : l.length - (i + 1) = d := by omega
        have b2 : i + 1 ≤ l.length := by omega
        have b3 : 3 * d + l.length + 1 < k := by omega
        intro hb
        refine ih k (i + 1) b1 b2 b3 (fun j hj => ?_)
        rcases Nat.lt_or_ge j i with e | e
        · exact hg j e
        · have e2 : j = i := Nat.le_antisymm (Nat.le_of_lt_succ hj) e
          subst e2; exact ⟨hok.1, hok.2.1, hok.2.2.1, hok.2.2.2, hb⟩
      simp only [keep_Check.j2, barqueref12_Check.j2]
      rw [if_neg (show ¬ (false = true) by decide), if_neg (show ¬ (false = true) by decide), if_pos (show (0 : Int) ≤ i by omega), if_pos (show (i : Int) < (l.length : Int) by omega), if_pos (show (0 : Int) ≤ i by omega), if_pos (show (i : Int) ≤ (l.length : Int) by omega), if_pos (show (i : Int) ≤ (l.length : Int) by omega), rd_nat, Int.toNat_natCast]
      by_cases hself : (nth l i).f1 = (nth l i).f0
      · rw [if_pos hself, if_pos hself]
        exact next (.inl hself)
      · rw [if_neg hself, if_neg hself]
        obtain ⟨r, hr, hs⟩ := at_f (l.take i) (nth l i).f1 (by rw [List.length_take]; omega) k (by rw [List.length_take]; omega)
        have hp : placeV (l.take i) (nth l i).f1 = r := (placeV_spec _ _ (hg.rises_take (Nat.le_refl _) hi)).unique hs
        rw [hr]
        simp only [keep_place.f, hp, Option.bind_some]
        by_cases hn : r < 0
        · rw [if_pos hn, if_pos hn]
          refine ⟨_, rfl, rfl, ⟨fun h => absurd h (by decide), fun h => ?_⟩⟩
          exfalso
          rcases (h i hil).2.2.2.2 with h' | ⟨m, hm, h'⟩
          · exact hself h'
          · exact (hs.neg.1 hn) m (by rw [List.length_take]; omega) (by rw [nth_take hm]; exact h')
        · rw [if_neg hn, if_neg hn]
          refine next (.inr ?_)
          rcases hs with ⟨rfl, _⟩ | ⟨n, rfl, hn2, he, _⟩
          · omega
          · rw [List.length_take] at hn2
            exact ⟨n, by omega, by rw [nth_take (by omega)] at he; exact he⟩
    have j1 : ∀ (hok : 0 ≤ (nth l i).f0 ∧ 0 ≤ (nth l i).f2 ∧ (nth l i).f2 ≤ 524288),
        ∃ e, keep_Check.j1 (k + 2) l i l (l.length : Int) i false (nth l i).f0 (nth l i).f1 (nth l i).f2 (nth l i).f3 = some e ∧ barqueref12_Check.j1 (k + 2) l i false = some e ∧ (e = 0 ↔ GoodTo l l.length) := by
      intro hok
      simp only [keep_Check.j1, barqueref12_Check.j1]
      rw [if_neg (show ¬ (false = true) by decide), if_neg (show ¬ (false = true) by decide)]
      by_cases h0 : (i : Int) > 0
      · have hw1 : wrap64 ((i : Int) - 1) = ((i - 1 : Nat) : Int) := by unfold wrap64; omega
        rw [if_pos h0, if_pos h0, hw1, if_pos (show (0 : Int) ≤ i by omega), if_pos (show (i : Int) < (l.length : Int) by omega), if_pos (show (0 : Int) ≤ ((i - 1 : Nat) : Int) by omega), if_pos (show ((i - 1 : Nat) : Int) < (l.length : Int) by omega), rd_nat, rd_nat, if_pos (show (0 : Int) ≤ ((i - 1 : Nat) : Int) by omega), if_pos (show ((i - 1 : Nat) : Int) < (l.length : Int) by omega)]
        by_cases hle : (nth l i).f0 ≤ (nth l (i - 1)).f0
        · rw [decide_eq_true hle]
          exact ⟨12, by simp only [keep_Check.j2]; rw [if_pos trivial], by simp only [barqueref12_Check.j2]; rw [if_pos trivial], ⟨fun h => absurd h (by decide), fun h => by have := (h i hil).2.2.2.1 (by omega); omega⟩⟩
        · rw [decide_eq_false hle]
          exact j2 ⟨hok.1, hok.2.1, hok.2.2, fun _ => by omega⟩
      · rw [if_neg h0, if_neg h0]
        exact j2 ⟨hok.1, hok.2.1, hok.2.2, fun h => absurd h (by omega)⟩
    have bad : ¬ (0 ≤ (nth l i).f0 ∧ 0 ≤ (nth l i).f2 ∧ (nth l i).f2 ≤ 524288) → ∃ e, keep_Check.j1 (k + 2) l i l (l.length : Int) i true (nth l i).f0 (nth l i).f1 (nth l i).f2 (nth l i).f3 = some e ∧ barqueref12_Check.j1 (k + 2) l i true = some e ∧ (e = 0 ↔ GoodTo l l.length) :=
      fun hbad => ⟨2, by simp only [keep_Check.j1]; rw [if_pos trivial], by simp only [barqueref12_Check.j1]; rw [if_pos trivial], ⟨fun h => absurd h (by decide), fun h => absurd ⟨(h i hil).1, (h i hil).2.1, (h i hil).2.2.1⟩ hbad⟩⟩
    simp only [keep_Check.l0, barqueref12_Check.l0]
    rw [if_pos (show (i : Int) < (l.length : Int) by omega), if_pos (show (0 : Int) ≤ i by omega), if_pos (show (i : Int) < (l.length : Int) by omega), if_pos (show (i : Int) < (l.length : Int) by omega), if_pos (show (0 : Int) ≤ i by omega), rd_nat]
    by_cases h1 : (nth l i).f0 < 0
    · rw [if_pos h1, if_pos h1]; exact bad (fun h => by omega)
    · rw [if_neg h1, if_neg h1]
      by_cases h2 : (nth l i).f2 < 0
      · rw [if_pos h2, if_pos h2]; exact bad (fun h => by omega)
      · rw [if_neg h2, if_neg h2]
        by_cases h3 : (nth l i).f2 > 524288
        · rw [decide_eq_true h3]; exact bad (fun h => by omega)
        · rw [decide_eq_false h3]
          exact j1 ⟨by omega, by omega, by omega⟩

/-- Both look alike at the generations. -/
theorem check_both (l : List S50) (k : Nat) (hk : 4 * l.length + 1 < k) : ∃ e, keep_Check.f k l = some e ∧ barqueref12_Check.f k l = some e ∧ (e = 0 → GoodTo l l.length ∧ l.length ≤ 4096) ∧ (GoodTo l l.length → l.length ≤ 4096 → e = 0) := by
  unfold keep_Check.f barqueref12_Check.f
  by_cases h : (l.length : Int) > 4096
  · rw [if_pos h, if_pos h]; exact ⟨_, rfl, rfl, fun h => absurd h (by decide), fun _ h' => by omega⟩
  · rw [if_neg h, if_neg h]
    obtain ⟨e, h1, h2, h3⟩ := check_l0 l (by omega) l.length k 0 (by omega) (by omega) (by omega) (fun j hj => absurd hj (by omega))
    exact ⟨e, h1, h2, fun he => ⟨h3.1 he, by omega⟩, fun hg _ => h3.2 hg⟩
end Go.Proofs.Yteamoejgpcognaa.Pure
