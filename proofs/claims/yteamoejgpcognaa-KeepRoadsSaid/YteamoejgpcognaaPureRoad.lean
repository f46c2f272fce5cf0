import Derived.Test.YteamoejgpcognaaPureNeed
import Derived.Test.YteamoejgpcognaaPAllx24
import Derived.Test.YteamoejgpcognaaPAllx25
import Derived.Test.YteamoejgpcognaaPAllx34
import Derived.Test.YteamoejgpcognaaGivRefRoad
namespace Go.Proofs.Yteamoejgpcognaa.Pure
open Go.RowKit Go.Proofs.YteamoejgpcognaaW.PrintWords Go.Proofs.YteamoejgpcognaaW.PrintLast Go.Proofs.YteamoejgpcognaaW.PrintMore Go.Proofs.Yteamoejgpcognaa.PAll
set_option linter.unusedVariables false
set_option linter.unusedSimpArgs false

theorem getD_set (xs : List Int) (a : Nat) (v : Int) (t : Nat) : (xs.set a v).getD t 0 = if t = a ∧ a < xs.length then v else xs.getD t 0 := by
  rw [List.getD_eq_getElem?_getD, List.getElem?_set, List.getD_eq_getElem?_getD]
  by_cases h : a = t
  · subst h
    by_cases h2 : a < xs.length
    · simp [h2]
    · simp [h2]
  · have h3 : ¬ (t = a ∧ a < xs.length) := fun h4 => h h4.1.symm
    simp [h, h3]
theorem ext_getD {xs ys : List Int} (hl : xs.length = ys.length) (h : ∀ t, t < xs.length → xs.getD t 0 = ys.getD t 0) : xs = ys := by
  apply List.ext_getElem hl
  intro t h1 h2
  have := h t h1
  rwa [List.getD_eq_getElem?_getD, List.getD_eq_getElem?_getD, List.getElem?_eq_getElem h1, List.getElem?_eq_getElem h2] at this

theorem rev_l0 (n : Nat) (hn : n ≤ 1000000) (d : Nat) : ∀ (k i j : Nat) (xs : List Int), xs.length = n → j - i ≤ d → d < k → j < n → i ≤ j + 1 →
    ∃ r, slices_Reverse_int_int.l0 k xs i j = some r ∧ r.length = n ∧ ∀ t, t < n → r.getD t 0 = if i ≤ t ∧ t ≤ j then xs.getD (i + j - t) 0 else xs.getD t 0 := by
  induction d using Nat.strongRecOn with
  | _ d ih =>
    intro k i j xs hx hd hk hj hij
    obtain ⟨k, rfl⟩ : ∃ m, k = m + 1 := ⟨k - 1, by omega⟩
    by_cases h : i < j
    · simp only [slices_Reverse_int_int.l0]
      rw [if_pos (by omega), if_pos (by omega), if_pos (by omega), if_pos (by omega), if_pos (by omega), rdi_nat, rdi_nat, Int.toNat_natCast, Int.toNat_natCast,
        show wrap64 ((i : Int) + 1) = ((i + 1 : Nat) : Int) by unfold wrap64; omega, show wrap64 ((j : Int) - 1) = ((j - 1 : Nat) : Int) by unfold wrap64; omega]
      obtain ⟨r, h1, h2, h3⟩ := ih (d - 1) (by omega) k (i + 1) (j - 1) ((xs.set i (xs.getD j 0)).set j (xs.getD i 0)) (by simp [hx]) (by omega) (by omega) (by omega) (by omega)
      refine ⟨r, h1, h2, fun t ht => ?_⟩
      rw [h3 t ht]
      simp only [getD_set, List.length_set, hx]
      by_cases a : i + 1 ≤ t ∧ t ≤ j - 1
      · rw [if_pos a, if_neg (by omega), if_neg (by omega), if_pos (by omega)]
        congr 1; omega
      · rw [if_neg a]
        by_cases b : t = j
        · subst b
          rw [if_pos ⟨rfl, hj⟩, if_pos (by omega)]
          congr 1; omega
        · rw [if_neg (by omega)]
          by_cases c : t = i
          · subst c
            rw [if_pos ⟨rfl, by omega⟩, if_pos (by omega)]
            congr 1; omega
          · rw [if_neg (by omega), if_neg (by omega)]
    · simp only [slices_Reverse_int_int.l0]
      rw [if_neg (by omega)]
      refine ⟨xs, rfl, hx, fun t ht => ?_⟩
      by_cases a : i ≤ t ∧ t ≤ j
      · rw [if_pos a]; congr 1; omega
      · rw [if_neg a]
theorem rev_f (xs : List Int) (h0 : xs ≠ []) (h : xs.length ≤ 1000000) (k : Nat) (hk : xs.length < k) : slices_Reverse_int_int.f k xs = some xs.reverse := by
  have hp : 0 < xs.length := List.length_pos_iff.2 h0
  unfold slices_Reverse_int_int.f
  rw [show wrap64 ((xs.length : Int) - 1) = ((xs.length - 1 : Nat) : Int) by unfold wrap64; omega, show (0 : Int) = ((0 : Nat) : Int) from rfl]
  obtain ⟨r, h1, h2, h3⟩ := rev_l0 xs.length h xs.length k 0 (xs.length - 1) xs rfl (by omega) hk (by omega) (by omega)
  rw [h1]
  congr 1
  refine ext_getD (by rw [h2, List.length_reverse]) (fun t ht => ?_)
  rw [h2] at ht
  rw [h3 t ht, if_pos (by omega), List.getD_eq_getElem?_getD, List.getD_eq_getElem?_getD, List.getElem?_reverse ht]
  congr 2; omega

/-- The road to the n-th one. -/
theorem road_both (l : List S50) (hg : GoodTo l l.length) (hl : l.length ≤ 60) (n : Nat) : n < l.length → ∃ p : List Int, p ≠ [] ∧ p.length ≤ n + 1 ∧ (∀ x ∈ p, ∃ m, m ≤ n ∧ x = (nth l m).f0) ∧
    (∀ (k : Nat) (acc : List Int), acc.length + n + 1 ≤ 60 → n + 70 ≤ k → keep_Road.l0 k l (nth l n).f0 acc = some (p ++ acc.reverse, 0)) ∧
    (∀ (k m : Nat), n < m → m ≤ l.length → n + 300 ≤ k → barqueref12_Road.f k (l.take m) (nth l n).f0 = some (p, 0)) := by
  induction n using Nat.strongRecOn with
  | _ n ih =>
    intro hn
    have hr : Rises l := fun a b => hg.rises a b
    have hat : ∀ m, n < m → m ≤ l.length → AtSpec (l.take m) (nth l n).f0 (n : Nat) := by
      intro m hm hml
      refine .inr ⟨n, rfl, by rw [List.length_take]; omega, by rw [nth_take hm], fun j hj => ?_⟩
      rw [nth_take (by omega)]
      have := hr j n hj hn
      omega
    have hpl : placeV l (nth l n).f0 = (n : Nat) := by
      have h1 := placeV_spec l (nth l n).f0 hr
      have h2 := hat l.length hn (Nat.le_refl _)
      rw [List.take_length] at h2
      exact h1.unique h2
    have hck : ∀ m, m ≤ l.length → GoodTo (l.take m) (l.take m).length := by
      intro m hm j hj
      rw [List.length_take] at hj
      have h := hg j (by omega)
      unfold OkAt
      rw [nth_take (show j < m by omega)]
      refine ⟨h.1, h.2.1, h.2.2.1, fun h0 => ?_, ?_⟩
      · rw [nth_take (by omega)]; exact h.2.2.2.1 h0
      · rcases h.2.2.2.2 with e | ⟨q, hq, e⟩
        · exact .inl e
        · exact .inr ⟨q, hq, by rw [nth_take (by omega)]; exact e⟩
    have hcz : ∀ k m, m ≤ l.length → 250 ≤ k → barqueref12_Check.f k (l.take m) = some 0 := by
      intro k m hm hk
      have hlt : (l.take m).length ≤ 60 := by rw [List.length_take]; omega
      obtain ⟨e, _, h2, _, h4⟩ := check_both (l.take m) k (by omega)
      rw [h2, h4 (hck m hm) (by omega)]
    have hatf : ∀ k m, n < m → m ≤ l.length → 70 ≤ k → barqueref12_At.f k (l.take m) (nth l n).f0 = some (n : Int) := by
      intro k m hm hml hk
      have hlt : (l.take m).length ≤ 60 := by rw [List.length_take]; omega
      obtain ⟨r, h1, h2⟩ := at_f (l.take m) (nth l n).f0 (by omega) k (by omega)
      rw [h1, h2.unique (hat m hm hml)]
    by_cases hself : (nth l n).f1 = (nth l n).f0
    · refine ⟨[(nth l n).f0], by simp, by simp, fun x hx => ⟨n, Nat.le_refl _, by simpa using hx⟩, ?_, ?_⟩
      · intro k acc ha hk
        obtain ⟨k, rfl⟩ : ∃ m, k = m + 1 := ⟨k - 1, by omega⟩
        simp only [keep_Road.l0, keep_place.f, hpl, Option.bind_some]
        rw [if_neg (by omega), if_pos (by omega), if_pos (by omega), if_pos (by omega), rd_nat, if_pos hself, rev_f _ (by simp) (by simp; omega) k (by simp; omega)]
        simp
      · intro k m hm hml hk
        obtain ⟨k, rfl⟩ : ∃ m, k = m + 1 := ⟨k - 1, by omega⟩
        have hlt : (n : Int) < ((l.take m).length : Int) := by rw [List.length_take]; omega
        simp only [barqueref12_Road.f]
        rw [hcz k m hml (by omega), hatf k m hm hml (by omega)]
        simp only [Option.bind_some, if_true]
        rw [if_neg (by omega), if_pos (by omega), if_pos hlt, rd_nat, nth_take hm, if_pos hself]
    · rcases (hg n hn).2.2.2.2 with e | ⟨b, hb, e⟩
      · exact absurd e hself
      · obtain ⟨p, p0, p1, p2, p3, p4⟩ := ih b hb (by omega)
        refine ⟨p ++ [(nth l n).f0], by simp, by simp; omega, ?_, ?_, ?_⟩
        · intro x hx
          rcases List.mem_append.1 hx with h | h
          · obtain ⟨m, hm, hx⟩ := p2 x h; exact ⟨m, by omega, hx⟩
          · exact ⟨n, Nat.le_refl _, by simpa using h⟩
        · intro k acc ha hk
          obtain ⟨k, rfl⟩ : ∃ m, k = m + 1 := ⟨k - 1, by omega⟩
          simp only [keep_Road.l0, keep_place.f, hpl, Option.bind_some]
          rw [if_neg (by omega), if_pos (by omega), if_pos (by omega), if_pos (by omega), rd_nat, if_neg hself, ← e, p3 k (acc ++ [(nth l n).f0]) (by simp; omega) (by omega)]
          simp
        · intro k m hm hml hk
          obtain ⟨k, rfl⟩ : ∃ m, k = m + 1 := ⟨k - 1, by omega⟩
          have hlt : (n : Int) < ((l.take m).length : Int) := by rw [List.length_take]; omega
          simp only [barqueref12_Road.f]
          rw [hcz k m hml (by omega), hatf k m hm hml (by omega)]
          simp only [Option.bind_some, if_true]
          rw [if_neg (by omega), if_pos (by omega), if_pos hlt, rd_nat, nth_take hm, if_neg hself, if_pos (by omega), Int.toNat_natCast, List.take_take, show min n m = n by omega, ← e, p4 k n hb (by omega) (by omega)]
          simp only [Option.bind_some]
          rw [if_pos (by omega)]

/-- What is read for a generation. -/
def bytesOf (l : List S50) (x : Int) : Int := (nth l (placeV l x).toNat).f2
def sumTo (l : List S50) (p : List Int) (i : Nat) : Int := ((p.take i).map (bytesOf l)).sum
/-- All of p are there. -/
def Among (l : List S50) (p : List Int) : Prop := GoodTo l l.length ∧ ∀ x ∈ p, ∃ m, m < l.length ∧ x = (nth l m).f0
theorem Among.place {l : List S50} {p : List Int} (h : Among l p) {x : Int} (hx : x ∈ p) : AtSpec l x (placeV l x) ∧ 0 ≤ placeV l x ∧ placeV l x < l.length ∧ 0 ≤ bytesOf l x ∧ bytesOf l x ≤ 524288 := by
  obtain ⟨m, hm, rfl⟩ := h.2 x hx
  have hr : Rises l := fun a b => h.1.rises a b
  have hs := placeV_spec l (nth l m).f0 hr
  refine ⟨hs, ?_⟩
  rcases hs with ⟨_, hn⟩ | ⟨n, e, hn, _, _⟩
  · exact absurd rfl (hn m hm)
  · unfold bytesOf
    rw [e]
    have := h.1 n hn
    simp only [Int.toNat_natCast]
    exact ⟨by omega, by omega, this.2.1, this.2.2.1⟩
theorem sumTo_succ (l : List S50) (p : List Int) (i : Nat) (h : i < p.length) : sumTo l p (i + 1) = sumTo l p i + bytesOf l (p.getD i 0) := by
  unfold sumTo
  rw [List.take_succ_eq_append_getElem h, List.map_append, List.sum_append, List.getD_eq_getElem?_getD, List.getElem?_eq_getElem h]
  simp
theorem sumTo_le {l : List S50} {p : List Int} (ha : Among l p) : ∀ i, i ≤ p.length → 0 ≤ sumTo l p i ∧ sumTo l p i ≤ i * 524288
  | 0, _ => by simp [sumTo]
  | i + 1, h => by
    have h1 := sumTo_le ha i (by omega)
    have hm : p.getD i 0 ∈ p := by rw [List.getD_eq_getElem?_getD, List.getElem?_eq_getElem (by omega)]; exact List.getElem_mem (by omega)
    have h2 := (ha.place hm).2.2.2
    rw [sumTo_succ l p i (by omega)]
    omega
theorem cost_l0 (l : List S50) (p : List Int) (ha : Among l p) (hl : l.length ≤ 60) (hp : p.length ≤ 60) (d : Nat) : ∀ (k i : Nat), p.length - i = d → i ≤ p.length → d < k → keep_Cost.l0 k l (sumTo l p i) p (p.length : Int) i = some (sumTo l p p.length, 0) := by
  induction d with
  | zero =>
    intro k i hd hi hk
    obtain ⟨k, rfl⟩ : ∃ m, k = m + 1 := ⟨k - 1, by omega⟩
    simp only [keep_Cost.l0]
    rw [if_neg (by omega), show i = p.length by omega]
  | succ d ih =>
    intro k i hd hi hk
    obtain ⟨k, rfl⟩ : ∃ m, k = m + 1 := ⟨k - 1, by omega⟩
    have hm : p.getD i 0 ∈ p := by rw [List.getD_eq_getElem?_getD, List.getElem?_eq_getElem (by omega)]; exact List.getElem_mem (by omega)
    obtain ⟨_, h0, h1, h2, h3⟩ := ha.place hm
    have hs := sumTo_le ha i (by omega)
    have hb : (rd_T50 l (placeV l (p.getD i 0))).f2 = bytesOf l (p.getD i 0) := rfl
    simp only [keep_Cost.l0, keep_place.f, rdi_nat, Option.bind_some]
    rw [if_pos (by omega), if_pos (by omega), if_pos (by omega), if_pos h0, if_pos h1, hb, show wrap64 ((i : Int) + 1) = ((i + 1 : Nat) : Int) by unfold wrap64; omega, show wrap64 (sumTo l p i + bytesOf l (p.getD i 0)) = sumTo l p (i + 1) by rw [sumTo_succ l p i (by omega)]; unfold wrap64; omega]
    exact ih k (i + 1) (by omega) (by omega) (by omega)

/-- The roads, and what they cost. -/
theorem roads (l : List S50) (g : Int) (hl : l.length ≤ 60) (k : Nat) (hk : 500 ≤ k) : ∃ (p : List Int) (e s : Int), keep_Road.f k l g = some (p, e) ∧ barqueref12_Road.f k l g = some (p, e) ∧ keep_Cost.f k l g = some (s, e) ∧ s = sumTo l p p.length ∧ p.length ≤ 60 ∧ (p ≠ [] → Among l p) ∧ (e = 0 → p ≠ []) := by
  obtain ⟨k, rfl⟩ : ∃ m, k = m + 1 := ⟨k - 1, by omega⟩
  obtain ⟨e, c1, _, c3, _⟩ := check_both l (k + 1) (by omega)
  obtain ⟨e', _, c2', c3', c4'⟩ := check_both l k (by omega)
  by_cases he : e = 0
  · obtain ⟨hg, _⟩ := c3 he
    have he' : e' = 0 := c4' hg (by omega)
    subst he he'
    have hr : Rises l := fun a b => hg.rises a b
    have hs := placeV_spec l g hr
    obtain ⟨r, ha1, ha2⟩ := at_f l g (by omega) k (by omega)
    obtain rfl := ha2.unique hs
    rcases hs with ⟨hn, hno⟩ | ⟨n, hn, hnl, hgn, _⟩
    · refine ⟨[], 8, 0, ?_, ?_, ?_, by simp [sumTo], by simp, fun h => absurd rfl h, fun h => absurd h (by decide)⟩
      · unfold keep_Road.f
        rw [c1]
        simp only [Option.bind_some, if_true, keep_Road.l0, keep_place.f, hn]
        rw [if_pos (by decide)]
      · simp only [barqueref12_Road.f]
        rw [c2', ha1]
        simp only [Option.bind_some, if_true, hn]
        rw [if_pos (by decide)]
      · unfold keep_Cost.f keep_Road.f
        rw [c1]
        simp only [Option.bind_some, if_true, keep_Road.l0, keep_place.f, hn]
        rw [if_pos (by decide)]
        rfl
    · obtain ⟨p, p0, p1, p2, p3, p4⟩ := road_both l hg hl n hnl
      have ha : Among l p := ⟨hg, fun x hx => by obtain ⟨m, hm, e⟩ := p2 x hx; exact ⟨m, by omega, e⟩⟩
      have hroad : keep_Road.f (k + 1) l g = some (p, 0) := by
        unfold keep_Road.f
        rw [c1]
        simp only [Option.bind_some, if_true]
        rw [← hgn, p3 (k + 1) [] (by simp; omega) (by omega)]
        simp
      refine ⟨p, 0, sumTo l p p.length, hroad, ?_, ?_, rfl, by omega, fun _ => ha, fun _ => p0⟩
      · have := p4 (k + 1) l.length hnl (Nat.le_refl _) (by omega)
        rw [List.take_length, hgn] at this
        exact this
      · unfold keep_Cost.f
        rw [hroad]
        simp only [Option.bind_some, if_true]
        exact cost_l0 l p ha hl (by omega) p.length (k + 1) 0 (by omega) (by omega) (by omega)
  · have he' : e' ≠ 0 := fun h => he (by obtain ⟨hg, _⟩ := c3' h; obtain ⟨_, d1, _, _, d4⟩ := check_both l (k + 1) (by omega); rw [c1] at d1; cases d1; exact d4 hg (by omega))
    have hee : e' = e := by
      have m1 := barqueref12_Check.mono l k
      obtain ⟨e2, d1, d2, _⟩ := check_both l (k + 1) (by omega)
      have := m1 _ c2'
      rw [d2] at this
      rw [c1] at d1
      cases d1; cases this; rfl
    subst hee
    refine ⟨[], e', 0, ?_, ?_, ?_, by simp [sumTo], by simp, fun h => absurd rfl h, fun h => absurd h he'⟩
    · unfold keep_Road.f; rw [c1]; simp only [Option.bind_some]; rw [if_neg he']
    · simp only [barqueref12_Road.f]; rw [c2']; simp only [Option.bind_some]; rw [if_neg he']
    · unfold keep_Cost.f keep_Road.f; rw [c1]; simp only [Option.bind_some, if_neg he']
end Go.Proofs.Yteamoejgpcognaa.Pure
