import Derived.Test.YteamoejgpcognaaProg
import Derived.Below
import Derived.Deep.Draws
import Derived.Deep.AppendLies
import Derived.Maps.AppendAt
import Derived.OwnWalk
import Derived.Laws.BytesArg
import Derived.Laws.MakeOwn
import Derived.Laws.OwnMore
import Derived.Deep.OwnRows
import Derived.Tactics
import Derived.Lib.ConvBytes
import Derived.Laws.Slices
import Derived.WalkKit
import Derived.KernelRfl
import Derived.RowKit3
import Derived.Deep.LoopGhost
import Derived.Deep.QuietTactic
import Derived.BigQuiet
import Derived.WideLaws
import Derived.Deep.DeepCutAuto
import Derived.Deep.CutBlock
import Derived.Deep.RegionHeld3
import Derived.Laws.Rows
import Derived.Lib.AppendStr
import Derived.ArgAppend
import Derived.Laws.IdiomCopy
import Derived.OrdersHeld
import Derived.Laws.BitsLemmas
import Derived.RowKit
import Derived.Test.YteamoejgpcognaaWWords
import Derived.Test.YteamoejgpcognaaWLast
import Derived.Test.YteamoejgpcognaaWTab
import Derived.Test.YteamoejgpcognaaWFour
import Derived.Test.YteamoejgpcognaaWQPut
import Derived.Test.YteamoejgpcognaaWApart
import Derived.Test.YteamoejgpcognaaWArr
import Derived.Test.YteamoejgpcognaaWZeros
import Derived.Test.YteamoejgpcognaaWFoot
import Derived.Test.YteamoejgpcognaaWKept
import Derived.Test.YteamoejgpcognaaWShare
import Derived.Test.YteamoejgpcognaaWN
import Derived.Test.YteamoejgpcognaaWFootNe
import Derived.Test.YteamoejgpcognaaWAt
import Derived.Test.YteamoejgpcognaaWEqStruct
import Derived.Test.YteamoejgpcognaaWRepsOne
import Derived.Test.YteamoejgpcognaaWInv
import Derived.Test.YteamoejgpcognaaWInvWords
import Derived.Test.YteamoejgpcognaaWGuard
import Derived.Test.YteamoejgpcognaaWNEv
import Derived.Test.YteamoejgpcognaaWMore
import Derived.Test.YteamoejgpcognaaPAllx0
namespace Go.Proofs.Yteamoejgpcognaa.PAll
open Go.RowKit Go.Proofs.YteamoejgpcognaaW.PrintWords Go.Proofs.YteamoejgpcognaaW.PrintLast Go.Proofs.YteamoejgpcognaaW.PrintMore
set_option linter.unusedVariables false
set_option linter.unusedSimpArgs false

def cmp3 (a b : Int) : Int := if a < b then -1 else if b < a then 1 else 0

set_option maxHeartbeats 400000 in
theorem cmp3_calls (a b : Int) (w : World) : Calls Try.prog 58 #[.int .i64 a, .int .i64 b] w fun e w' => e = .returned (.int .i64 (cmp3 a b)) ∧ w = w' := by
  by_cases h1 : a < b
  · go_enter Try.func58, Try.ntmps58
    go_wp2
    go_ret
    exact ⟨by simp [cmp3, h1], rfl⟩
  · by_cases h2 : b < a
    · go_enter Try.func58, Try.ntmps58
      go_wp2
      go_ret
      exact ⟨by simp [cmp3, h1, h2], rfl⟩
    · go_enter Try.func58, Try.ntmps58
      go_wp2
      go_ret
      exact ⟨by unfold cmp3; rw [if_neg (by omega), if_neg (by omega)]; rfl, rfl⟩

set_option maxHeartbeats 400000 in
theorem place1_calls (g0 g1 g2 : Int) (s : ByteArray) (n : Int) (w : World) : Calls Try.prog 57 #[.agg #[.int .i64 g0, .int .i64 g1, .int .i64 g2, .string s], .int .i64 n] w fun e w' => e = .returned (.int .i64 (cmp3 g0 n)) ∧ Below w.heap.size w w' := by
  go_enter Try.func57, Try.ntmps57
  go_wp2_with (go_at_call 58; refine (cmp3_calls _ _ _).mono ?_; rintro e w' ⟨rfl, rfl⟩)
  go_ret
  exact ⟨rfl, (Below.refl _ _).alloc (Nat.le_refl _) _⟩

/-- The search's place: the first one whose generation is not below. -/
def bsF : Nat → List S50 → Int → Nat → Nat → Nat
  | 0, _, _, i, _ => i
  | k + 1, l, g, i, j => if i < j then (if (l.getD ((i + j) / 2) z50).f0 < g then bsF k l g ((i + j) / 2 + 1) j else bsF k l g i ((i + j) / 2)) else i
def bs (l : List S50) (g : Int) (i j : Nat) : Nat := bsF (j - i) l g i j
theorem bsF_stable (l : List S50) (g : Int) : ∀ k i j, j - i ≤ k → bsF k l g i j = bsF (j - i) l g i j
  | 0, i, j, h => by rw [show j - i = 0 by omega]
  | k + 1, i, j, h => by
    by_cases hij : i < j
    · obtain ⟨m, hm⟩ : ∃ m, j - i = m + 1 := ⟨j - i - 1, by omega⟩
      rw [hm]
      simp only [bsF]
      rw [if_pos hij, if_pos hij]
      split
      · rw [bsF_stable l g k _ _ (by omega)]
        by_cases e : k = m
        · subst e; rw [bsF_stable l g k _ _ (by omega)]
        · exact (bsF_stable l g m _ _ (by omega)).symm
      · rw [bsF_stable l g k _ _ (by omega)]
        by_cases e : k = m
        · subst e; rw [bsF_stable l g k _ _ (by omega)]
        · exact (bsF_stable l g m _ _ (by omega)).symm
    · rw [show j - i = 0 by omega]
      simp only [bsF]
      rw [if_neg hij]

theorem mid_wrap (i j : Nat) (h : i ≤ j) (hj : j ≤ 9223372036854775807) : wrap64 (IntKind.u64.wrap (wrap64 (↑i + ↑j)) / 2) = (((i + j) / 2 : Nat) : Int) := by
  have e : IntKind.u64.wrap (wrap64 ((i : Int) + j)) = (i : Int) + j := by
    simp only [IntKind.wrap, wrap64, IntKind.bits, IntKind.signed]
    first | omega | (simp; omega)
  rw [e]
  unfold wrap64
  omega

theorem cmp3_neg {a g : Int} (h : a < g) : decide (cmp3 a g < 0) = true := by simp [cmp3, h]
theorem cmp3_nneg {a g : Int} (h : ¬ a < g) : decide (cmp3 a g < 0) = false := by
  unfold cmp3; rw [if_neg h]; split <;> simp

theorem cells_T50 {w : World} {A : Option Addr} {n : Nat} {xs : List S50} (h : Kd.C k50 w A n xs) {w' : World} (hb : Below w.heap.size w w') (i : Int) (h0 : 0 ≤ i) (h1 : i < n) : ∃ ad , A = some ad ∧ w'.cell? (ad.add (i.toNat * 4)) = some (.int .i64 (rd_T50 xs i).f0) ∧ w'.cell? ⟨(ad.add (i.toNat * 4)).block, (ad.add (i.toNat * 4)).off + 1, none⟩ = some (.int .i64 (rd_T50 xs i).f1) ∧ w'.cell? ⟨(ad.add (i.toNat * 4)).block, (ad.add (i.toNat * 4)).off + 2, none⟩ = some (.int .i64 (rd_T50 xs i).f2) ∧ w'.cell? ⟨(ad.add (i.toNat * 4)).block, (ad.add (i.toNat * 4)).off + 3, none⟩ = some (.string (rd_T50 xs i).f3) := by
  obtain ⟨ad, e, a, b, c, d⟩ := at_T50 h i h0 h1
  exact ⟨ad, e, (hb.cell (World.block_lt_of_cell? w _ a)).trans a, (hb.cell (World.block_lt_of_cell? w _ b)).trans b, (hb.cell (World.block_lt_of_cell? w _ c)).trans c, (hb.cell (World.block_lt_of_cell? w _ d)).trans d⟩

theorem bs_lt {l : List S50} {g : Int} {i j : Nat} (h : i < j) (hx : (l.getD ((i + j) / 2) z50).f0 < g) : bs l g i j = bs l g ((i + j) / 2 + 1) j := by
  unfold bs
  obtain ⟨m, hm⟩ : ∃ m, j - i = m + 1 := ⟨j - i - 1, by omega⟩
  rw [hm]; simp only [bsF]; rw [if_pos h, if_pos hx]
  exact bsF_stable l g m _ _ (by omega)
theorem bs_ge {l : List S50} {g : Int} {i j : Nat} (h : i < j) (hx : ¬ (l.getD ((i + j) / 2) z50).f0 < g) : bs l g i j = bs l g i ((i + j) / 2) := by
  unfold bs
  obtain ⟨m, hm⟩ : ∃ m, j - i = m + 1 := ⟨j - i - 1, by omega⟩
  rw [hm]; simp only [bsF]; rw [if_pos h, if_neg hx]
  exact bsF_stable l g m _ _ (by omega)
theorem bs_nil {l : List S50} {g : Int} {i j : Nat} (h : ¬ i < j) : bs l g i j = i := by
  unfold bs; rw [show j - i = 0 by omega]; rfl

set_option maxHeartbeats 800000 in
theorem bsf_calls (A0 : Option Addr) (c0 : Nat) (l : List S50) (g : Int) (w : World) (hr : Kd.C k50 w A0 l.length l) (hc : l.length ≤ c0) (hm : l.length ≤ 9223372036854775807) :
    Calls Try.prog 56 #[.slice A0 l.length c0, .int .i64 g, .func (.func 57) #[] #[]] w fun e w' => e = .returned (.tuple #[.int .i64 (bs l g 0 l.length : Nat), .bool (decide (bs l g 0 l.length < l.length) && cmp3 (l.getD (bs l g 0 l.length) z50).f0 g == 0)]) ∧ Below w.heap.size w w' := by
  have HR := Aside0.mk hr
  clear hr
  go_enter Try.func56, Try.ntmps56
  go_wp2_with fail
  go_loopw [9, 10] (fun v9 v10 w' => ∃ i j : Nat, v9 = .int .i64 i ∧ v10 = .int .i64 j ∧ i ≤ j ∧ j ≤ l.length ∧ Aside0 (bs l g i j = bs l g 0 l.length) ∧ Aside0 (Below w.heap.size w w')) (fun v9 v10 _ => (intOf v10 - intOf v9).toNat)
  case atStart => exact ⟨0, l.length, rfl, rfl, by omega, by omega, ⟨rfl⟩, ⟨Below.refl _ _⟩⟩
  case round =>
    obtain ⟨i, j, rfl, rfl, hij, hj, HE, HB⟩ := hrel
    by_cases hlt : i < j
    · have hmw := mid_wrap i j hij (by omega)
      have hx0 : 0 ≤ (((i + j) / 2 : Nat) : Int) := by omega
      have hx1 : (((i + j) / 2 : Nat) : Int) < (l.length : Int) := by omega
      have hm1 : i ≤ (i + j) / 2 := by omega
      have hm2 : (i + j) / 2 < j := by omega
      obtain ⟨ad, e, q1, q2, q3, q4⟩ := cells_T50 HR.out HB.out _ hx0 hx1
      have EL : Aside0 (rd_T50 l (((i + j) / 2 : Nat) : Int) = l.getD ((i + j) / 2) z50) := ⟨by unfold rd_T50; rw [Int.toNat_natCast]⟩
      have EM : Aside0 ((i + j) / 2 = (i + j) / 2) := ⟨rfl⟩
      generalize rd_T50 l (((i + j) / 2 : Nat) : Int) = el at q1 q2 q3 q4 EL
      generalize hh : (i + j) / 2 = h at hmw hx0 hx1 hm1 hm2 q1 q2 q3 q4 EL
      have HH := Aside0.mk hh
      clear hh
      subst e
      rw [Int.toNat_natCast] at q1 q2 q3 q4
      by_cases hg : el.f0 < g
      · have hd := cmp3_neg hg
        go_wp2_with (go_at_call 57; refine (place1_calls _ _ _ _ _ _).mono ?_; rintro e w' ⟨rfl, hb⟩)
        go_roundw
        case rel => exact ⟨h + 1, j, by go_num, rfl, by omega, hj, ⟨by rw [← HE.out, bs_lt hlt (by rw [HH.out, ← EL.out]; exact hg), HH.out]⟩, ⟨HB.out.trans (hb.mono HB.out.size)⟩⟩
        case measure => simp [intOf]; omega
      · have hd := cmp3_nneg hg
        go_wp2_with (go_at_call 57; refine (place1_calls _ _ _ _ _ _).mono ?_; rintro e w' ⟨rfl, hb⟩)
        go_roundw
        case rel => exact ⟨i, h, rfl, rfl, by omega, by omega, ⟨by rw [← HE.out, bs_ge hlt (by rw [HH.out, ← EL.out]; omega), HH.out]⟩, ⟨HB.out.trans (hb.mono HB.out.size)⟩⟩
        case measure => simp [intOf]; omega
    · have hi : i = bs l g 0 l.length := by rw [← HE.out, bs_nil hlt]
      have HI := Aside0.mk hi
      clear hi
      by_cases hl : i < l.length
      · have hx0 : 0 ≤ ((i : Nat) : Int) := by omega
        have hx1 : ((i : Nat) : Int) < (l.length : Int) := by omega
        obtain ⟨ad, e, q1, q2, q3, q4⟩ := cells_T50 HR.out HB.out _ hx0 hx1
        have EL : Aside0 (rd_T50 l ((i : Nat) : Int) = l.getD i z50) := ⟨by unfold rd_T50; rw [Int.toNat_natCast]⟩
        have HD : Aside0 (decide (i < l.length) = true) := ⟨by simpa using hl⟩
        generalize rd_T50 l ((i : Nat) : Int) = el at q1 q2 q3 q4 EL
        subst e
        rw [Int.toNat_natCast] at q1 q2 q3 q4
        go_wp2_with (go_at_call 57; refine (place1_calls _ _ _ _ _ _).mono ?_; rintro e w' ⟨rfl, hb⟩)
        go_ret2
        refine ⟨?_, HB.out.trans (hb.mono HB.out.size)⟩
        rw [← HI.out, HD.out, ← EL.out]
        rfl
      · go_wp2_with fail
        go_ret2
        refine ⟨?_, HB.out⟩
        rw [← HI.out, decide_eq_false hl]
        rfl

/-- The place of a generation; -1: it is not there. -/
def placeV (l : List S50) (g : Int) : Int :=
  if bs l g 0 l.length < l.length ∧ (l.getD (bs l g 0 l.length) z50).f0 = g then (bs l g 0 l.length : Nat) else -1
def keep_place.f (l0 : List S50) (a1 : Int) : Option Int := some (placeV l0 a1)

theorem cmp3_eq {a g : Int} : (cmp3 a g == 0) = decide (a = g) := by
  unfold cmp3
  by_cases h : a < g
  · rw [if_pos h]; simp; omega
  · rw [if_neg h]
    by_cases h2 : g < a
    · rw [if_pos h2]; simp; omega
    · rw [if_neg h2]; simp; omega

set_option maxHeartbeats 800000 in
theorem keep_place.calls (A0 : Option Addr) (c0 : Nat) (l0 : List S50) (a1 : Int) (r : Int) (w : World) (hr0 : Kd.C k50 w A0 l0.length l0) (hc0 : l0.length ≤ c0) (h : keep_place.f l0 a1 = some r) :
    Calls Try.prog 48 #[.slice A0 l0.length c0, .int .i64 a1] w fun e w' => e = .returned (.int .i64 r) ∧ Below w.heap.size w w' := by
  have hm : l0.length ≤ 9223372036854775807 := hr0.2.1
  have H := Aside0.mk (Option.some.inj h)
  clear h
  have hb0 := bsf_calls A0 c0 l0 a1 w hr0 hc0 hm
  have HB := Aside0.mk hb0
  clear hb0 hr0
  by_cases hf : bs l0 a1 0 l0.length < l0.length ∧ (l0.getD (bs l0 a1 0 l0.length) z50).f0 = a1
  · have HE : Aside0 ((decide (bs l0 a1 0 l0.length < l0.length) && cmp3 (l0.getD (bs l0 a1 0 l0.length) z50).f0 a1 == 0) = true) := ⟨by rw [cmp3_eq]; simp only [Bool.and_eq_true, decide_eq_true_eq]; exact hf⟩
    have HR : Aside0 (r = (bs l0 a1 0 l0.length : Nat)) := ⟨by rw [← H.out, placeV, if_pos hf]⟩
    rw [HE.out] at HB
    clear hf
    generalize bs l0 a1 0 l0.length = q at HB HR
    go_enter Try.func48, Try.ntmps48
    go_wp2_with (go_at_call 56; refine HB.out.mono ?_; rintro e w' ⟨rfl, hb⟩)
    go_ret
    exact ⟨by rw [HR.out]; rfl, hb⟩
  · have HE : Aside0 ((decide (bs l0 a1 0 l0.length < l0.length) && cmp3 (l0.getD (bs l0 a1 0 l0.length) z50).f0 a1 == 0) = false) := ⟨by rw [cmp3_eq]; simp only [Bool.and_eq_false_iff, decide_eq_false_iff_not]; by_cases h1 : bs l0 a1 0 l0.length < l0.length; exact .inr fun h2 => hf ⟨h1, h2⟩; exact .inl h1⟩
    have HR : Aside0 (r = -1) := ⟨by rw [← H.out, placeV, if_neg hf]⟩
    rw [HE.out] at HB
    clear hf
    generalize bs l0 a1 0 l0.length = q at HB HR
    go_enter Try.func48, Try.ntmps48
    go_wp2_with (go_at_call 56; refine HB.out.mono ?_; rintro e w' ⟨rfl, hb⟩)
    go_ret
    exact ⟨by rw [HR.out]; rfl, hb⟩

end Go.Proofs.Yteamoejgpcognaa.PAll
