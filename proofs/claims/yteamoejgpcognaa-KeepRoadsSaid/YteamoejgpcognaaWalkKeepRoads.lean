import Derived.Test.YteamoejgpcognaaRead
import Derived.Test.YteamoejgpcognaaGivFew
import Derived.Test.YteamoejgpcognaaPureRoad
import Derived.Test.YteamoejgpcognaaPureKeepFloors
namespace Go.Proofs.Yteamoejgpcognaa.keepRoads
open Go.RowKit
open Go.Proofs.YteamoejgpcognaaW.PrintWords
open Go.Proofs.YteamoejgpcognaaW.PrintLast
open Go.Proofs.YteamoejgpcognaaW.PrintMore
open Go.Proofs.Yteamoejgpcognaa.PAll
open Go.Proofs.Yteamoejgpcognaa
set_option linter.unusedVariables false
set_option linter.unusedSimpArgs false
set_option maxHeartbeats 2000000 in
set_option maxRecDepth 100000 in
theorem core (a0 : Option Addr) (c0 : Nat) (z0 : List S50) (g : Int) (l : List S50) (W : World) (hc0 : z0.length ≤ c0) (hl : (z0.take 60).length = l.length) (hlc : l.length ≤ c0) (hL : Kd.C k50 W a0 l.length l)
    (k : Nat) (p : List Int) (e s : Int) (h1 : keep_Road.f k l g = some (p, e)) (h2 : barqueref12_Road.f k l g = some (p, e)) (h3 : keep_Cost.f k l g = some (s, e)) (h5 : s = Pure.sumTo l p p.length) (hp : p.length ≤ 60) (ha : p ≠ [] → Pure.Among l p) (hll : l.length ≤ 60) (hk : 500 ≤ k)
    (h4 : barquelaw12_awake.f k = some true) (h6 : barqueref12_Ints.f k p p = some true) :
    Calls Try.prog 7 #[.slice a0 z0.length c0, .int .i64 g] W fun e w' => e = .returned (.bool true) ∧ Below W.heap.size W w' := by
  have HL := Aside0.mk hL
  have H1 := Aside0.mk h1
  have H2 := Aside0.mk h2
  have H3 := Aside0.mk h3
  have H4 := Aside0.mk h4
  have H5 := Aside0.mk h5
  have H6 := Aside0.mk h6
  have HA := Aside0.mk ha
  have HLC := Aside0.mk hlc
  have hfew := few_calls a0 c0 z0 W hc0
  rw [hl] at hfew
  have HF := Aside0.mk hfew
  clear hL h1 h2 h3 h4 h5 h6 ha hl hfew hlc
  have hee : (e == e) = true := beq_self_eq_true e
  have hss : (s == s) = true := beq_self_eq_true s
  go_enter Try.func7, Try.ntmps7
  go_wp2_with (first
      | (go_at_call 20; refine HF.out.mono ?_; rintro e w' ⟨rfl, rfl⟩)
      | (go_at_call 30; refine (keep_Road.calls k _ _ l g p e _ HL.out HLC.out H1.out).mono ?_; rintro e' w1 ⟨v1, rfl, ho1, hb1⟩; obtain ⟨A1, d1, rfl, q1, r1⟩ := Kd.R_reads ho1; have HO1 := Aside0.mk r1; have HQ1 := Aside0.mk q1; have HB1 := Aside0.mk hb1; clear ho1 hb1 r1 q1)
      | (go_at_call 31; refine (barqueref12_Road.calls k _ _ l g p e _ (Kd.C_below HL.out HB1.out) HLC.out H2.out).mono ?_; rintro e' w2 ⟨v2, rfl, ho2, hb2⟩; obtain ⟨A2, d2, rfl, q2, r2⟩ := Kd.R_reads ho2; have HO2 := Aside0.mk r2; have HQ2 := Aside0.mk q2; have HB2 := Aside0.mk (below_step HB1.out hb2); have HOO := Aside0.mk (Kd.C_below HO1.out hb2); clear ho2 hb2 r2 q2)
      | (go_at_call 32; refine (keep_Cost.calls k _ _ l g s e _ (Kd.C_below HL.out HB2.out) HLC.out H3.out).mono ?_; rintro e' w3 ⟨rfl, hb3⟩; have HB3 := Aside0.mk (below_step HB2.out hb3); have HP1 := Aside0.mk (Kd.C_below HOO.out hb3); have HP2 := Aside0.mk (Kd.C_below HO2.out hb3); clear hb3))
  go_loopw [11, 12] (fun v11 v12 wr => ∃ i : Nat, i ≤ p.length ∧ v12 = .int .i64 i ∧ v11 = .int .i64 (Pure.sumTo l p i) ∧ Aside0 (Below w3.heap.size w3 wr)) (fun _ v12 _ => p.length - (intOf v12).toNat)
  case atStart => exact ⟨0, by omega, rfl, rfl, ⟨Below.refl _ _⟩⟩
  case round =>
    obtain ⟨i, hi, rfl, rfl, HB⟩ := hrel
    by_cases hlt : i < p.length
    · have hmem : p.getD i 0 ∈ p := by rw [List.getD_eq_getElem?_getD, List.getElem?_eq_getElem hlt]; exact List.getElem_mem hlt
      have hne : p ≠ [] := by rintro rfl; simp at hlt
      obtain ⟨hs, b0, b1, b2, b3⟩ := (HA.out hne).place hmem
      have hsum := Pure.sumTo_le (HA.out hne) i hi
      have hsucc := Aside0.mk (Pure.sumTo_succ l p i hlt)
      obtain ⟨r, hr1, hr2⟩ := Pure.at_f l (p.getD i 0) (by omega) k (by omega)
      have hre := hr2.unique hs
      subst hre
      have HAt := Aside0.mk hr1
      obtain ⟨ad, e1, c1⟩ := Kd.at_int HP2.out (i : Nat) (by omega) (by omega)
      replace c1 := (HB.out.cell (World.block_lt_of_cell? w3 _ c1)).trans c1
      have EL : rd p ((i : Nat) : Int) = p.getD i 0 := by unfold rd; rw [Int.toNat_natCast]
      rw [EL, Int.toNat_natCast] at c1
      subst e1
      obtain ⟨ad2, e2, q1, q2, q3, q4⟩ := cells_T50 HL.out (below_step HB3.out HB.out) _ b0 b1
      have EB : (rd_T50 l (placeV l (p.getD i 0))).f2 = Pure.bytesOf l (p.getD i 0) := rfl
      rw [EB] at q3
      generalize Pure.bytesOf l (p.getD i 0) = b at b2 b3 q3 hsucc
      generalize rd_T50 l (placeV l (p.getD i 0)) = el at q1 q2 q4
      generalize placeV l (p.getD i 0) = x at b0 b1 q1 q2 q3 q4 HAt
      generalize p.getD i 0 = y at c1 HAt
      generalize Pure.sumTo l p i = m at hsum hsucc
      subst e2
      clear EB EL hmem hs hr2 hr1
      replace b0 := eq_true b0
      replace b1 := eq_true b1
      go_wp2_with (first
        | (go_at_call 33; refine (barqueref12_At.calls k _ _ l y x _ (Kd.C_below HL.out (below_step HB3.out HB.out)) HLC.out HAt.out).mono ?_; rintro e' w4 ⟨rfl, ⟨nd, rfl⟩⟩))
      go_roundw
      case rel => exact ⟨i + 1, by omega, by go_num, by rw [hsucc.out], ⟨pw_below_drewN HB.out nd⟩⟩
      case measure => simp [intOf]; omega
    · obtain rfl : i = p.length := by omega
      rw [← H5.out]
      go_wp2_with (first
        | (go_at_call 23; refine (barqueref12_Ints.calls k _ _ p _ _ p true _ (Kd.C_below HP1.out HB.out) HQ1.out (Kd.C_below HP2.out HB.out) HQ2.out H6.out).mono ?_; rintro e' w5 ⟨rfl, hd5⟩; have HB5 := Aside0.mk hd5.below; clear hd5)
        | (go_at_call 24; refine (barquelaw12_awake.calls k true _ H4.out).mono ?_; rintro e' w6 ⟨rfl, hb6⟩; have HB6 := Aside0.mk hb6; clear hb6))
      go_ret
      exact ⟨rfl, below_step (below_step (below_step HB3.out HB.out) HB5.out) HB6.out⟩
theorem walked (a0 : Option Addr) (c0 : Nat) (z0 : List S50) (a1 : Int) (W : World) (hc0 : z0.length ≤ c0) (hC0 : Kd.C k50 W a0 z0.length z0) (hg0 : ∀ y ∈ z0, good50 y) (hs0 : z0.length * 40 ≤ 140737488351232) (w1 : (Lit.int .i64 a1).wf = true) :
    Calls Try.prog 7 #[.slice a0 z0.length c0, .int .i64 a1] W fun e w' => e = .returned (.bool true) ∧ Below W.heap.size W w' := by
  have ht : Kd.C k50 W a0 (z0.take 60).length (z0.take 60) := by
    by_cases hl : 60 ≤ z0.length
    · exact Kd.C_take hC0 hl
    · rw [List.take_of_length_le (by omega)]; exact hC0
  have hl : (z0.take 60).length ≤ 60 := by rw [List.length_take]; omega
  obtain ⟨p, e, s, h1, h2, h3, h4, h5, h6, _⟩ := Pure.roads (z0.take 60) a1 hl 500 (Nat.le_refl _)
  exact core a0 c0 z0 a1 (z0.take 60) W hc0 rfl (by rw [List.length_take]; omega) ht 500 p e s h1 h2 h3 h4 h5 h6 hl (Nat.le_refl _) (Pure.awake12_more 460) (Pure.ints_refl p (by omega) 500 (by omega))
end Go.Proofs.Yteamoejgpcognaa.keepRoads
