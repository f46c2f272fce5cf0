import Derived.Test.YteamoejgpcognaaRead
import Derived.Test.YteamoejgpcognaaGivFew
import Derived.Test.YteamoejgpcognaaPureNeed
import Derived.Test.YteamoejgpcognaaPureKeepFloors
namespace Go.Proofs.Yteamoejgpcognaa.keepNeeds
open Go.RowKit
open Go.Proofs.YteamoejgpcognaaW.PrintWords
open Go.Proofs.YteamoejgpcognaaW.PrintLast
open Go.Proofs.YteamoejgpcognaaW.PrintMore
open Go.Proofs.Yteamoejgpcognaa.PAll
open Go.Proofs.Yteamoejgpcognaa
set_option linter.unusedVariables false
set_option linter.unusedSimpArgs false
set_option maxHeartbeats 1000000 in
set_option maxRecDepth 100000 in
theorem core (a0 : Option Addr) (c0 : Nat) (z0 : List S50) (a1 : Option Addr) (c1 n1 : Nat) (l : List S50) (ws : List Int) (W : World) (hc0 : z0.length ≤ c0) (hl : (z0.take 60).length = l.length) (hlc : l.length ≤ c0) (hL : Kd.C k50 W a0 l.length l) (hw : ws.length = min n1 60) (hn1 : n1 ≤ 9223372036854775807) (hwc : ws.length ≤ c1) (hn1c : n1 ≤ c1) (hWs : Kd.C (Kd.int .i64) W a1 ws.length ws)
    (k : Nat) (xs : List Int) (e : Int) (h1 : keep_Need.f k l ws = some (xs, e)) (h2 : barqueref12_Need.f k l ws = some (xs, e)) (h3 : barqueref12_Ints.f k xs xs = some true) (h4 : barquelaw12_awake.f k = some true) :
    Calls Try.prog 4 #[.slice a0 z0.length c0, .slice a1 n1 c1] W fun e w' => e = .returned (.bool true) ∧ Below W.heap.size W w' := by
  have HL := Aside0.mk hL
  have HWs := Aside0.mk hWs
  have H1 := Aside0.mk h1
  have H2 := Aside0.mk h2
  have H3 := Aside0.mk h3
  have H4 := Aside0.mk h4
  have HLL := Aside0.mk hl
  have HW := Aside0.mk hw
  have HLC := Aside0.mk hlc
  have HWC := Aside0.mk hwc
  have hfew := few_calls a0 c0 z0 W hc0
  rw [hl] at hfew
  have HF := Aside0.mk hfew
  clear hL hWs h1 h2 h3 h4 hl hw hfew hlc hwc
  obtain ⟨i0, hi0, _, _, _⟩ := info_parts info3
  have hee : (e == e) = true := beq_self_eq_true e
  by_cases h : 60 < n1
  · have hd : decide (60 < n1) = true := decide_eq_true h
    have hcut := cut_to (P := Try.prog) 34 3 .i64 Try.underlying34 hi0 a1 n1 c1 60 (by omega) (by omega) hn1c
    have hws : (60 : Int).toNat = ws.length := by have := HW.out; omega
    rw [hws] at hcut
    clear hws
    go_enter Try.func4, Try.ntmps4
    go_wp2_with (first
      | (go_at_call 20; refine HF.out.mono ?_; rintro e w' ⟨rfl, rfl⟩)
      | (go_at_call 21; refine (keep_Need.calls k _ _ l _ _ ws xs e _ HL.out HLC.out HWs.out HWC.out H1.out).mono ?_; rintro e' w1 ⟨v1, rfl, ho1, hb1⟩; obtain ⟨A1, d1, rfl, q1, r1⟩ := Kd.R_reads ho1; have HO1 := Aside0.mk r1; have HQ1 := Aside0.mk q1; have HB1 := Aside0.mk hb1; clear ho1 hb1 r1 q1)
      | (go_at_call 22; refine (barqueref12_Need.calls k _ _ l _ _ ws xs e _ (Kd.C_below HL.out HB1.out) HLC.out (Kd.C_below HWs.out HB1.out) HWC.out H2.out).mono ?_; rintro e' w2 ⟨v2, rfl, ho2, hb2⟩; obtain ⟨A2, d2, rfl, q2, r2⟩ := Kd.R_reads ho2; have HO2 := Aside0.mk r2; have HQ2 := Aside0.mk q2; have HB2 := Aside0.mk hb2; clear ho2 hb2 r2 q2)
      | (go_at_call 23; refine (barqueref12_Ints.calls k _ _ xs _ _ xs true _ (Kd.C_below HO1.out HB2.out) HQ1.out HO2.out HQ2.out H3.out).mono ?_; rintro e' w3 ⟨rfl, hd3⟩; have HB3 := Aside0.mk hd3.below; clear hd3)
      | (go_at_call 24; refine (barquelaw12_awake.calls k true _ H4.out).mono ?_; rintro e' w4 ⟨rfl, hb4⟩; have HB4 := Aside0.mk hb4; clear hb4))
    go_ret
    exact ⟨rfl, below_step HB1.out (below_step HB2.out (below_step HB3.out HB4.out))⟩
  · have hd : decide (60 < n1) = false := decide_eq_false h
    have hws : n1 = ws.length := by have := HW.out; omega
    subst hws
    go_enter Try.func4, Try.ntmps4
    go_wp2_with (first
      | (go_at_call 20; refine HF.out.mono ?_; rintro e w' ⟨rfl, rfl⟩)
      | (go_at_call 21; refine (keep_Need.calls k _ _ l _ _ ws xs e _ HL.out HLC.out HWs.out HWC.out H1.out).mono ?_; rintro e' w1 ⟨v1, rfl, ho1, hb1⟩; obtain ⟨A1, d1, rfl, q1, r1⟩ := Kd.R_reads ho1; have HO1 := Aside0.mk r1; have HQ1 := Aside0.mk q1; have HB1 := Aside0.mk hb1; clear ho1 hb1 r1 q1)
      | (go_at_call 22; refine (barqueref12_Need.calls k _ _ l _ _ ws xs e _ (Kd.C_below HL.out HB1.out) HLC.out (Kd.C_below HWs.out HB1.out) HWC.out H2.out).mono ?_; rintro e' w2 ⟨v2, rfl, ho2, hb2⟩; obtain ⟨A2, d2, rfl, q2, r2⟩ := Kd.R_reads ho2; have HO2 := Aside0.mk r2; have HQ2 := Aside0.mk q2; have HB2 := Aside0.mk hb2; clear ho2 hb2 r2 q2)
      | (go_at_call 23; refine (barqueref12_Ints.calls k _ _ xs _ _ xs true _ (Kd.C_below HO1.out HB2.out) HQ1.out HO2.out HQ2.out H3.out).mono ?_; rintro e' w3 ⟨rfl, hd3⟩; have HB3 := Aside0.mk hd3.below; clear hd3)
      | (go_at_call 24; refine (barquelaw12_awake.calls k true _ H4.out).mono ?_; rintro e' w4 ⟨rfl, hb4⟩; have HB4 := Aside0.mk hb4; clear hb4))
    go_ret
    exact ⟨rfl, below_step HB1.out (below_step HB2.out (below_step HB3.out HB4.out))⟩

theorem walked (a0 : Option Addr) (c0 : Nat) (z0 : List S50) (a1 : Option Addr) (c1 : Nat) (z1 : List Int) (W : World) (hc0 : z0.length ≤ c0) (hC0 : Kd.C k50 W a0 z0.length z0) (hg0 : ∀ y ∈ z0, good50 y) (hs0 : z0.length * 40 ≤ 140737488351232) (hc1 : z1.length ≤ c1) (hC1 : Kd.C (Kd.int .i64) W a1 z1.length z1) (hg1 : ∀ y ∈ z1, good3 y) (hs1 : z1.length * 8 ≤ 140737488351232) :
    Calls Try.prog 4 #[.slice a0 z0.length c0, .slice a1 z1.length c1] W fun e w' => e = .returned (.bool true) ∧ Below W.heap.size W w' := by
  have ht : ∀ {α : Type} {d : Kd α} {A : Option Addr} {z : List α}, Kd.C d W A z.length z → Kd.C d W A (z.take 60).length (z.take 60) := by
    intro α d A z h
    by_cases hl : 60 ≤ z.length
    · exact Kd.C_take h hl
    · rw [List.take_of_length_le (by omega)]; exact h
  obtain ⟨⟨xs, e⟩, h1, h2, h3⟩ := Pure.need_both (z0.take 60) (z1.take 60) 400 (by rw [List.length_take]; omega) (by rw [List.length_take]; omega) (Nat.le_refl _) (fun y hy => hg0 y (List.mem_of_mem_take hy)) (fun y hy => hg1 y (List.mem_of_mem_take hy))
  exact core a0 c0 z0 a1 c1 z1.length (z0.take 60) (z1.take 60) W hc0 rfl (by rw [List.length_take]; omega) (ht hC0) (by rw [List.length_take]; omega) (by omega) (by rw [List.length_take]; omega) hc1 (ht hC1) 400 xs e h1 h2 (Pure.ints_refl xs (by simp only at h3; omega) 400 (by simp only at h3; omega)) (Pure.awake12_more 360)
end Go.Proofs.Yteamoejgpcognaa.keepNeeds
