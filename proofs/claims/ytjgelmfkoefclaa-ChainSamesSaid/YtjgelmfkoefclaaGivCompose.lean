import Derived.BigQuiet
import Derived.Deep.DeepMust
import Derived.RegionTactic
import Derived.Deep.RegionHeld3
import Derived.Test.YtjgelmfkoefclaaGivPiece
import Derived.Test.YtjgelmfkoefclaaBase
import Derived.Test.YtjgelmfkoefclaaBasd
namespace Go.Proofs.Ytjgelmfkoefclaa.PAll
open Go.RowKit Go.Proofs.YtjgelmfkoefclaaW.PrintWords Go.Proofs.YtjgelmfkoefclaaW.PrintLast Go.Proofs.YtjgelmfkoefclaaW.PrintMore Go.Proofs.Ytjgelmfkoefclaa.Pure
set_option linter.unusedVariables false
set_option linter.unusedSimpArgs false
attribute [local go_sem] max2_int min2_int max_two min_two

set_option maxHeartbeats 2000000 in
set_option maxRecDepth 100000 in
theorem compose_calls (a0 a1 : ByteArray) (a2 : Int) (A0 : Option Addr) (c0 : Nat) (l0 : List S54) (b0 b1 : ByteArray) (b2 : Int) (A1 : Option Addr) (c1 : Nat) (l1 : List S54) (r1 r2 : ByteArray) (r3 : Int) (r4 : List S54) (r5 : Int) (w : World)
    (hr0 : Kd.C k54 w A0 l0.length l0) (hc0 : l0.length ≤ c0) (hr1 : Kd.C k54 w A1 l1.length l1) (hc1 : l1.length ≤ c1) (hk : CompOk (l0.length + l1.length + 10) l0 l1) (hv : compV a0 a1 a2 l0 b0 b1 b2 l1 = (r1, r2, r3, r4, r5)) :
    Calls Try.prog 12 #[.agg #[.string a0, .string a1, .int .i64 a2, .slice A0 l0.length c0], .agg #[.string b0, .string b1, .int .i64 b2, .slice A1 l1.length c1]] w fun e w' => ∃ v3_ : Value, e = .returned (.tuple #[.agg #[.string r1, .string r2, .int .i64 r3, v3_], .int .i64 r5]) ∧ Kd.R k54 54 w' w.heap.size (fun _ => True) v3_ r4 ∧ Below w.heap.size w w' := by
  have HRA := Aside0.mk (fun wx (h : Kd.C k54 wx A0 l0.length l0) => delta_Right.calls (l0.length + l1.length + 10) a0 a1 a2 A0 c0 l0 _ wx h hc0 (Right_f a0 a1 a2 l0 hk.2.2.2.1 hk.2.1 _ (by omega)))
  have HRB := Aside0.mk (fun wx (h : Kd.C k54 wx A1 l1.length l1) => delta_Right.calls (l0.length + l1.length + 10) b0 b1 b2 A1 c1 l1 _ wx h hc1 (Right_f b0 b1 b2 l1 hk.2.2.2.2 hk.2.2.1 _ (by omega)))
  have H0 := Aside0.mk hr0
  have H1 := Aside0.mk hr1
  have HC0 := Aside0.mk hc0
  have HC1 := Aside0.mk hc1
  have HK := Aside0.mk hk
  have HV := Aside0.mk hv
  clear hr0 hr1 hc0 hc1 hk hv
  obtain ⟨ra, hra⟩ : ∃ ra, ra = rightV a0 a1 a2 l0 := ⟨_, rfl⟩
  obtain ⟨rb, hrb⟩ : ∃ rb, rb = rightV b0 b1 b2 l1 := ⟨_, rfl⟩
  rw [← hra] at HRA
  rw [← hrb] at HRB
  have HRAE := Aside0.mk hra
  have HRBE := Aside0.mk hrb
  clear hra hrb
  obtain ⟨W3, hW3⟩ : ∃ W3, W3 = ((w.alloc (.cells #[.string a0, .string a1, .int .i64 a2, .slice A0 l0.length c0] 24 (0, 0))).alloc (.cells #[.string b0, .string b1, .int .i64 b2, .slice A1 l1.length c1] 24 (0, 0))).alloc (.cells #[.string ⟨#[]⟩, .string ⟨#[]⟩, .int .i64 0, .slice none 0 0] 24 (0, 0)) := ⟨_, rfl⟩
  have HA : Aside0 (W3.heap[w.heap.size]? = some (.cells #[.string a0, .string a1, .int .i64 a2, .slice A0 l0.length c0] 24 (0, 0))) := ⟨by rw [hW3]; exact blk_alloc (blk_alloc (blk_new _ _) _) _⟩
  have HB : Aside0 (W3.heap[w.heap.size + 1]? = some (.cells #[.string b0, .string b1, .int .i64 b2, .slice A1 l1.length c1] 24 (0, 0))) := ⟨by
    rw [hW3]; have := blk_new (w.alloc (.cells #[.string a0, .string a1, .int .i64 a2, .slice A0 l0.length c0] 24 (0, 0))) (.cells #[.string b0, .string b1, .int .i64 b2, .slice A1 l1.length c1] 24 (0, 0)); rw [World.size_alloc] at this; exact blk_alloc this _⟩
  have HZ : Aside0 (W3.heap[w.heap.size + 1 + 1]? = some (.cells #[.string ⟨#[]⟩, .string ⟨#[]⟩, .int .i64 0, .slice none 0 0] 24 (0, 0))) := ⟨by
    rw [hW3]; have := blk_new ((w.alloc (.cells #[.string a0, .string a1, .int .i64 a2, .slice A0 l0.length c0] 24 (0, 0))).alloc (.cells #[.string b0, .string b1, .int .i64 b2, .slice A1 l1.length c1] 24 (0, 0))) (.cells #[.string ⟨#[]⟩, .string ⟨#[]⟩, .int .i64 0, .slice none 0 0] 24 (0, 0)); rw [World.size_alloc, World.size_alloc] at this; exact this⟩
  have HBW : Aside0 (Below w.heap.size w W3) := ⟨by rw [hW3]; exact below_alloc (below_alloc (below_alloc (Below.refl _ _) _) _) _⟩
  have HW3 := Aside0.mk hW3
  clear hW3
  go_enter Try.func12, Try.ntmps12
  go_upto_region 1 with fail
  rw [← HW3.out]
  have hzero : ∀ (W : World), W.heap[w.heap.size + 1 + 1]? = some (.cells #[.string ⟨#[]⟩, .string ⟨#[]⟩, .int .i64 0, .slice none 0 0] 24 (0, 0)) → ((((W.setCell ⟨w.heap.size + 1 + 1, 0, none⟩ (.string ⟨#[]⟩)).setCell ⟨w.heap.size + 1 + 1, 1, none⟩ (.string ⟨#[]⟩)).setCell ⟨w.heap.size + 1 + 1, 2, none⟩ (.int .i64 0)).setCell ⟨w.heap.size + 1 + 1, 3, none⟩ (.slice none 0 0)).heap[w.heap.size + 1 + 1]? = some (.cells #[.string ⟨#[]⟩, .string ⟨#[]⟩, .int .i64 0, .slice none 0 0] 24 (0, 0)) := fun W h => by
    refine blk_put (cs := #[.string ⟨#[]⟩, .string ⟨#[]⟩, .int .i64 0, .slice none 0 0]) ?_ 3 _ rfl
    refine blk_put (cs := #[.string ⟨#[]⟩, .string ⟨#[]⟩, .int .i64 0, .slice none 0 0]) ?_ 2 _ rfl
    refine blk_put (cs := #[.string ⟨#[]⟩, .string ⟨#[]⟩, .int .i64 0, .slice none 0 0]) ?_ 1 _ rfl
    exact blk_put (cs := #[.string ⟨#[]⟩, .string ⟨#[]⟩, .int .i64 0, .slice none 0 0]) h 0 _ rfl
  have HZERO := Aside0.mk hzero
  clear hzero
  have HEND : ∀ (W : World) (c : Int), Aside0 (Below w.heap.size w W) → Aside0 (W.heap[w.heap.size + 1 + 1]? = some (.cells #[.string ⟨#[]⟩, .string ⟨#[]⟩, .int .i64 0, .slice none 0 0] 24 (0, 0))) → Below w.heap.size w ((((W.setCell ⟨w.heap.size + 1 + 1, 0, none⟩ (.string ⟨#[]⟩)).setCell ⟨w.heap.size + 1 + 1, 1, none⟩ (.string ⟨#[]⟩)).setCell ⟨w.heap.size + 1 + 1, 2, none⟩ (.int .i64 0)).setCell ⟨w.heap.size + 1 + 1, 3, none⟩ (.slice none 0 0)) := fun W c h _ => (((h.out.setCell (p := ⟨w.heap.size + 1 + 1, 0, none⟩) (by show w.heap.size ≤ w.heap.size + 1 + 1; omega) _).setCell (p := ⟨w.heap.size + 1 + 1, 1, none⟩) (by show w.heap.size ≤ w.heap.size + 1 + 1; omega) _).setCell (p := ⟨w.heap.size + 1 + 1, 2, none⟩) (by show w.heap.size ≤ w.heap.size + 1 + 1; omega) _).setCell (p := ⟨w.heap.size + 1 + 1, 3, none⟩) (by show w.heap.size ≤ w.heap.size + 1 + 1; omega) _
  have HE := Aside0.mk HEND
  clear HEND
  obtain ⟨p0, p1, p2, p3⟩ := blk4 HA.out
  have HC3 : Aside0 (Kd.C k54 W3 A0 l0.length l0) := ⟨Kd.C_below H0.out HBW.out⟩
  cases ra with
  | false =>
    go_wp2_with (go_at_call 24; go_loud (refine (HRA.out _ HC3.out).mono ?_; rintro _ wa ⟨rfl, hbb⟩; have HBA := Aside0.mk hbb; have HZA := Aside0.mk (blk_below HZ.out hbb); clear hbb; obtain ⟨z0, z1, z2, z3⟩ := blk4f HZA.out; obtain ⟨y0, y1, y2, y3⟩ := blk4 HZA.out))
    refine bodyPost_ret (results_ct rfl _ _ (w.heap.size + 1 + 1) 24 #[.string ⟨#[]⟩, .string ⟨#[]⟩, .int .i64 0, .slice none 0 0] (0, 0) _ rfl (HZERO.out _ HZA.out) Try.underlying24 rfl (by kernel_rfl)) rfl ?_
    have hv : compV a0 a1 a2 l0 b0 b1 b2 l1 = (⟨#[]⟩, ⟨#[]⟩, 0, [], 1) := by unfold compV; rw [if_neg (fun h => by rw [← HRAE.out] at h; exact absurd h.1 (by decide))]
    rw [HV.out] at hv
    injection hv with e1 hv; injection hv with e2 hv; injection hv with e3 hv; injection hv with e4 e5
    subst e1 e2 e3 e4 e5
    exact ⟨.slice none 0 0, rfl, Kd.R_nil _ _ _ _ _, HE.out _ 0 ⟨below_step HBW.out HBA.out⟩ ⟨HZA.out⟩⟩
  | true =>
    cases rb with
    | false =>
      go_wp2_with (go_at_call 24; go_loud (first | ((with_reducible refine (HRA.out _ HC3.out).mono ?_); rintro _ wa ⟨rfl, hbb⟩; have HBA := Aside0.mk (below_step HBW.out hbb); have HAA := Aside0.mk (blk_below HA.out hbb); have HBBA := Aside0.mk (blk_below HB.out hbb); have HZA := Aside0.mk (blk_below HZ.out hbb); clear hbb p0 p1 p2 p3; have HC4 : Aside0 (Kd.C k54 wa A1 l1.length l1) := ⟨Kd.C_below H1.out HBA.out⟩; obtain ⟨q0, q1, q2, q3⟩ := blk4 HBBA.out) | ((with_reducible refine (HRB.out _ HC4.out).mono ?_); rintro _ wb ⟨rfl, hbb⟩; have HBB := Aside0.mk (below_step HBA.out hbb); have HAB := Aside0.mk (blk_below HAA.out hbb); have HBBB := Aside0.mk (blk_below HBBA.out hbb); have HZB := Aside0.mk (blk_below HZA.out hbb); clear hbb q0 q1 q2 q3; obtain ⟨z0, z1, z2, z3⟩ := blk4f HZB.out; obtain ⟨y0, y1, y2, y3⟩ := blk4 HZB.out; obtain ⟨p0, p1, p2, p3⟩ := blk4 HAB.out; obtain ⟨q0, q1, q2, q3⟩ := blk4 HBBB.out)))
      refine bodyPost_ret (results_ct rfl _ _ (w.heap.size + 1 + 1) 24 #[.string ⟨#[]⟩, .string ⟨#[]⟩, .int .i64 0, .slice none 0 0] (0, 0) _ rfl (HZERO.out _ HZB.out) Try.underlying24 rfl (by kernel_rfl)) rfl ?_
      have hv : compV a0 a1 a2 l0 b0 b1 b2 l1 = (⟨#[]⟩, ⟨#[]⟩, 0, [], 1) := by unfold compV; rw [if_neg (fun h => by rw [← HRBE.out] at h; exact absurd h.2 (by decide))]
      rw [HV.out] at hv
      injection hv with e1 hv; injection hv with e2 hv; injection hv with e3 hv; injection hv with e4 e5
      subst e1 e2 e3 e4 e5
      exact ⟨.slice none 0 0, rfl, Kd.R_nil _ _ _ _ _, HE.out _ 0 ⟨HBB.out⟩ ⟨HZB.out⟩⟩
    | true =>
      by_cases hm : a1.toList = b0.toList
      · have hmb : (a1.toList != b0.toList) = false := bne_eq_false_iff_eq.mpr hm
        have hmc : (a1.toList == b0.toList) = true := beq_iff_eq.mpr hm
        have HM := Aside0.mk hm
        clear hm
        go_wp2_with (go_at_call 24; go_loud (first | ((with_reducible refine (HRA.out _ HC3.out).mono ?_); rintro _ wa ⟨rfl, hbb⟩; have HBA := Aside0.mk (below_step HBW.out hbb); have HAA := Aside0.mk (blk_below HA.out hbb); have HBBA := Aside0.mk (blk_below HB.out hbb); have HZA := Aside0.mk (blk_below HZ.out hbb); clear hbb p0 p1 p2 p3; have HC4 : Aside0 (Kd.C k54 wa A1 l1.length l1) := ⟨Kd.C_below H1.out HBA.out⟩; obtain ⟨q0, q1, q2, q3⟩ := blk4 HBBA.out) | ((with_reducible refine (HRB.out _ HC4.out).mono ?_); rintro _ wb ⟨rfl, hbb⟩; have HBB := Aside0.mk (below_step HBA.out hbb); have HAB := Aside0.mk (blk_below HAA.out hbb); have HBBB := Aside0.mk (blk_below HBBA.out hbb); have HZB := Aside0.mk (blk_below HZA.out hbb); clear hbb q0 q1 q2 q3; obtain ⟨z0, z1, z2, z3⟩ := blk4f HZB.out; obtain ⟨y0, y1, y2, y3⟩ := blk4 HZB.out; obtain ⟨p0, p1, p2, p3⟩ := blk4 HAB.out; obtain ⟨q0, q1, q2, q3⟩ := blk4 HBBB.out)))
        have hok0 : StepsOk l0 := (of_decide_eq_true HRAE.out.symm).ok
        have hok1 : StepsOk l1 := (of_decide_eq_true HRBE.out.symm).ok
        have HOK0 := Aside0.mk hok0
        have HOK1 := Aside0.mk hok1
        have HL := Aside0.mk (laid_calls A0 c0 l0 wb (Kd.C_below H0.out HBB.out) HC0.out hok0.1)
        clear hok0 hok1
        go_wp2_with (go_at_call 29; go_loud (refine HL.out.mono ?_; rintro _ wc ⟨bt, vt, rfl, hbt, htb, htr, hbb⟩; have HBC := Aside0.mk (below_step HBB.out hbb); have HAC := Aside0.mk (blk_below HAB.out hbb); have HBBC := Aside0.mk (blk_below HBBB.out hbb); have HZC := Aside0.mk (blk_below HZB.out hbb); have HBT := Aside0.mk hbt; have HTB := Aside0.mk htb; have HTR := Aside0.mk htr; have HSZ := Aside0.mk (blk_lt HZB.out); clear hbb hbt htb htr p0 p1 p2 p3 q0 q1 q2 q3 z0 z1 z2 z3 y0 y1 y2 y3; obtain ⟨p0, p1, p2, p3⟩ := blk4 HAC.out; obtain ⟨q0, q1, q2, q3⟩ := blk4 HBBC.out))
        have HWC : Aside0 (w.heap.size ≤ wc.heap.size) := ⟨HBC.out.size⟩
        have HZL := Aside0.mk (blk_lt HZC.out)
        go_loopw [7, 31] (fun v7 v31 wr => ∃ (i : Nat) (out : List S54) (vo : Value), vo = v7 ∧ v31 = .int .i64 i ∧ i ≤ l1.length ∧ Aside0 (compF l0 a2 (l1.drop i) out = compF l0 a2 l1 []) ∧ Aside0 (Gath l1 i out) ∧ Aside0 (Kd.R k54 54 wr wc.heap.size (fun _ => True) vo out) ∧ Aside0 (Below wc.heap.size wc wr)) (fun _ v31 _ => l1.length - (intOf v31).toNat)
        case atStart => exact ⟨0, [], .slice none 0 0, rfl, rfl, Nat.zero_le _, ⟨by rw [List.drop_zero]⟩, ⟨Gath.nil _⟩, ⟨Kd.R_nil _ _ _ _ _⟩, ⟨Below.refl _ _⟩⟩
        case round =>
          obtain ⟨i, out, vo, rfl, rfl, hil, HCF, HG, HR, HBR⟩ := hrel
          clear p0 p1 p2 p3 q0 q1 q2 q3
          by_cases hlt : i < l1.length
          · have hb1 : decide (i < l1.length) = true := decide_eq_true hlt
            have hi9 : l1.length ≤ 1000000 := HOK1.out.1
            obtain ⟨ad, rfl, g0, g1, g2⟩ := at_T54 (Kd.C_below (Kd.C_below H1.out HBC.out) HBR.out) (i : Int) (by omega) (by omega)
            rw [Int.toNat_natCast] at g0 g1 g2
            have HX := Aside0.mk ((of_decide_eq_true HRBE.out.symm : RightP b0 b1 b2 l1).2.2.2.2.1 _ (rd68_mem l1 i hlt))
            have HT := Aside0.mk (compF_step_text l0 a2 l1 i hlt out)
            have HN := Aside0.mk (compF_step_none l0 a2 l1 i hlt out)
            have HP := Aside0.mk (compF_step_copy l0 a2 l1 i hlt out)
            have HGT := Aside0.mk (fun hg => Gath.text HG.out hlt hg)
            have HGC := Aside0.mk (fun hg => Gath.copy (l0 := l0) HG.out hlt hg)
            obtain ⟨x, hx⟩ : ∃ x, x = rd_T54 l1 (i : Int) := ⟨_, rfl⟩
            rw [← hx] at g0 g1 g2 HX HT HN HP HGT HGC
            clear hx
            obtain ⟨p, q, t⟩ := x
            have htl : t.toList = ([] : List UInt8) ↔ t.size = 0 := nil_size t
            have HTL := Aside0.mk htl
            clear htl
            by_cases hz : t.size = 0
            · have hze : t.toList = [] := HTL.out.2 hz
              have hz1 : (t.toList != ([] : List UInt8)) = false := bne_eq_false_iff_eq.mpr hze
              have hz2 : (t.toList == ([] : List UInt8)) = true := beq_iff_eq.mpr hze
              have hz3 : t.toList.isEmpty = true := List.isEmpty_iff.mpr hze
              have HZE := Aside0.mk hze
              have HZ0 := Aside0.mk hz
              clear hze
              obtain ⟨hs1, hs2, hs3, hs4⟩ : 0 < q ∧ 0 ≤ p ∧ q ≤ 524288 ∧ p ≤ 524288 - q := by have := HX.out; unfold stepOk at this; rw [if_pos hz] at this; exact this
              obtain ⟨pn, rfl⟩ := Int.eq_ofNat_of_zero_le hs2
              obtain ⟨qn, rfl⟩ := Int.eq_ofNat_of_zero_le (Int.le_of_lt hs1)
              have hq0 : 0 < qn := by omega
              have hp9 : pn ≤ 524288 := by omega
              have hq9 : qn ≤ 524288 := by omega
              clear hz hs1 hs2 hs3 hs4
              have hAr := blk_below HAC.out HBR.out
              have hZr := blk_below HZC.out HBR.out
              have pa2 : ∀ X, (wr.alloc X).cell? ⟨w.heap.size, 2, none⟩ = some (.int .i64 a2) := fun X => (blk_cell (blk_alloc hAr X) 2).trans rfl
              have HZR := Aside0.mk hZr
              clear hAr hZr
              by_cases hgt : ((pn : Int) + (qn : Int)) > a2
              · have hgb : decide (a2 < (pn : Int) + (qn : Int)) = true := decide_eq_true hgt
                have HGB := Aside0.mk hgt
                clear hgt
                have pz0 : ∀ X, (wr.alloc X).cell? ⟨w.heap.size + 1 + 1, 0, none⟩ = some (.string ⟨#[]⟩) := fun X => (blk4 (blk_alloc HZR.out X)).1
                have pz1 : ∀ X, (wr.alloc X).cell? ⟨w.heap.size + 1 + 1, 1, none⟩ = some (.string ⟨#[]⟩) := fun X => (blk4 (blk_alloc HZR.out X)).2.1
                have pz2 : ∀ X, (wr.alloc X).cell? ⟨w.heap.size + 1 + 1, 2, none⟩ = some (.int .i64 0) := fun X => (blk4 (blk_alloc HZR.out X)).2.2.1
                have pz3 : ∀ X, (wr.alloc X).cell? ⟨w.heap.size + 1 + 1, 3, none⟩ = some (.slice none 0 0) := fun X => (blk4 (blk_alloc HZR.out X)).2.2.2
                have pf0 : ∀ X, (wr.alloc X).frozen? ⟨w.heap.size + 1 + 1, 0, none⟩ = false := fun X => (blk4f (blk_alloc HZR.out X)).1
                have pf1 : ∀ X, (wr.alloc X).frozen? ⟨w.heap.size + 1 + 1, 1, none⟩ = false := fun X => (blk4f (blk_alloc HZR.out X)).2.1
                have pf2 : ∀ X, (wr.alloc X).frozen? ⟨w.heap.size + 1 + 1, 2, none⟩ = false := fun X => (blk4f (blk_alloc HZR.out X)).2.2.1
                have pf3 : ∀ X, (wr.alloc X).frozen? ⟨w.heap.size + 1 + 1, 3, none⟩ = false := fun X => (blk4f (blk_alloc HZR.out X)).2.2.2
                go_wp2_with fail
                refine bodyPost_ret (results_ct rfl _ _ (w.heap.size + 1 + 1) 24 #[.string ⟨#[]⟩, .string ⟨#[]⟩, .int .i64 0, .slice none 0 0] (0, 0) _ rfl (HZERO.out _ (blk_alloc HZR.out _)) Try.underlying24 rfl (by kernel_rfl)) rfl ?_
                have hm := HM.out
                have hv : compV a0 a1 a2 l0 b0 b1 b2 l1 = (⟨#[]⟩, ⟨#[]⟩, 0, [], 2) := by unfold compV; rw [if_pos ⟨HRAE.out.symm, HRBE.out.symm⟩, if_pos hm, ← HCF.out, HN.out HZ0.out HGB.out]
                rw [HV.out] at hv
                injection hv with e1 hv; injection hv with e2 hv; injection hv with e3 hv; injection hv with e4 e5
                subst e1 e2 e3 e4 e5
                exact ⟨.slice none 0 0, rfl, Kd.R_nil _ _ _ _ _, HE.out _ 0 ⟨below_alloc (below_step HBC.out HBR.out) _⟩ ⟨blk_alloc HZR.out _⟩⟩
              · have hgb : decide (a2 < (pn : Int) + (qn : Int)) = false := decide_eq_false hgt
                have ha2 : (sumN l0 : Int) = a2 := (of_decide_eq_true HRAE.out.symm : RightP a0 a1 a2 l0).2.2.2.2.2
                have HPN : Aside0 (pn + qn ≤ sumN l0) := ⟨by omega⟩
                have HGB := Aside0.mk hgt
                clear hgt ha2
                have HOL : Aside0 (out.length + sumN l0 ≤ 2000000) := ⟨by have := HG.out.bound; have := HOK1.out.2.1; have := HOK0.out.2.1; omega⟩
                obtain ⟨At, ct, rfl, hct, hCt⟩ := Kd.R_reads HTR.out
                rw [fromT_length] at hCt
                have HPC := Aside0.mk (fun X => piece_calls bt A0 At c0 ct l0 pn qn (wr.alloc X) (blk_alloc (blk_below (by have := HTB.out; rw [fromT_length] at this; exact this) HBR.out) X) (Kd.C_below (Kd.C_below H0.out HBC.out) (below_alloc HBR.out X)) (Kd.C_below hCt (below_alloc HBR.out X)) HOK0.out hq0 HPN.out)
                have HWR : Aside0 (wc.heap.size ≤ wr.heap.size) := ⟨HBR.out.size⟩
                go_wp2_with (first | (go_at_call 30; go_loud ((with_reducible refine (HPC.out _).mono ?_); rintro _ wd ⟨vp, rfl, hrp, hbb⟩; have HBD := Aside0.mk (below_step (below_alloc HBR.out _) hbb); have HRD := Aside0.mk (Kd.R_below (Kd.R_alloc HR.out _) hbb); obtain ⟨Ap, cp, rfl, hcp, hCp⟩ := Kd.R_reads hrp; have HCP := Aside0.mk hCp; have HPL : Aside0 ((pieceAt l0 pn qn).length ≤ sumN l0) := ⟨(by have h9 := pieceAt_sum l0 HOK0.out.2.2 pn qn HPN.out; have h8 := len_le_sum _ h9.2; have h7 := HPN.out; omega)⟩; clear hbb hrp hcp hCp)) | ((with_reducible refine gate_builtin (b := .append) (xs := #[.tmp 35, .tmp 41]) rfl ?_); at_builtin; go_loud (refine Kd.R_append_rows k54 (Rr := k54.K wd) (w0 := wc) (W := wd) wc.heap.size rfl (.tmp 35) (.tmp 41) 22 54 (.agg #[(.int .i64 0), (.int .i64 0), (.string ⟨#[]⟩)]) 32 rfl Try.underlying22 info54 rfl (by decide) (by omega) vo out (pieceAt l0 pn qn) Ap (pieceAt l0 pn qn).length cp (fun _ => True) (fun _ => False) rfl rfl ?aO HCP.out ?aK (fun _ hk => hk.elim) (fun _ _ => trivial) ?aB ?aS ?aL ?_; (case aO => exact HRD.out); (case aK => exact (fun x_ cs_ h_ => by rw [k54_open h_]; exact k54_mkM _ _ _ x_)); (case aB => exact HBD.out); (case aS => exact HBD.out.size); (case aL => have := HOL.out; have := HPL.out; omega); intro v1 w1 hR1 hB1 hG1 hO1; have HR1 := Aside0.mk hR1; have HB1 := Aside0.mk hB1; clear hR1 hB1 hG1 hO1)))
                go_roundw
                case rel =>
                  exact ⟨i + 1, out ++ pieceAt l0 pn qn, _, rfl, by go_num, by omega, ⟨(HP.out HZ0.out HGB.out).symm.trans HCF.out⟩, ⟨HGC.out HOK0.out.2.2 HZ0.out HPN.out⟩, HR1, HB1⟩
                case measure => simp [intOf]; omega
            · have hze : ¬ t.toList = [] := fun h => hz (HTL.out.1 h)
              have hz1 : (t.toList != ([] : List UInt8)) = true := bne_iff_ne.mpr hze
              have hz2 : (t.toList == ([] : List UInt8)) = false := beq_eq_false_iff_ne.mpr hze
              have hz3 : t.toList.isEmpty = false := by rw [Bool.eq_false_iff, Ne, List.isEmpty_iff]; exact hze
              have HZE := Aside0.mk hze
              have HZ0 := Aside0.mk hz
              have HOL : Aside0 (out.length ≤ 1000000) := ⟨by have := HG.out.bound; have := HOK1.out.2.1; omega⟩
              have HSD : Aside0 (wc.heap.size ≤ wr.heap.size) := ⟨HBR.out.size⟩
              clear hze hz
              go_wp2_with ((with_reducible refine gate_builtin (b := .append) (xs := #[.tmp 47, .tmp 49]) rfl ?_); at_builtin; go_loud (refine Kd.R_append k54 (w0 := wc) wc.heap.size rfl (.tmp 47) (.tmp 49) 22 54 (.agg #[(.int .i64 0), (.int .i64 0), (.string ⟨#[]⟩)]) 32 rfl Try.underlying22 info54 rfl (by decide) (by omega) vo out (⟨p, q, t⟩ : S54) [.int .i64 p, .int .i64 q, .string t] (fun _ => True) (fun _ => False) rfl ?aX ?aP (fun _ hk => hk.elim) (fun _ _ => trivial) ?aO ?aB ?aS ?aL ?_; (case aX => (show (Value.slice (some ⟨wr.heap.size + 1, 0, none⟩) 1 1) = _; simp)); (case aP => exact k54_mkM _ _ _ (⟨p, q, t⟩ : S54)); (case aO => exact (by (with_reducible repeat (first | apply Kd.R_alloc | apply Kd.R_drewN | apply Kd.R_drew)); exact HR.out)); (case aB => exact (HBR.out.alloc HSD.out _)); (case aS => exact (Nat.le_trans HSD.out (by simp))); (case aL => have := HOL.out; omega); intro v1 w1 hR1 hB1 hG1 hO1; have HR1 := Aside0.mk hR1; have HB1 := Aside0.mk hB1; clear hR1 hB1 hG1 hO1))
              go_roundw
              case rel =>
                exact ⟨i + 1, out ++ [⟨p, q, t⟩], _, rfl, by go_num, by omega, ⟨(HT.out HZ0.out).symm.trans HCF.out⟩, ⟨HGT.out HOK1.out.2.2⟩, HR1, HB1⟩
              case measure => simp [intOf]; omega
          · have hie : i = l1.length := by omega
            subst hie
            rw [List.drop_of_length_le (Nat.le_refl _), compF] at HCF
            have hbd := HG.out.bound
            have hs9 := HOK1.out.2.1
            have HTD := Aside0.mk (tidy_calls · · out · · · (⟨by omega, by omega⟩ : TidyOk out))
            clear hbd hs9
            obtain ⟨Ao, co, rfl, hco, hCo⟩ := Kd.R_reads HR.out
            have HCO := Aside0.mk hCo
            have HCC := Aside0.mk hco
            clear hCo hco
            have hAr := blk_below HAC.out HBR.out
            have hBr := blk_below HBBC.out HBR.out
            have HZR := Aside0.mk (blk_below HZC.out HBR.out)
            have HAR := Aside0.mk hAr
            have HBRR := Aside0.mk hBr
            obtain ⟨p0, p1, p2, p3⟩ := blk4 hAr
            obtain ⟨q0, q1, q2, q3⟩ := blk4 hBr
            clear hAr hBr
            go_wp2_with fail
            have hn1 : ¬ w.heap.size = w.heap.size + 1 + 1 := by omega
            have hn2 : ¬ w.heap.size + 1 + 1 = w.heap.size := by omega
            go_region_held3 (fun w' => w'.cell? ⟨w.heap.size, 0, none⟩ = some (.string a0) ∧ w'.cell? ⟨w.heap.size + 1, 1, none⟩ = some (.string b1) ∧ w'.cell? ⟨w.heap.size + 1, 2, none⟩ = some (.int .i64 b2)) (go_keep) ((go_at_call 17; ((with_reducible refine (HTD.out Ao co _ ?hrt HCC.out).mono ?_); (case hrt => exact Kd.C_below HCO.out (below_drew1 (Below.refl _ _))); rintro _ we ⟨ve, rfl, hre, hbe⟩; obtain ⟨Ae, ce, rfl⟩ := Kd.R_slice hre; have HAE := Aside0.mk (blk_below (blk_drew HAR.out) hbe); have HBE := Aside0.mk (blk_below (blk_drew HBRR.out) hbe); have HZE := Aside0.mk (blk_below (blk_drew HZR.out) hbe); have HRE := Aside0.mk hre; have HBEE := Aside0.mk (below_step (below_drew1 HBR.out) hbe); clear hbe hre; clear p0 p1 p2 p3 q0 q1 q2 q3; obtain ⟨p0, p1, p2, p3⟩ := blk4 HAE.out; obtain ⟨q0, q1, q2, q3⟩ := blk4 HBE.out; obtain ⟨z0, z1, z2, z3⟩ := blk4 HZE.out; obtain ⟨f0, f1, f2, f3⟩ := blk4f HZE.out)))
            go_wp2_with fail
            refine bodyPost_ret (results_ct rfl _ _ (w.heap.size + 1 + 1) 24 #[.string a0, .string b1, .int .i64 b2, .slice Ae (tidyV out).length ce] (0, 0) _ rfl ?blk Try.underlying24 rfl (by kernel_rfl)) rfl ?_
            case blk =>
              refine blk_put (cs := #[.string a0, .string b1, .int .i64 b2, .slice none 0 0]) ?_ 3 _ rfl
              refine blk_put (cs := #[.string a0, .string b1, .int .i64 0, .slice none 0 0]) ?_ 2 _ rfl
              refine blk_put (cs := #[.string a0, .string ⟨#[]⟩, .int .i64 0, .slice none 0 0]) ?_ 1 _ rfl
              exact blk_put (cs := #[.string ⟨#[]⟩, .string ⟨#[]⟩, .int .i64 0, .slice none 0 0]) HZE.out 0 _ rfl
            have hm := HM.out
            have hv : compV a0 a1 a2 l0 b0 b1 b2 l1 = (a0, b1, b2, tidyV out, 0) := by unfold compV; rw [if_pos ⟨HRAE.out.symm, HRBE.out.symm⟩, if_pos hm, ← HCF.out]
            rw [HV.out] at hv
            injection hv with e1 hv; injection hv with e2 hv; injection hv with e3 hv; injection hv with e4 e5
            subst e1 e2 e3 e4 e5
            have hst : ∀ j : Nat, ∀ (u : Value) (X : World), Kd.R k54 54 X w.heap.size (fun k => wc.heap.size ≤ k) (.slice Ae (tidyV out).length ce) (tidyV out) → Kd.R k54 54 (X.setCell ⟨w.heap.size + 1 + 1, j, none⟩ u) w.heap.size (fun k => wc.heap.size ≤ k) (.slice Ae (tidyV out).length ce) (tidyV out) := fun j u X h => Kd.R_far h (fun k hk => by have := HZL.out; show k ≠ w.heap.size + 1 + 1; omega) u
            have hbs : ∀ j : Nat, ∀ (u : Value) (X : World), Below w.heap.size w X → Below w.heap.size w (X.setCell ⟨w.heap.size + 1 + 1, j, none⟩ u) := fun j u X h => h.setCell (p := ⟨w.heap.size + 1 + 1, j, none⟩) (by show w.heap.size ≤ w.heap.size + 1 + 1; omega) u
            have hwr : wc.heap.size ≤ wr.heap.size := HBR.out.size
            refine ⟨_, rfl, Kd.R_mono (hst 3 _ _ (hst 2 _ _ (hst 1 _ _ (hst 0 _ _ ?_)))) (fun _ _ => trivial), hbs 3 _ _ (hbs 2 _ _ (hbs 1 _ _ (hbs 0 _ _ (below_step HBC.out HBEE.out))))⟩
            exact Kd.R_mono (Kd.R_lower (Kd.R_bound HRE.out) (by have := HWC.out; show w.heap.size ≤ wr.heap.size; omega)) (fun k hk => Nat.le_trans hwr hk.2.1)
      · have hmb : (a1.toList != b0.toList) = true := bne_iff_ne.mpr hm
        have hmc : (a1.toList == b0.toList) = false := beq_eq_false_iff_ne.mpr hm
        have HM := Aside0.mk hm
        clear hm
        go_wp2_with (go_at_call 24; go_loud (first | ((with_reducible refine (HRA.out _ HC3.out).mono ?_); rintro _ wa ⟨rfl, hbb⟩; have HBA := Aside0.mk (below_step HBW.out hbb); have HAA := Aside0.mk (blk_below HA.out hbb); have HBBA := Aside0.mk (blk_below HB.out hbb); have HZA := Aside0.mk (blk_below HZ.out hbb); clear hbb p0 p1 p2 p3; have HC4 : Aside0 (Kd.C k54 wa A1 l1.length l1) := ⟨Kd.C_below H1.out HBA.out⟩; obtain ⟨q0, q1, q2, q3⟩ := blk4 HBBA.out) | ((with_reducible refine (HRB.out _ HC4.out).mono ?_); rintro _ wb ⟨rfl, hbb⟩; have HBB := Aside0.mk (below_step HBA.out hbb); have HAB := Aside0.mk (blk_below HAA.out hbb); have HBBB := Aside0.mk (blk_below HBBA.out hbb); have HZB := Aside0.mk (blk_below HZA.out hbb); clear hbb q0 q1 q2 q3; obtain ⟨z0, z1, z2, z3⟩ := blk4f HZB.out; obtain ⟨y0, y1, y2, y3⟩ := blk4 HZB.out; obtain ⟨p0, p1, p2, p3⟩ := blk4 HAB.out; obtain ⟨q0, q1, q2, q3⟩ := blk4 HBBB.out)))
        have hm := HM.out
        refine bodyPost_ret (results_ct rfl _ _ (w.heap.size + 1 + 1) 24 #[.string ⟨#[]⟩, .string ⟨#[]⟩, .int .i64 0, .slice none 0 0] (0, 0) _ rfl (HZERO.out _ HZB.out) Try.underlying24 rfl (by kernel_rfl)) rfl ?_
        have hv : compV a0 a1 a2 l0 b0 b1 b2 l1 = (⟨#[]⟩, ⟨#[]⟩, 0, [], 13) := by unfold compV; rw [if_pos ⟨HRAE.out.symm, HRBE.out.symm⟩, if_neg hm]
        rw [HV.out] at hv
        injection hv with e1 hv; injection hv with e2 hv; injection hv with e3 hv; injection hv with e4 e5
        subst e1 e2 e3 e4 e5
        exact ⟨.slice none 0 0, rfl, Kd.R_nil _ _ _ _ _, HE.out _ 0 ⟨HBB.out⟩ ⟨HZB.out⟩⟩
theorem chain_Compose.calls (k : Nat) (a0 a1 : ByteArray) (a2 : Int) (A0 : Option Addr) (c0 : Nat) (l0 : List S54) (b0 b1 : ByteArray) (b2 : Int) (A1 : Option Addr) (c1 : Nat) (l1 : List S54) (r1 r2 : ByteArray) (r3 : Int) (r4 : List S54) (r5 : Int) (w : World)
    (hr0 : Kd.C k54 w A0 l0.length l0) (hc0 : l0.length ≤ c0) (hr1 : Kd.C k54 w A1 l1.length l1) (hc1 : l1.length ≤ c1) (h : chain_Compose.f k a0 a1 a2 l0 b0 b1 b2 l1 = some (r1, r2, r3, r4, r5)) :
    Calls Try.prog 12 #[.agg #[.string a0, .string a1, .int .i64 a2, .slice A0 l0.length c0], .agg #[.string b0, .string b1, .int .i64 b2, .slice A1 l1.length c1]] w fun e w' => ∃ v3_ : Value, e = .returned (.tuple #[.agg #[.string r1, .string r2, .int .i64 r3, v3_], .int .i64 r5]) ∧ Kd.R k54 54 w' w.heap.size (fun _ => True) v3_ r4 ∧ Below w.heap.size w w' := by
  unfold chain_Compose.f at h
  by_cases hok : CompOk k l0 l1
  · rw [if_pos hok] at h
    exact compose_calls a0 a1 a2 A0 c0 l0 b0 b1 b2 A1 c1 l1 r1 r2 r3 r4 r5 w hr0 hc0 hr1 hc1 ⟨Nat.le_refl _, hok.2⟩ (Option.some.inj h)
  · rw [if_neg hok] at h; cases h
end Go.Proofs.Ytjgelmfkoefclaa.PAll
