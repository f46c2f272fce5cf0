/- A delta is applied. -/
import Derived.BigQuiet
import Derived.Deep.DeepMust
import Derived.RegionTactic
import Derived.Deep.RegionHeld3
import Derived.Test.YtjgelmfkoefclaaGivRun
import Derived.Test.YtjgelmfkoefclaaGivMarks
import Derived.Test.YtjgelmfkoefclaaBase
import Derived.Test.YtjgelmfkoefclaaBasd
namespace Go.Proofs.Ytjgelmfkoefclaa.PAll
open Go.RowKit Go.Proofs.YtjgelmfkoefclaaW.PrintWords Go.Proofs.YtjgelmfkoefclaaW.PrintLast Go.Proofs.YtjgelmfkoefclaaW.PrintMore Go.Proofs.Ytjgelmfkoefclaa.Pure
set_option linter.unusedVariables false
set_option linter.unusedSimpArgs false
attribute [local go_sem] max2_int min2_int max_two min_two

/-- What a delta comes to, on a basis: five ways. -/
def ApplyR (l l' : List ByteArray) (bs d0 d1 : ByteArray) (d2 : Int) (st : List S54) (s : ByteArray) (er : Int) : Prop :=
  (¬ RightP d0 d1 d2 st ∧ s = ⟨#[]⟩ ∧ er = 1 ∧ l' = l) ∨
  (RightP d0 d1 d2 st ∧ bs ∈ l' ∧ markV l' bs ≠ d0 ∧ s = ⟨#[]⟩ ∧ er = 13) ∨
  (RightP d0 d1 d2 st ∧ bs ∈ l' ∧ markV l' bs = d0 ∧ ¬ (∀ x ∈ st, okB bs.size x) ∧ s = ⟨#[]⟩ ∧ (er = 2 ∨ er = 4)) ∨
  (RightP d0 d1 d2 st ∧ bs ∈ l' ∧ markV l' bs = d0 ∧ (∀ x ∈ st, okB bs.size x) ∧ (∃ t, L8 t = runL (L8 bs) st ∧ t ∈ l' ∧ markV l' t ≠ d1) ∧ s = ⟨#[]⟩ ∧ er = 6) ∨
  (RightP d0 d1 d2 st ∧ bs ∈ l' ∧ markV l' bs = d0 ∧ (∀ x ∈ st, okB bs.size x) ∧ L8 s = runL (L8 bs) st ∧ s ∈ l' ∧ markV l' s = d1 ∧ er = 0)
/-- A map's block has no cells. -/
theorem cell_nomap {w : World} {p : Addr} {v : Value} {es : Array _} {ck : Nat} (h : w.cell? p = some v) (hm : w.heap[p.block]? = some (.map es ck)) : False := by
  unfold World.cell? at h
  rw [hm] at h
  cases h
theorem cell_gbM {w w' : World} {b M : Nat} {l : List ByteArray} {p : Addr} {v : Value} (h : w.cell? p = some v) (hB : Bk w b M l) (hg : w.grownBy w' (some M)) : w'.cell? p = some v := by
  obtain ⟨es, ck, hm, _⟩ := hB.own
  have hne : p.block ≠ M := fun e => cell_nomap h (by rw [e]; exact hm)
  exact (World.cell?_of_block (a := p) (hg.block p.block (World.block_lt_of_cell? w p h) (fun e => by injection e with e; exact hne e))).trans h
theorem C_gbM {w w' : World} {b M : Nat} {l : List ByteArray} {A : Option Addr} {n : Nat} {xs : List S54} (h : Kd.C k54 w A n xs) (hB : Bk w b M l) (hg : w.grownBy w' (some M)) : Kd.C k54 w' A n xs := by
  obtain ⟨h1, h2, h3⟩ := h
  refine ⟨h1, h2, fun hn => ?_⟩
  obtain ⟨ad, e, hc⟩ := h3 hn
  refine ⟨ad, e, fun j p hp => ?_⟩
  obtain ⟨c, c1, c2, c3⟩ := hc j p hp
  obtain rfl := k54_open c2
  exact ⟨_, c1, k54_mk w' p, fun i u hu => cell_gbM (c3 i u hu) hB hg⟩
theorem toL_iff (s t : ByteArray) : s.toList = t.toList ↔ s = t := ⟨toL_inj, fun h => by rw [h]⟩

set_option maxHeartbeats 4000000 in
set_option maxRecDepth 100000 in
theorem apply_calls (b M : Nat) (l : List ByteArray) (bs d0 d1 : ByteArray) (d2 : Int) (A0 : Option Addr) (c0 : Nat) (st : List S54) (w : World) (hr0 : Kd.C k54 w A0 st.length st) (hc0 : st.length ≤ c0) (hin : In64 st) (hln : st.length ≤ 1000000) (hbs : bs.size ≤ 1000000) (hsz : ∀ x ∈ st, x.f2.size ≤ maxLen) (hB : Bk w b M l) (hl : l.length + 2 < 10000000) :
    Calls Try.prog 28 #[.pointer (some ⟨b, 0, none⟩), .string bs, .agg #[.string d0, .string d1, .int .i64 d2, .slice A0 st.length c0]] w fun e w' => ∃ (s : ByteArray) (er : Int) (l' : List ByteArray), e = .returned (.tuple #[.string s, .int .i64 er]) ∧ ApplyR l l' bs d0 d1 d2 st s er ∧ w.grownBy w' (some M) ∧ Bk w' b M l' ∧ Ext l l' ∧ l'.length ≤ l.length + 2 := by
  have HRI := Aside0.mk (fun wx (hr : Kd.C k54 wx A0 st.length st) => delta_Right.calls (st.length + 3) d0 d1 d2 A0 c0 st (rightV d0 d1 d2 st) wx hr hc0 (Right_f d0 d1 d2 st hin hln _ (by omega)))
  have HRU := Aside0.mk (fun wx (hr : Kd.C k54 wx A0 st.length st) => drun_calls bs A0 c0 st wx hr hc0 hin hln hbs hsz)
  have HR0 := Aside0.mk hr0
  obtain ⟨W1, hW1⟩ : ∃ W1, W1 = w.alloc (.cells #[.string d0, .string d1, .int .i64 d2, .slice A0 st.length c0] 24 (0, 0)) := ⟨_, rfl⟩
  have HZ : Aside0 (W1.heap[w.heap.size]? = some (.cells #[.string d0, .string d1, .int .i64 d2, .slice A0 st.length c0] 24 (0, 0))) := ⟨by rw [hW1]; exact blk_new _ _⟩
  have HBW : Aside0 (Below w.heap.size w W1) := ⟨by rw [hW1]; exact below_alloc (Below.refl _ _) _⟩
  have HB := Aside0.mk hB
  have HM : Aside0 (M < w.heap.size) := ⟨hB.lt⟩
  have HL := Aside0.mk hl
  have HBSZ : Aside0 (bs.size ≤ maxLen) := ⟨by unfold maxLen; omega⟩
  have HW1 := Aside0.mk hW1
  clear hW1 hr0 hc0 hin hsz hB hl
  obtain ⟨y0, y1, y2, y3⟩ := blk4 HZ.out
  go_enter Try.func28, Try.ntmps28
  go_upto_region 1 with fail
  rw [← HW1.out]
  by_cases hrt : RightP d0 d1 d2 st
  · have hrv : rightV d0 d1 d2 st = true := decide_eq_true hrt
    rw [hrv] at HRI
    have HRT := Aside0.mk hrt
    clear hrt hrv
    go_upto_region 3 with (go_at_call 24; go_loud ((with_reducible refine (HRI.out _ (Kd.C_below HR0.out HBW.out)).mono ?_); rintro _ wa ⟨rfl, hbb⟩; have HBA := Aside0.mk (below_step HBW.out hbb); have HZA := Aside0.mk (blk_below HZ.out hbb); clear hbb))
    clear y0 y1 y2 y3
    obtain ⟨y0, y1, y2, y3⟩ := blk4 HZA.out
    obtain ⟨mk, hmk⟩ : ∃ mk, mk = markV (addT l bs) bs := ⟨_, rfl⟩
    have HMK := Aside0.mk hmk
    have HMC : Aside0 (∀ wx, Bk wx b M l → Calls Try.prog 36 #[.pointer (some ⟨b, 0, none⟩), .string bs] wx fun e w' => e = .returned (.string mk) ∧ Bk w' b M (addT l bs) ∧ wx.grownBy w' (some M)) := ⟨fun wx h => by rw [hmk]; exact mark_calls b M l bs wx h (by have := HL.out; omega) HBSZ.out⟩
    have HBKA := Aside0.mk (HB.out.below HBA.out)
    clear hmk
    by_cases hmd : mk = d0
    · have hmb : (mk.toList == d0.toList) = true := beq_iff_eq.mpr (by rw [hmd])
      have HMD := Aside0.mk hmd
      clear hmd
      go_region_held3 (fun w' => w'.cell? ⟨w.heap.size, 0, none⟩ = some (.string d0)) (go_keep) (first | (go_at_call 36; ((with_reducible refine (HMC.out _ ?hbk).mono ?_); (case hbk => exact HBKA.out.below (by repeat (first | (with_reducible first | exact Below.refl _ _ | apply pw_below_drewN | apply below_drew1) | exact Below.refl _ _))); rintro _ wc ⟨rfl, hbk, hgb⟩; have HBC := Aside0.mk hbk; have HGC := Aside0.mk (gb_trans (by repeat (first | exact gb_refl _ _ | apply gb_drewN | apply gb_drew)) hgb : wa.grownBy wc (some M)); clear hbk hgb; have e1 := cell_keep HGC.out (p := ⟨w.heap.size, 0, none⟩) HM.out y0)))
      have HZC := Aside0.mk (blk_gb HGC.out HZA.out (by have := HM.out; omega))
      have HRC := Aside0.mk (C_gbM (Kd.C_below HR0.out HBA.out) HBKA.out HGC.out)
      clear y0 y1 y2 y3 e1
      obtain ⟨y0, y1, y2, y3⟩ := blk4 HZC.out
      go_upto_region 6 with (go_at_call 39; go_loud ((with_reducible refine (HRU.out _ HRC.out).mono ?_); rintro _ wd ⟨s, er, rfl, hrr, hbb⟩; have HRR := Aside0.mk hrr; have HBD := Aside0.mk hbb; clear hrr hbb))
      have HZD := Aside0.mk (blk_below HZC.out HBD.out)
      have HBKD := Aside0.mk (HBC.out.below HBD.out)
      have HGD := Aside0.mk (gb_trans (gb_of HBA.out (some M)) (gb_below HGC.out HBD.out))
      have HMD2 : Aside0 (markV (addT l bs) bs = d0) := ⟨by rw [← HMK.out]; exact HMD.out⟩
      clear y0 y1 y2 y3
      obtain ⟨y0, y1, y2, y3⟩ := blk4 HZD.out
      rcases HRR.out with ⟨r1, r2, r3, rfl⟩ | ⟨rfl, r2, r3⟩
      · have hss : s.size ≤ 524288 := by
          have h1 := run_len (L8 bs) st (by rw [L8_len]; exact r1)
          rw [← r3, L8_len] at h1
          omega
        obtain ⟨mk2, hmk2⟩ : ∃ mk2, mk2 = markV (addT (addT l bs) s) s := ⟨_, rfl⟩
        have HMC2 : Aside0 (∀ wx, Bk wx b M (addT l bs) → Calls Try.prog 36 #[.pointer (some ⟨b, 0, none⟩), .string s] wx fun e w' => e = .returned (.string mk2) ∧ Bk w' b M (addT (addT l bs) s) ∧ wx.grownBy w' (some M)) := ⟨fun wx h => by rw [hmk2]; exact mark_calls b M (addT l bs) s wx h (by have := HL.out; have := addT_length l bs; omega) (by unfold maxLen; omega)⟩
        have HMK2 := Aside0.mk hmk2
        have HR1 := Aside0.mk r1
        have HR3 := Aside0.mk r3
        have HLE : Aside0 ((addT (addT l bs) s).length ≤ l.length + 2) := ⟨by have := addT_length l bs; have := addT_length (addT l bs) s; omega⟩
        have HMX : Aside0 (markV (addT (addT l bs) s) bs = d0) := ⟨by rw [(Ext.add (addT l bs) s).mark (addT_mem l bs)]; exact HMD2.out⟩
        clear hmk2 r1 r2 r3 HMC
        by_cases hme : mk2 = d1
        · have hmb2 : (mk2.toList == d1.toList) = true := beq_iff_eq.mpr (by rw [hme])
          have HME := Aside0.mk hme
          clear hme
          go_upto_region 8 with fail
          go_region_held3 (fun w' => w'.cell? ⟨w.heap.size, 1, none⟩ = some (.string d1)) (go_keep) (first | (go_at_call 36; ((with_reducible refine (HMC2.out _ ?hbk1).mono ?_); (case hbk1 => exact HBKD.out.below (by repeat (first | (with_reducible first | exact Below.refl _ _ | apply pw_below_drewN | apply below_drew1) | exact Below.refl _ _))); rintro _ we ⟨rfl, hbk, hgb⟩; have HBE := Aside0.mk hbk; have HGE := Aside0.mk (gb_trans (by repeat (first | exact gb_refl _ _ | apply gb_drewN | apply gb_drew)) hgb : wd.grownBy we (some M)); clear hbk hgb; have e1 := cell_keep HGE.out (p := ⟨w.heap.size, 1, none⟩) HM.out y1)))
          go_wp2_with fail
          go_ret2
          exact ⟨s, 0, addT (addT l bs) s, rfl, .inr (.inr (.inr (.inr ⟨HRT.out, addT_keep _ _ _ (addT_mem _ _), HMX.out, HR1.out, HR3.out, addT_mem _ _, by rw [← HMK2.out]; exact HME.out, rfl⟩))), gb_trans HGD.out HGE.out, HBE.out, (Ext.add _ _).trans (Ext.add _ _), HLE.out⟩
        · have hmb2 : (mk2.toList == d1.toList) = false := beq_eq_false_iff_ne.mpr (fun h => hme (toL_inj h))
          have HME := Aside0.mk hme
          clear hme
          go_upto_region 8 with fail
          go_region_held3 (fun w' => w'.cell? ⟨w.heap.size, 1, none⟩ = some (.string d1)) (go_keep) (first | (go_at_call 36; ((with_reducible refine (HMC2.out _ ?hbk2).mono ?_); (case hbk2 => exact HBKD.out.below (by repeat (first | (with_reducible first | exact Below.refl _ _ | apply pw_below_drewN | apply below_drew1) | exact Below.refl _ _))); rintro _ we ⟨rfl, hbk, hgb⟩; have HBE := Aside0.mk hbk; have HGE := Aside0.mk (gb_trans (by repeat (first | exact gb_refl _ _ | apply gb_drewN | apply gb_drew)) hgb : wd.grownBy we (some M)); clear hbk hgb; have e1 := cell_keep HGE.out (p := ⟨w.heap.size, 1, none⟩) HM.out y1)))
          go_wp2_with fail
          go_ret2
          exact ⟨⟨#[]⟩, 6, addT (addT l bs) s, rfl, .inr (.inr (.inr (.inl ⟨HRT.out, addT_keep _ _ _ (addT_mem _ _), HMX.out, HR1.out, ⟨s, HR3.out, addT_mem _ _, by rw [← HMK2.out]; exact HME.out⟩, rfl, rfl⟩))), gb_trans HGD.out HGE.out, HBE.out, (Ext.add _ _).trans (Ext.add _ _), HLE.out⟩
      · have hno : ¬ (∀ x ∈ st, okB bs.size x) := fun h => r3 ⟨h, by have := HRT.out.2.2.2.2.2; have := HRT.out.2.2.2.1; omega⟩
        have HNO := Aside0.mk hno
        clear hno r3
        rcases r2 with rfl | rfl
        all_goals
          go_wp2_with fail
          go_ret2
        · exact ⟨⟨#[]⟩, 2, addT l bs, rfl, .inr (.inr (.inl ⟨HRT.out, addT_mem _ _, HMD2.out, HNO.out, rfl, .inl rfl⟩)), HGD.out, HBKD.out, Ext.add _ _, by have := addT_length l bs; omega⟩
        · exact ⟨⟨#[]⟩, 4, addT l bs, rfl, .inr (.inr (.inl ⟨HRT.out, addT_mem _ _, HMD2.out, HNO.out, rfl, .inr rfl⟩)), HGD.out, HBKD.out, Ext.add _ _, by have := addT_length l bs; omega⟩
    · have hmb : (mk.toList == d0.toList) = false := beq_eq_false_iff_ne.mpr (fun h => hmd (toL_inj h))
      have HMD := Aside0.mk hmd
      clear hmd
      go_region_held3 (fun w' => w'.cell? ⟨w.heap.size, 0, none⟩ = some (.string d0)) (go_keep) (first | (go_at_call 36; ((with_reducible refine (HMC.out _ ?hbk).mono ?_); (case hbk => exact HBKA.out.below (by repeat (first | (with_reducible first | exact Below.refl _ _ | apply pw_below_drewN | apply below_drew1) | exact Below.refl _ _))); rintro _ wc ⟨rfl, hbk, hgb⟩; have HBC := Aside0.mk hbk; have HGC := Aside0.mk (gb_trans (by repeat (first | exact gb_refl _ _ | apply gb_drewN | apply gb_drew)) hgb : wa.grownBy wc (some M)); clear hbk hgb; have e1 := cell_keep HGC.out (p := ⟨w.heap.size, 0, none⟩) HM.out y0)))
      go_wp2_with fail
      go_ret2
      exact ⟨⟨#[]⟩, 13, addT l bs, rfl, .inr (.inl ⟨HRT.out, addT_mem _ _, by rw [← HMK.out]; exact HMD.out, rfl, rfl⟩), gb_trans (gb_of HBA.out _) HGC.out, HBC.out, Ext.add _ _, by have := addT_length l bs; omega⟩
  · have hrv : rightV d0 d1 d2 st = false := decide_eq_false hrt
    rw [hrv] at HRI
    have HRT := Aside0.mk hrt
    clear hrt hrv
    go_wp2_with (go_at_call 24; go_loud ((with_reducible refine (HRI.out _ (Kd.C_below HR0.out HBW.out)).mono ?_); rintro _ wa ⟨rfl, hbb⟩; have HBA := Aside0.mk (below_step HBW.out hbb); clear hbb))
    go_ret2
    exact ⟨⟨#[]⟩, 1, l, rfl, .inl ⟨HRT.out, rfl, rfl, rfl⟩, gb_of HBA.out _, HB.out.below HBA.out, Ext.refl _, by omega⟩
end Go.Proofs.Ytjgelmfkoefclaa.PAll
