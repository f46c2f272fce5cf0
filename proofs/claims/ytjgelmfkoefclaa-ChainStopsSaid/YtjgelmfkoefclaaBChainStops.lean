/- The last part of the proof of the law ChainStops (texts of this session, joined by wip/tools/tail.py): every call of it answers true, and what it was handed reads behind the call as it did before. No condition. -/
import Derived.BigQuiet
import Derived.Deep.DeepMust
import Derived.RegionTactic
import Derived.Deep.RegionHeld3
import Derived.Test.YtjgelmfkoefclaaGivRun
import Derived.Test.YtjgelmfkoefclaaGivMarks
import Derived.Test.YtjgelmfkoefclaaGivCells
import Derived.Deep.RegionLaw
import Derived.Test.YtjgelmfkoefclaaSignLaw
import Derived.IntWalk
import Derived.Test.YtjgelmfkoefclaaMakeLaw
import Derived.Lib.LazyBuf
import Derived.Outline
import Derived.Test.YtjgelmfkoefclaaGivSort
import Derived.Deep.CutBlock
import Derived.Test.YtjgelmfkoefclaaTableLaw
import Derived.WalkMore
import Derived.Deep.LoopGhost
import Derived.Test.YtjgelmfkoefclaaRunLaw
import Derived.Test.YtjgelmfkoefclaaPAllx0
import Derived.ChangeAlike
import Derived.Test.YtjgelmfkoefclaaFlushLaw
import Derived.Test.YtjgelmfkoefclaaRead
import Derived.Test.YtjgelmfkoefclaaRows
import Derived.Test.YtjgelmfkoefclaaOpens
import Derived.WalkKit
import Derived.ProofKit
import Derived.OpenShut
import Derived.ShutString
import Derived.ChangeOld
import Derived.Below
import Derived.SizedLaws
import Derived.Lib.SmallJoins
-- from YtjgelmfkoefclaaGivApply
/- A delta is applied. -/
namespace Go.Proofs.Ytjgelmfkoefclaa.PAll
open Go.RowKit Go.Proofs.YtjgelmfkoefclaaW.PrintWords Go.Proofs.YtjgelmfkoefclaaW.PrintLast Go.Proofs.YtjgelmfkoefclaaW.PrintMore Go.Proofs.Ytjgelmfkoefclaa.Pure
set_option linter.unusedVariables false
set_option linter.unusedSimpArgs false
attribute [local go_sem] max2_int min2_int max_two min_two

/-- What a delta comes to, on a basis: five ways. -/
def ApplyR (l l' : List ByteArray) (bs d0 d1 : ByteArray) (d2 : Int) (st : List S54) (s : ByteArray) (er : Int) : Prop :=
  (¬ RightP d0 d1 d2 st ∧ s = ⟨#[]⟩ ∧ er = 1 ∧ l' = l) ∨
  (RightP d0 d1 d2 st ∧ bs ∈ l' ∧ markV l' bs ≠ d0 ∧ s = ⟨#[]⟩ ∧ er = 13) ∨
  (RightP d0 d1 d2 st ∧ bs ∈ l' ∧ markV l' bs = d0 ∧ ¬ (∀ x ∈ st, okB bs.size x) ∧ s = ⟨#[]⟩ ∧ (er = 2 ∨ er = 4)) ∨
  (RightP d0 d1 d2 st ∧ bs ∈ l' ∧ markV l' bs = d0 ∧ (∀ x ∈ st, okB bs.size x) ∧ (∃ t, L8 t = runL (L8 bs) st ∧ t ∈ l' ∧ markV l' t ≠ d1) ∧ s = ⟨#[]⟩ ∧ er = 6) ∨
  (RightP d0 d1 d2 st ∧ bs ∈ l' ∧ markV l' bs = d0 ∧ (∀ x ∈ st, okB bs.size x) ∧ L8 s = runL (L8 bs) st ∧ s ∈ l' ∧ markV l' s = d1 ∧ er = 0)
/-- A map's block has no cells. -/
theorem cell_nomap {w : World} {p : Addr} {v : Value} {es : Array _} {ck : Nat} (h : w.cell? p = some v) (hm : w.heap[p.block]? = some (.map es ck)) : False := by
  unfold World.cell? at h
  rw [hm] at h
  cases h
theorem cell_gbM {w w' : World} {b M : Nat} {l : List ByteArray} {p : Addr} {v : Value} (h : w.cell? p = some v) (hB : Bk w b M l) (hg : w.grownBy w' (some M)) : w'.cell? p = some v := by
  obtain ⟨es, ck, hm, _⟩ := hB.own
  have hne : p.block ≠ M := fun e => cell_nomap h (by rw [e]; exact hm)
  exact (World.cell?_of_block (a := p) (hg.block p.block (World.block_lt_of_cell? w p h) (fun e => by injection e with e; exact hne e))).trans h
theorem C_gbM {w w' : World} {b M : Nat} {l : List ByteArray} {A : Option Addr} {n : Nat} {xs : List S54} (h : Kd.C k54 w A n xs) (hB : Bk w b M l) (hg : w.grownBy w' (some M)) : Kd.C k54 w' A n xs := by
  obtain ⟨h1, h2, h3⟩ := h
  refine ⟨h1, h2, fun hn => ?_⟩
  obtain ⟨ad, e, hc⟩ := h3 hn
  refine ⟨ad, e, fun j p hp => ?_⟩
  obtain ⟨c, c1, c2, c3⟩ := hc j p hp
  obtain rfl := k54_open c2
  exact ⟨_, c1, k54_mk w' p, fun i u hu => cell_gbM (c3 i u hu) hB hg⟩
theorem toL_iff (s t : ByteArray) : s.toList = t.toList ↔ s = t := ⟨toL_inj, fun h => by rw [h]⟩

set_option maxHeartbeats 4000000 in
set_option maxRecDepth 100000 in
theorem apply_calls (b M : Nat) (l : List ByteArray) (bs d0 d1 : ByteArray) (d2 : Int) (A0 : Option Addr) (c0 : Nat) (st : List S54) (w : World) (hr0 : Kd.C k54 w A0 st.length st) (hc0 : st.length ≤ c0) (hin : In64 st) (hln : st.length ≤ 1000000) (hbs : bs.size ≤ 1000000) (hsz : ∀ x ∈ st, x.f2.size ≤ maxLen) (hB : Bk w b M l) (hl : l.length + 2 < 10000000) :
    Calls Try.prog 28 #[.pointer (some ⟨b, 0, none⟩), .string bs, .agg #[.string d0, .string d1, .int .i64 d2, .slice A0 st.length c0]] w fun e w' => ∃ (s : ByteArray) (er : Int) (l' : List ByteArray), e = .returned (.tuple #[.string s, .int .i64 er]) ∧ ApplyR l l' bs d0 d1 d2 st s er ∧ w.grownBy w' (some M) ∧ Bk w' b M l' ∧ Ext l l' ∧ l'.length ≤ l.length + 2 := by
  have HRI := Aside0.mk (fun wx (hr : Kd.C k54 wx A0 st.length st) => delta_Right.calls (st.length + 3) d0 d1 d2 A0 c0 st (rightV d0 d1 d2 st) wx hr hc0 (Right_f d0 d1 d2 st hin hln _ (by omega)))
  have HRU := Aside0.mk (fun wx (hr : Kd.C k54 wx A0 st.length st) => drun_calls bs A0 c0 st wx hr hc0 hin hln hbs hsz)
  have HR0 := Aside0.mk hr0
  obtain ⟨W1, hW1⟩ : ∃ W1, W1 = w.alloc (.cells #[.string d0, .string d1, .int .i64 d2, .slice A0 st.length c0] 24 (0, 0)) := ⟨_, rfl⟩
  have HZ : Aside0 (W1.heap[w.heap.size]? = some (.cells #[.string d0, .string d1, .int .i64 d2, .slice A0 st.length c0] 24 (0, 0))) := ⟨by rw [hW1]; exact blk_new _ _⟩
  have HBW : Aside0 (Below w.heap.size w W1) := ⟨by rw [hW1]; exact below_alloc (Below.refl _ _) _⟩
  have HB := Aside0.mk hB
  have HM : Aside0 (M < w.heap.size) := ⟨hB.lt⟩
  have HL := Aside0.mk hl
  have HBSZ : Aside0 (bs.size ≤ maxLen) := ⟨by unfold maxLen; omega⟩
  have HW1 := Aside0.mk hW1
  clear hW1 hr0 hc0 hin hsz hB hl
  obtain ⟨y0, y1, y2, y3⟩ := blk4 HZ.out
  go_enter Try.func28, Try.ntmps28
  go_upto_region 1 with fail
  rw [← HW1.out]
  by_cases hrt : RightP d0 d1 d2 st
  · have hrv : rightV d0 d1 d2 st = true := decide_eq_true hrt
    rw [hrv] at HRI
    have HRT := Aside0.mk hrt
    clear hrt hrv
    go_upto_region 3 with (go_at_call 24; go_loud ((with_reducible refine (HRI.out _ (Kd.C_below HR0.out HBW.out)).mono ?_); rintro _ wa ⟨rfl, hbb⟩; have HBA := Aside0.mk (below_step HBW.out hbb); have HZA := Aside0.mk (blk_below HZ.out hbb); clear hbb))
    clear y0 y1 y2 y3
    obtain ⟨y0, y1, y2, y3⟩ := blk4 HZA.out
    obtain ⟨mk, hmk⟩ : ∃ mk, mk = markV (addT l bs) bs := ⟨_, rfl⟩
    have HMK := Aside0.mk hmk
    have HMC : Aside0 (∀ wx, Bk wx b M l → Calls Try.prog 36 #[.pointer (some ⟨b, 0, none⟩), .string bs] wx fun e w' => e = .returned (.string mk) ∧ Bk w' b M (addT l bs) ∧ wx.grownBy w' (some M)) := ⟨fun wx h => by rw [hmk]; exact mark_calls b M l bs wx h (by have := HL.out; omega) HBSZ.out⟩
    have HBKA := Aside0.mk (HB.out.below HBA.out)
    clear hmk
    by_cases hmd : mk = d0
    · have hmb : (mk.toList == d0.toList) = true := beq_iff_eq.mpr (by rw [hmd])
      have HMD := Aside0.mk hmd
      clear hmd
      go_region_held3 (fun w' => w'.cell? ⟨w.heap.size, 0, none⟩ = some (.string d0)) (go_keep) (first | (go_at_call 36; ((with_reducible refine (HMC.out _ ?hbk).mono ?_); (case hbk => exact HBKA.out.below (by repeat (first | (with_reducible first | exact Below.refl _ _ | apply pw_below_drewN | apply below_drew1) | exact Below.refl _ _))); rintro _ wc ⟨rfl, hbk, hgb⟩; have HBC := Aside0.mk hbk; have HGC := Aside0.mk (gb_trans (by repeat (first | exact gb_refl _ _ | apply gb_drewN | apply gb_drew)) hgb : wa.grownBy wc (some M)); clear hbk hgb; have e1 := cell_keep HGC.out (p := ⟨w.heap.size, 0, none⟩) HM.out y0)))
      have HZC := Aside0.mk (blk_gb HGC.out HZA.out (by have := HM.out; omega))
      have HRC := Aside0.mk (C_gbM (Kd.C_below HR0.out HBA.out) HBKA.out HGC.out)
      clear y0 y1 y2 y3 e1
      obtain ⟨y0, y1, y2, y3⟩ := blk4 HZC.out
      go_upto_region 6 with (go_at_call 39; go_loud ((with_reducible refine (HRU.out _ HRC.out).mono ?_); rintro _ wd ⟨s, er, rfl, hrr, hbb⟩; have HRR := Aside0.mk hrr; have HBD := Aside0.mk hbb; clear hrr hbb))
      have HZD := Aside0.mk (blk_below HZC.out HBD.out)
      have HBKD := Aside0.mk (HBC.out.below HBD.out)
      have HGD := Aside0.mk (gb_trans (gb_of HBA.out (some M)) (gb_below HGC.out HBD.out))
      have HMD2 : Aside0 (markV (addT l bs) bs = d0) := ⟨by rw [← HMK.out]; exact HMD.out⟩
      clear y0 y1 y2 y3
      obtain ⟨y0, y1, y2, y3⟩ := blk4 HZD.out
      rcases HRR.out with ⟨r1, r2, r3, rfl⟩ | ⟨rfl, r2, r3⟩
      · have hss : s.size ≤ 524288 := by
          have h1 := run_len (L8 bs) st (by rw [L8_len]; exact r1)
          rw [← r3, L8_len] at h1
          omega
        obtain ⟨mk2, hmk2⟩ : ∃ mk2, mk2 = markV (addT (addT l bs) s) s := ⟨_, rfl⟩
        have HMC2 : Aside0 (∀ wx, Bk wx b M (addT l bs) → Calls Try.prog 36 #[.pointer (some ⟨b, 0, none⟩), .string s] wx fun e w' => e = .returned (.string mk2) ∧ Bk w' b M (addT (addT l bs) s) ∧ wx.grownBy w' (some M)) := ⟨fun wx h => by rw [hmk2]; exact mark_calls b M (addT l bs) s wx h (by have := HL.out; have := addT_length l bs; omega) (by unfold maxLen; omega)⟩
        have HMK2 := Aside0.mk hmk2
        have HR1 := Aside0.mk r1
        have HR3 := Aside0.mk r3
        have HLE : Aside0 ((addT (addT l bs) s).length ≤ l.length + 2) := ⟨by have := addT_length l bs; have := addT_length (addT l bs) s; omega⟩
        have HMX : Aside0 (markV (addT (addT l bs) s) bs = d0) := ⟨by rw [(Ext.add (addT l bs) s).mark (addT_mem l bs)]; exact HMD2.out⟩
        clear hmk2 r1 r2 r3 HMC
        by_cases hme : mk2 = d1
        · have hmb2 : (mk2.toList == d1.toList) = true := beq_iff_eq.mpr (by rw [hme])
          have HME := Aside0.mk hme
          clear hme
          go_upto_region 8 with fail
          go_region_held3 (fun w' => w'.cell? ⟨w.heap.size, 1, none⟩ = some (.string d1)) (go_keep) (first | (go_at_call 36; ((with_reducible refine (HMC2.out _ ?hbk1).mono ?_); (case hbk1 => exact HBKD.out.below (by repeat (first | (with_reducible first | exact Below.refl _ _ | apply pw_below_drewN | apply below_drew1) | exact Below.refl _ _))); rintro _ we ⟨rfl, hbk, hgb⟩; have HBE := Aside0.mk hbk; have HGE := Aside0.mk (gb_trans (by repeat (first | exact gb_refl _ _ | apply gb_drewN | apply gb_drew)) hgb : wd.grownBy we (some M)); clear hbk hgb; have e1 := cell_keep HGE.out (p := ⟨w.heap.size, 1, none⟩) HM.out y1)))
          go_wp2_with fail
          go_ret2
          exact ⟨s, 0, addT (addT l bs) s, rfl, .inr (.inr (.inr (.inr ⟨HRT.out, addT_keep _ _ _ (addT_mem _ _), HMX.out, HR1.out, HR3.out, addT_mem _ _, by rw [← HMK2.out]; exact HME.out, rfl⟩))), gb_trans HGD.out HGE.out, HBE.out, (Ext.add _ _).trans (Ext.add _ _), HLE.out⟩
        · have hmb2 : (mk2.toList == d1.toList) = false := beq_eq_false_iff_ne.mpr (fun h => hme (toL_inj h))
          have HME := Aside0.mk hme
          clear hme
          go_upto_region 8 with fail
          go_region_held3 (fun w' => w'.cell? ⟨w.heap.size, 1, none⟩ = some (.string d1)) (go_keep) (first | (go_at_call 36; ((with_reducible refine (HMC2.out _ ?hbk2).mono ?_); (case hbk2 => exact HBKD.out.below (by repeat (first | (with_reducible first | exact Below.refl _ _ | apply pw_below_drewN | apply below_drew1) | exact Below.refl _ _))); rintro _ we ⟨rfl, hbk, hgb⟩; have HBE := Aside0.mk hbk; have HGE := Aside0.mk (gb_trans (by repeat (first | exact gb_refl _ _ | apply gb_drewN | apply gb_drew)) hgb : wd.grownBy we (some M)); clear hbk hgb; have e1 := cell_keep HGE.out (p := ⟨w.heap.size, 1, none⟩) HM.out y1)))
          go_wp2_with fail
          go_ret2
          exact ⟨⟨#[]⟩, 6, addT (addT l bs) s, rfl, .inr (.inr (.inr (.inl ⟨HRT.out, addT_keep _ _ _ (addT_mem _ _), HMX.out, HR1.out, ⟨s, HR3.out, addT_mem _ _, by rw [← HMK2.out]; exact HME.out⟩, rfl, rfl⟩))), gb_trans HGD.out HGE.out, HBE.out, (Ext.add _ _).trans (Ext.add _ _), HLE.out⟩
      · have hno : ¬ (∀ x ∈ st, okB bs.size x) := fun h => r3 ⟨h, by have := HRT.out.2.2.2.2.2; have := HRT.out.2.2.2.1; omega⟩
        have HNO := Aside0.mk hno
        clear hno r3
        rcases r2 with rfl | rfl
        all_goals
          go_wp2_with fail
          go_ret2
        · exact ⟨⟨#[]⟩, 2, addT l bs, rfl, .inr (.inr (.inl ⟨HRT.out, addT_mem _ _, HMD2.out, HNO.out, rfl, .inl rfl⟩)), HGD.out, HBKD.out, Ext.add _ _, by have := addT_length l bs; omega⟩
        · exact ⟨⟨#[]⟩, 4, addT l bs, rfl, .inr (.inr (.inl ⟨HRT.out, addT_mem _ _, HMD2.out, HNO.out, rfl, .inr rfl⟩)), HGD.out, HBKD.out, Ext.add _ _, by have := addT_length l bs; omega⟩
    · have hmb : (mk.toList == d0.toList) = false := beq_eq_false_iff_ne.mpr (fun h => hmd (toL_inj h))
      have HMD := Aside0.mk hmd
      clear hmd
      go_region_held3 (fun w' => w'.cell? ⟨w.heap.size, 0, none⟩ = some (.string d0)) (go_keep) (first | (go_at_call 36; ((with_reducible refine (HMC.out _ ?hbk).mono ?_); (case hbk => exact HBKA.out.below (by repeat (first | (with_reducible first | exact Below.refl _ _ | apply pw_below_drewN | apply below_drew1) | exact Below.refl _ _))); rintro _ wc ⟨rfl, hbk, hgb⟩; have HBC := Aside0.mk hbk; have HGC := Aside0.mk (gb_trans (by repeat (first | exact gb_refl _ _ | apply gb_drewN | apply gb_drew)) hgb : wa.grownBy wc (some M)); clear hbk hgb; have e1 := cell_keep HGC.out (p := ⟨w.heap.size, 0, none⟩) HM.out y0)))
      go_wp2_with fail
      go_ret2
      exact ⟨⟨#[]⟩, 13, addT l bs, rfl, .inr (.inl ⟨HRT.out, addT_mem _ _, by rw [← HMK.out]; exact HMD.out, rfl, rfl⟩), gb_trans (gb_of HBA.out _) HGC.out, HBC.out, Ext.add _ _, by have := addT_length l bs; omega⟩
  · have hrv : rightV d0 d1 d2 st = false := decide_eq_false hrt
    rw [hrv] at HRI
    have HRT := Aside0.mk hrt
    clear hrt hrv
    go_wp2_with (go_at_call 24; go_loud ((with_reducible refine (HRI.out _ (Kd.C_below HR0.out HBW.out)).mono ?_); rintro _ wa ⟨rfl, hbb⟩; have HBA := Aside0.mk (below_step HBW.out hbb); clear hbb))
    go_ret2
    exact ⟨⟨#[]⟩, 1, l, rfl, .inl ⟨HRT.out, rfl, rfl, rfl⟩, gb_of HBA.out _, HB.out.below HBA.out, Ext.refl _, by omega⟩
end Go.Proofs.Ytjgelmfkoefclaa.PAll

-- from YtjgelmfkoefclaaGivSign
/- A text's signature. -/
namespace Go.Proofs.Ytjgelmfkoefclaa.PAll
open Go.RowKit Go.Proofs.YtjgelmfkoefclaaW.PrintWords Go.Proofs.YtjgelmfkoefclaaW.PrintLast Go.Proofs.YtjgelmfkoefclaaW.PrintMore
set_option linter.unusedVariables false
set_option linter.unusedSimpArgs false
attribute [local go_sem] max2_int min2_int max_two min_two

set_option maxHeartbeats 2000000 in
set_option maxRecDepth 100000 in
theorem sign_bad (bp : Value) (s : ByteArray) (bl : Int) (w : World) (h : bl < 16 ∨ 1024 < bl) :
    Calls Try.prog 34 #[bp, .string s, .int .i64 bl] w fun e w' => e = .returned (.tuple #[.agg #[.int .i64 0, .int .i64 0, .slice none 0 0, .slice none 0 0], .int .i64 1]) ∧ Below w.heap.size w w' := by
  have HF := Aside0.mk (fun wx => sign_fits.calls bl false wx (fits_no bl h))
  clear h
  obtain ⟨W1, hW1⟩ : ∃ W1, W1 = w.alloc (.cells #[.int .i64 0, .int .i64 0, .slice none 0 0, .slice none 0 0] 71 (0, 0)) := ⟨_, rfl⟩
  have HZ : Aside0 (W1.heap[w.heap.size]? = some (.cells #[.int .i64 0, .int .i64 0, .slice none 0 0, .slice none 0 0] 71 (0, 0))) := ⟨by rw [hW1]; exact blk_new _ _⟩
  have HBW : Aside0 (Below w.heap.size w W1) := ⟨by rw [hW1]; exact below_alloc (Below.refl _ _) _⟩
  have HW1 := Aside0.mk hW1
  have HW1S : Aside0 (W1.heap.size = w.heap.size + 1) := ⟨by rw [hW1]; simp⟩
  clear hW1
  go_enter Try.func34, Try.ntmps34
  go_upto_region 1 with fail
  rw [← HW1.out]
  go_wp2_with (go_at_call 44; go_loud (refine (HF.out _).mono ?_; rintro _ wa ⟨rfl, hbb⟩; have HBB := Aside0.mk (below_step HBW.out hbb.below); have HZA := Aside0.mk (blk_below HZ.out hbb.below); clear hbb; obtain ⟨y0, y1, y2, y3⟩ := blk4 HZA.out; obtain ⟨z0, z1, z2, z3⟩ := blk4f HZA.out))
  refine bodyPost_ret (results_ct rfl _ _ w.heap.size 71 #[.int .i64 0, .int .i64 0, .slice none 0 0, .slice none 0 0] (0, 0) _ rfl ?blk Try.underlying71 rfl (by kernel_rfl)) rfl ⟨rfl, ?bel⟩
  case blk => exact blk_put (cs := #[.int .i64 0, .int .i64 0, .slice none 0 0, .slice none 0 0]) (blk_put (cs := #[.int .i64 0, .int .i64 0, .slice none 0 0, .slice none 0 0]) (blk_put (cs := #[.int .i64 0, .int .i64 0, .slice none 0 0, .slice none 0 0]) (blk_put (cs := #[.int .i64 0, .int .i64 0, .slice none 0 0, .slice none 0 0]) HZA.out 0 _ rfl) 1 _ rfl) 2 _ rfl) 3 _ rfl
  case bel => exact (((HBB.out.setCell (p := ⟨w.heap.size, 0, none⟩) (Nat.le_refl _) _).setCell (p := ⟨w.heap.size, 1, none⟩) (Nat.le_refl _) _).setCell (p := ⟨w.heap.size, 2, none⟩) (Nat.le_refl _) _).setCell (p := ⟨w.heap.size, 3, none⟩) (Nat.le_refl _) _

set_option maxHeartbeats 2000000 in
set_option maxRecDepth 100000 in
theorem sign_calls (b M : Nat) (l : List ByteArray) (s : ByteArray) (bl : Nat) (w : World) (hb : Bk w b M l) (hl : l.length + nB s.size bl ≤ 9000000) (hs : s.size ≤ 524288) (h0 : 16 ≤ bl) (h1 : bl ≤ 1024) :
    Calls Try.prog 34 #[.pointer (some ⟨b, 0, none⟩), .string s, .int .i64 bl] w fun e w' => ∃ (l' : List ByteArray) (vW vS : Value) (ws : List Int), e = .returned (.tuple #[.agg #[.int .i64 bl, .int .i64 s.size, vW, vS], .int .i64 0]) ∧ Ext l l' ∧ l'.length ≤ l.length + nB s.size bl ∧ (ws.length = nB s.size bl ∧ ∀ x ∈ ws, 0 ≤ x ∧ x ≤ 4294967295) ∧ (∀ j, j < nB s.size bl → blockV s bl j ∈ l') ∧ Sd w w' b M l' vW vS ws ((blocksV s bl).map (markV l')) := by
  have HF := Aside0.mk (fun wx => sign_fits.calls bl true wx (fits_yes bl (by omega) (by omega)))
  have HC := Aside0.mk (fun wx => sign_count.calls s.size bl _ wx (count_f s.size bl (by omega) (by omega) (by omega)))
  have HB := Aside0.mk hb
  clear hb
  obtain ⟨W1, hW1⟩ : ∃ W1, W1 = w.alloc (.cells #[.int .i64 0, .int .i64 0, .slice none 0 0, .slice none 0 0] 71 (0, 0)) := ⟨_, rfl⟩
  have HZ : Aside0 (W1.heap[w.heap.size]? = some (.cells #[.int .i64 0, .int .i64 0, .slice none 0 0, .slice none 0 0] 71 (0, 0))) := ⟨by rw [hW1]; exact blk_new _ _⟩
  have HBW : Aside0 (Below w.heap.size w W1) := ⟨by rw [hW1]; exact below_alloc (Below.refl _ _) _⟩
  have HW1 := Aside0.mk hW1
  have HW1S : Aside0 (W1.heap.size = w.heap.size + 1) := ⟨by rw [hW1]; simp⟩
  clear hW1
  go_enter Try.func34, Try.ntmps34
  go_upto_region 1 with fail
  rw [← HW1.out]
  go_upto_region 6 with (go_at_call 44; go_loud (refine (HF.out _).mono ?_; rintro _ wa ⟨rfl, hbb⟩; have HBB := Aside0.mk (below_step HBW.out hbb.below); have HZA := Aside0.mk (blk_below HZ.out hbb.below); have HSA := Aside0.mk hbb; clear hbb))
  have hsz : wa.heap.size = w.heap.size + 1 := by
    obtain ⟨q, hq⟩ := HSA.out.out
    rw [hq, ← HW1S.out]; rfl
  rw [hsz]
  obtain ⟨W2, hW2⟩ : ∃ W2, W2 = wa.alloc (.cells #[.int .i64 bl, .int .i64 s.size, .slice none 0 0, .slice none 0 0] 71 (0, 0)) := ⟨_, rfl⟩
  have HS2 : Aside0 (Sg w W2 b M l bl s.size (.slice none 0 0) (.slice none 0 0) [] []) := ⟨by
    have hn := blk_new wa (.cells #[.int .i64 bl, .int .i64 s.size, .slice none 0 0, .slice none 0 0] 71 (0, 0))
    rw [hsz] at hn
    rw [hW2]
    exact ⟨gb_of (below_alloc HBB.out _) _, HB.out.below (below_alloc HBB.out _), ⟨HB.out.ltb, HB.out.lt⟩, blk_alloc HZA.out _, hn, Kd.R_nil _ _ _ _ _, Kd.R_nil _ _ _ _ _⟩⟩
  rw [← hW2]
  clear hW2 hsz
  go_wp2_with (go_at_call 45; go_loud (refine (HC.out _).mono ?_; rintro _ wb ⟨rfl, hbb⟩; have HSB := Aside0.mk (HS2.out.below hbb.below); clear hbb))
  go_loopw [27] (fun v27 wr => ∃ (i : Nat) (l' : List ByteArray) (vW vS : Value) (ws : List Int), v27 = .int .i64 i ∧ i ≤ nB s.size bl ∧ Aside0 (l'.length ≤ l.length + i) ∧ Aside0 (Ext l l') ∧ Aside0 (ws.length = i ∧ ∀ x ∈ ws, 0 ≤ x ∧ x ≤ 4294967295) ∧ Aside0 (∀ j, j < i → blockV s bl j ∈ l') ∧ Aside0 (Sg w wr b M l' bl s.size vW vS ws ((List.range i).map (fun j => markV l' (blockV s bl j))))) (fun v27 _ => nB s.size bl - (intOf v27).toNat)
  case atStart => exact ⟨0, l, _, _, [], rfl, Nat.zero_le _, ⟨by omega⟩, ⟨Ext.refl _⟩, ⟨rfl, fun x hx => by cases hx⟩, ⟨fun j hj => by omega⟩, HSB⟩
  case round =>
    obtain ⟨i, l', vW, vS, ws, rfl, hi, HLL, HEX, HWS, HMEM, HSG⟩ := hrel
    by_cases hlt : i < nB s.size bl
    · have hb1 : decide (i < nB s.size bl) = true := decide_eq_true hlt
      have hib : i * bl ≤ s.size := Nat.le_of_lt (nB_lt (by omega) hlt)
      have hn9 : i ≤ 1000000 := by have := nB_le s.size bl (by omega); omega
      have HPC := Aside0.mk (fun wx => sign_piece.calls s i bl _ wx (piece_f s bl i (by omega) (by omega) hib hn9))
      obtain ⟨p, hp⟩ : ∃ p, p = blockV s bl i := ⟨_, rfl⟩
      have hp1 : p.size ≤ 1024 := by rw [hp]; exact Nat.le_trans (blockV_size s bl i) h1
      rw [← hp] at HPC
      obtain ⟨r, hr, hr0, hr1⟩ := roll_f p (by omega) 2000000 (by omega)
      have HRC := Aside0.mk (fun wx => roll_Sum.calls 2000000 p r wx hr)
      have HP := Aside0.mk hp
      have HR := Aside0.mk (And.intro hr0 hr1)
      clear hp hr hr0 hr1 hib
      go_upto_region 10 with (go_at_call 46; go_loud (refine (HPC.out _).mono ?_; rintro _ wc ⟨rfl, hbb⟩; have HSC := Aside0.mk (HSG.out.below hbb); clear hbb))
      obtain ⟨ss, hss⟩ : ∃ ss, ss = (List.range i).map (fun j => markV l' (blockV s bl j)) := ⟨_, rfl⟩
      rw [← hss] at HSC
      have HSS := Aside0.mk hss
      have HSL : Aside0 (ss.length ≤ 1000000) := ⟨by rw [hss]; simp; omega⟩
      have HPM : Aside0 (p.size ≤ maxLen) := ⟨by unfold maxLen; omega⟩
      clear hss
      have HHL : Aside0 (w.heap.size + 2 ≤ wc.heap.size) := ⟨blk_lt HSC.out.g⟩
      have HWL : Aside0 (ws.length ≤ 1000000) := ⟨by have := HWS.out.1; omega⟩
      go_cut [9] (fun v9 wz => ∃ (v1 : Value), v9 = .int .i64 i ∧ Aside0 (Sg w wz b M l' bl s.size v1 vS (ws ++ [r]) ss))
      case first =>
        obtain ⟨g0, g1, g2, g3⟩ := blk4 HSC.out.g
        go_region_law (first | (go_simp; go_at_call 47; (with_reducible refine (HRC.out _).mono ?_); rintro _ wd ⟨rfl, hbb⟩; have HSD := Aside0.mk (HSC.out.below (below_step (below_drew1 (Below.refl _ _)) hbb.below)); clear hbb; obtain ⟨d0, d1, d2, d3⟩ := blk4 HSD.out.g; have dx2 : ∀ X, (wd.alloc X).cell? ⟨w.heap.size + 1, 2, none⟩ = some vW := fun X => (blk4 (blk_alloc HSD.out.g X)).2.2.1) | (refine Kd.R_append_step (Kd.int .i64) (w0 := wd) (W := wd) (w.heap.size + 2) ?aW (.tmp 35) (.tmp 38) 69 3 (.int .i64 0) 8 ?aO Try.underlying69 info3 (by decide) (by decide) (by decide) vW ws r [.int .i64 r] (fun _ => True) (fun _ => False) ?aS ?aX rfl (fun _ hk => hk.elim) (fun _ _ => trivial) HSD.out.rw_ (Below.refl _ _) (blk_lt HSD.out.g) ?aL ?_; (case aW => rfl); (case aO => rfl); (case aS => rfl); (case aX => rfl); (case aL => have := HWL.out; omega); intro v1 w1 hR1 hB1 hG1 hO1; obtain ⟨A1, c1, hv1⟩ := Kd.R_slice hR1; rw [List.length_append, List.length_singleton] at hv1; subst hv1; have HPUT := Aside0.mk (HSD.out.putW hR1 hG1 hO1); obtain ⟨e0, e1, e2, e3⟩ := blk4 (blk_grown HSD.out.g hG1 (fun e => by have := Kd.R_base HSD.out.rw_ _ e.symm; omega)); obtain ⟨f0, f1, f2, f3⟩ := blk4f (blk_grown HSD.out.g hG1 (fun e => by have := Kd.R_base HSD.out.rw_ _ e.symm; omega)); clear hR1 hB1 hG1 hO1))
        all_goals
          go_wp2_with fail
          go_meet
          case rel => exact ⟨_, rfl, by first | exact HPUT | exact ⟨HPUT.out.below (below_drew1 (Below.refl _ _))⟩⟩
      case rest =>
        obtain ⟨v1, rfl, HSE⟩ := hcut
        go_upto_region 11 with fail
        obtain ⟨g0, g1, g2, g3⟩ := blk4 HSE.out.g
        go_region_law (first | (go_simp; go_at_call 36; (with_reducible refine (mark_calls b M l' p _ (HSE.out.bk.below (below_drew1 (Below.refl _ _))) (by have := HLL.out; have := hi; omega) HPM.out).mono ?_); rintro _ wf ⟨rfl, hbk, hgb⟩; have HSF := Aside0.mk ((HSE.out.below (below_drew1 (Below.refl _ _))).mark hgb hbk); clear hbk hgb; obtain ⟨d0, d1, d2, d3⟩ := blk4 HSF.out.g; have dx3 : ∀ X, (wf.alloc X).cell? ⟨w.heap.size + 1, 3, none⟩ = some vS := fun X => (blk4 (blk_alloc HSF.out.g X)).2.2.2) | (refine Kd.R_append_step Kd.string (w0 := wf) (W := wf) (w.heap.size + 2) ?aW (.tmp 42) (.tmp 46) 36 9 (.string ⟨#[]⟩) 16 ?aO Try.underlying36 info9 (by decide) (by decide) (by decide) vS ss (markV (addT l' p) p) [.string (markV (addT l' p) p)] (fun _ => True) (fun _ => False) ?aS ?aX rfl (fun _ hk => hk.elim) (fun _ _ => trivial) HSF.out.rs (Below.refl _ _) (blk_lt HSF.out.g) ?aL ?_; (case aW => rfl); (case aO => rfl); (case aS => rfl); (case aX => rfl); (case aL => have := HSL.out; omega); intro v1 w1 hR1 hB1 hG1 hO1; obtain ⟨A1, c1, hv1⟩ := Kd.R_slice hR1; rw [List.length_append, List.length_singleton] at hv1; subst hv1; have HPUT := Aside0.mk (HSF.out.putS hR1 hG1 hO1); obtain ⟨e0, e1, e2, e3⟩ := blk4 (blk_grown HSF.out.g hG1 (fun e => by have := Kd.R_base HSF.out.rs _ e.symm; omega)); obtain ⟨f0, f1, f2, f3⟩ := blk4f (blk_grown HSF.out.g hG1 (fun e => by have := Kd.R_base HSF.out.rs _ e.symm; omega)); clear hR1 hB1 hG1 hO1))
        all_goals
          go_wp2_with fail
          go_roundw
          case rel =>
            have hadd := addT_length l' p
            have hll := HLL.out
            refine ⟨i + 1, addT l' p, v1, .slice A1 (ss.length + 1) c1, ws ++ [r], by go_num, by omega, ⟨by omega⟩, ⟨HEX.out.trans (Ext.add _ _)⟩, ⟨?_⟩, ⟨?_⟩, ⟨?_⟩⟩
            · obtain ⟨h1, h2⟩ := HWS.out
              refine ⟨by rw [List.length_append, List.length_singleton, h1], fun x hx => ?_⟩
              rcases List.mem_append.mp hx with hx | hx
              · exact h2 x hx
              · rw [List.mem_singleton.mp hx]; exact HR.out
            · intro j hj
              rcases Nat.lt_or_ge j i with h | h
              · exact addT_keep _ _ _ (HMEM.out j h)
              · obtain rfl : j = i := by omega
                rw [← HP.out]; exact addT_mem _ _
            · have e : (List.range (i + 1)).map (fun j => markV (addT l' p) (blockV s bl j)) = ss ++ [markV (addT l' p) p] := by
                rw [List.range_succ, List.map_append, HSS.out]
                congr 1
                · apply List.map_congr_left
                  intro j hj
                  exact Ext.mark (Ext.add _ _) (HMEM.out j (List.mem_range.mp hj))
                · rw [HP.out]; rfl
              rw [e]; exact (by first | exact HPUT.out | exact HPUT.out.below (below_drew1 (Below.refl _ _)))
          case measure => simp [intOf]; omega
    · have hie : i = nB s.size bl := by omega
      subst hie
      obtain ⟨A1, c1, rfl⟩ := Kd.R_slice HSG.out.rw_
      obtain ⟨A2, c2, hv2⟩ := Kd.R_slice HSG.out.rs
      rw [List.length_map, List.length_range] at hv2
      subst hv2
      obtain ⟨g0, g1, g2, g3⟩ := blk4 HSG.out.g
      obtain ⟨y0, y1, y2, y3⟩ := blk4 HSG.out.z
      obtain ⟨z0, z1, z2, z3⟩ := blk4f HSG.out.z
      go_wp2_with fail
      refine bodyPost_ret (results_ct rfl _ _ w.heap.size 71 #[.int .i64 bl, .int .i64 s.size, .slice A1 ws.length c1, .slice A2 (nB s.size bl) c2] (0, 0) _ rfl ?blk Try.underlying71 rfl (by kernel_rfl)) rfl ⟨l', _, _, ws, rfl, HEX.out, HLL.out, HWS.out, HMEM.out, ?bel⟩
      case blk =>
        refine blk_put (cs := #[.int .i64 bl, .int .i64 s.size, .slice A1 ws.length c1, .slice none 0 0]) ?_ 3 _ rfl
        refine blk_put (cs := #[.int .i64 bl, .int .i64 s.size, .slice none 0 0, .slice none 0 0]) ?_ 2 _ rfl
        refine blk_put (cs := #[.int .i64 bl, .int .i64 0, .slice none 0 0, .slice none 0 0]) ?_ 1 _ rfl
        exact blk_put (cs := #[.int .i64 0, .int .i64 0, .slice none 0 0, .slice none 0 0]) HSG.out.z 0 _ rfl
      case bel =>
        have e : (blocksV s bl).map (markV l') = (List.range (nB s.size bl)).map (fun j => markV l' (blockV s bl j)) := by unfold blocksV; rw [List.map_map]; rfl
        rw [e]
        exact (((HSG.out.done.set 0 _).set 1 _).set 2 _).set 3 _
end Go.Proofs.Ytjgelmfkoefclaa.PAll

-- from YtjgelmfkoefclaaGivEnd
/- What gathers steps: a text's end. -/
namespace Go.Proofs.Ytjgelmfkoefclaa.PAll
open Go.RowKit Go.Proofs.YtjgelmfkoefclaaW.PrintWords Go.Proofs.YtjgelmfkoefclaaW.PrintLast Go.Proofs.YtjgelmfkoefclaaW.PrintMore
set_option linter.unusedVariables false
set_option linter.unusedSimpArgs false
attribute [local go_sem] max2_int min2_int max_two min_two

set_option maxHeartbeats 4000000 in
set_option maxRecDepth 100000 in
theorem mend_calls (w0 w1 : World) (T b M m : Nat) (bl n : Nat) (ws : List Int) (ss : List ByteArray) (nb : Nat) (l : List ByteArray) (s : ByteArray) (vs vt : Value) (st : List S54) (tx : ByteArray) (h0 : 16 ≤ bl) (h1 : bl ≤ 1024) (hn : n ≤ 524288) (hws : ws.length = nB n bl) (hss : ss.length = ws.length) (w : World)
    (hT : Tb w0 w1 T bl n ws ss nb) (hM0 : M < w0.heap.size) (hw0 : w0.heap.size ≤ w1.heap.size) (hbw : b < w1.heap.size) (hG : w1.grownBy w (some M)) (hB : Bk w b M l) (hMk : Mk w w1.heap.size m vs vt st tx) (hl : l.length < 10000000) (hs : s.size ≤ 1000000) (htx : tx.size ≤ 1000000) (hst : st.length ≤ 1000000) :
    Calls Try.prog 56 #[.pointer (some ⟨m, 0, none⟩), .pointer (some ⟨b, 0, none⟩), .pointer (some ⟨T, 0, none⟩), .string s] w fun e w' => ∃ (vs' vt' : Value) (st' : List S54) (l' : List ByteArray), e = .returned (.tuple #[]) ∧ Mk w' w1.heap.size m vs' vt' st' ⟨#[]⟩ ∧ w1.grownBy w' (some M) ∧ Bk w' b M l' ∧ Ext l l' ∧ l'.length ≤ l.length + 1 ∧ EndR st tx s n bl ws ss l' st' := by
  have HSZ : Aside0 (∀ wx, w1.grownBy wx (some M) → Calls Try.prog 72 #[.pointer (some ⟨T, 0, none⟩)] wx fun e w' => e = .returned (.int .i64 n) ∧ Drawn0 wx w') := ⟨fun wx hg => tsize_blk hT hM0 hg⟩
  have HBZ : Aside0 (∀ wx, w1.grownBy wx (some M) → Calls Try.prog 50 #[.pointer (some ⟨T, 0, none⟩)] wx fun e w' => e = .returned (.int .i64 bl) ∧ Drawn0 wx w') := ⟨fun wx hg => tblock_blk hT hM0 hg⟩
  have HTB := Aside0.mk hT
  have HM0 := Aside0.mk hM0
  have HMB : Aside0 (M < w1.heap.size) := ⟨by omega⟩
  have HBB := Aside0.mk hbw
  have HG := Aside0.mk hG
  have HBK := Aside0.mk hB
  have HMK := Aside0.mk hMk
  have HL := Aside0.mk hl
  have HWS := Aside0.mk hws
  have HSS := Aside0.mk hss
  obtain ⟨k, hk⟩ : ∃ k : Nat, k = n % bl := ⟨_, rfl⟩
  have hrem : (n : Int) % (bl : Int) = (k : Int) := by rw [hk]; rfl
  have HK := Aside0.mk hk
  have HREM := Aside0.mk hrem
  have hkl : k ≤ 1024 := by have := Nat.mod_lt n (show 0 < bl by omega); omega
  have hb0 : ¬ (bl : Int) = 0 := by omega
  clear hT hM0 hw0 hbw hG hB hMk hl hws hss hk hrem
  go_enter Try.func56, Try.ntmps56
  go_upto_region 1 with (first | (go_at_call 72; go_loud ((with_reducible refine (HSZ.out _ HG.out).mono ?_); rintro _ wa ⟨rfl, hdr⟩; have HGA := Aside0.mk (gb_below HG.out hdr.below); have HBKA := Aside0.mk (HBK.out.below hdr.below); have HMKA := Aside0.mk (HMK.out.below hdr.below); clear hdr)) | (go_at_call 50; go_loud ((with_reducible refine (HBZ.out _ HGA.out).mono ?_); rintro _ wb ⟨rfl, hdr⟩; have HGB := Aside0.mk (gb_below HGA.out hdr.below); have HBKB := Aside0.mk (HBKA.out.below hdr.below); have HMKB := Aside0.mk (HMKA.out.below hdr.below); clear hdr)))
  rw [HREM.out]
  go_cut [28] (fun v28 wz => ∃ (tb : Bool) (l' : List ByteArray), v28 = .bool tb ∧ Aside0 (Mk wz w1.heap.size m vs vt st tx) ∧ Aside0 (w1.grownBy wz (some M)) ∧ Aside0 (Bk wz b M l') ∧ Aside0 (Ext l l') ∧ Aside0 (l'.length ≤ l.length + 1) ∧ Aside0 (tb = true → 0 < k ∧ k ≤ s.size ∧ rdOf ByteArray.empty ss ((ws.length - 1 : Nat) : Int) = markV l' (s.extract (s.size - k) s.size) ∧ s.extract (s.size - k) s.size ∈ l'))
  case first =>
    by_cases hks : k ≤ s.size
    · have hkb : decide (k ≤ s.size) = true := decide_eq_true hks
      obtain ⟨sk, hsk⟩ : ∃ sk : Nat, sk = s.size - k := ⟨_, rfl⟩
      have hsi : (s.size : Int) - (k : Int) = (sk : Int) := by omega
      have q1 : (0 : Int) ≤ (sk : Int) := by omega
      have q2 : (sk : Int) ≤ (s.size : Int) := by omega
      have HSI := Aside0.mk hsi
      have hpe : (s.extract sk s.size).size = k := by rw [ByteArray.size_extract]; omega
      have HTL := Aside0.mk (fun wx (hg : w1.grownBy wx (some M)) (hb : Bk wx b M l) => tail_calls w0 T b M bl n ws ss nb l (s.extract sk s.size) h0 h1 hn (by rw [hpe]; exact HK.out) HWS.out HSS.out wx (HTB.out.mark hg HM0.out) hb HM0.out HL.out)
      have HSK := Aside0.mk hsk
      have HKS := Aside0.mk hks
      have HPE := Aside0.mk hpe
      clear hsk hks hpe
      go_wp2_with (go_at_call 73; go_loud ((with_reducible refine (HTL.out _ HGB.out HBKB.out).mono ?_); rintro _ wc ⟨tb, l', rfl, hx, hxl, hbk, hgb, htt⟩; have HGC := Aside0.mk (gb_trans HGB.out hgb); have HBC := Aside0.mk hbk; have HMC := Aside0.mk (HMKB.out.gbM hgb HMB.out); have HX := Aside0.mk hx; have HXL := Aside0.mk hxl; have HTT := Aside0.mk htt; clear hx hxl hbk hgb htt))
      go_meet
      case rel =>
        refine ⟨tb, l', rfl, HMC, HGC, HBC, HX, HXL, ⟨fun h => ?_⟩⟩
        obtain ⟨e1, e2, e3⟩ := HTT.out h
        rw [HPE.out] at e1
        rw [← HSK.out]
        exact ⟨e1, HKS.out, e2, e3⟩
    · have hkb : decide (k ≤ s.size) = false := decide_eq_false hks
      have HKS := Aside0.mk hks
      clear hks
      go_wp2_with fail
      go_meet
      case rel => exact ⟨false, l, rfl, HMKB, HGB, HBKB, ⟨Ext.refl _⟩, ⟨by omega⟩, ⟨fun h => by cases h⟩⟩
  case rest =>
    obtain ⟨tb, l', rfl, HMC, HGC, HBC, HX, HXL, HTT⟩ := hcut
    obtain ⟨A1, c1, hv1, hc1⟩ := HMC.out.t.slice
    subst hv1
    obtain ⟨t0, t1, f0, f1⟩ := blk2 HMC.out.b
    have HBS : Aside0 (w1.heap.size ≤ wc.heap.size) := ⟨HGC.out.size⟩
    cases tb with
    | true =>
      as_aux_lemma =>
        obtain ⟨k0, ks, he, hmm⟩ := HTT.out rfl
        obtain ⟨sk, hsk⟩ : ∃ sk : Nat, sk = s.size - k := ⟨_, rfl⟩
        have hsi : (s.size : Int) - (k : Int) = (sk : Int) := by omega
        have q1 : (0 : Int) ≤ (sk : Int) := by omega
        have q2 : (sk : Int) ≤ (s.size : Int) := by omega
        have hwr : IntKind.i64.wrap (sk : Int) = (sk : Int) := IntWalk.i64_in _ (by omega)
        have HSK := Aside0.mk hsk
        have HEE := Aside0.mk (And.intro he hmm)
        have hys : (s.extract 0 sk).size ≤ 1000000 := by rw [ByteArray.size_extract]; omega
        have HYS := Aside0.mk hys
        clear hsk he hmm hys t0
        have HMD := Aside0.mk (HMC.out.below (below_drew1 (Below.refl _ _)))
        go_upto_region 2 with fail
        refine wp_region_held_tail 11 1 (fun w' => w'.cell? ⟨m, 1, none⟩ = some (.slice A1 tx.size c1)) (by kernel_rfl) (by kernel_rfl) (by intro d c v a w; cases d <;> exact fun h => h) t1 ?_
        simp only [List.take_succ_cons, List.take_zero, List.drop_succ_cons, List.drop_zero]
        repeat (refine wpHeld_step (v := ?_) (by rfl) ?_ ?_; rotate_left; (· intro wS hSw; (go_simp <;> with_reducible rfl)); (simp only [Act.put, List.setIfInBounds_toArray, List.set_cons_zero, List.set_cons_succ]))
        refine wpHeld_nil ?_
        clear hwr
        refine wpListS_step (fun K hK => ?_)
        refine step_append_tx _ w1.heap.size ?aW (.tmp 33) (.tmp 39) 77 9 5 ?aO Try.underlying77 info5 (.slice A1 tx.size c1) tx ?aS HMD.out.t (.string (s.extract 0 sk)) (s.extract 0 sk) ?aX (Src.ofString _ Try.underlying9 _) ?aL HBS.out ?_
        case aW => rfl
        case aO => rfl
        case aS => rfl
        case aX => rfl
        case aL => have := HYS.out; omega
        intro v1 wd hT1 hG1 hO1
        obtain ⟨ty, hty⟩ : ∃ ty, ty = tx ++ s.extract 0 sk := ⟨_, rfl⟩
        rw [← hty] at hT1
        have HTY := Aside0.mk hty
        clear hty
        obtain ⟨A2, c2, hv2, hc2⟩ := hT1.slice
        subst hv2
        have HPT := Aside0.mk (HMD.out.putT hT1 hG1)
        obtain ⟨e0, e1, e2, e3⟩ := blk2 (blk_grown HMD.out.b hG1 (fun e => HMD.out.t.ne HMD.out.b (by decide) m e.symm rfl))
        refine hK.out _ _ e1 ?_
        have HGD := Aside0.mk (gb_fm (gb_drew HGC.out) HPT.out.2)
        have HBD := Aside0.mk (Bk.fm (HBC.out.below (below_drew1 (Below.refl _ _))) HPT.out.2 HBB.out HMB.out)
        clear hT1 hG1 hO1 hK K t1 f0 f1
        refine wpListS_zero ?_
        have HZZ : Aside0 (st.length + ty.size ≤ 4000000) := ⟨by rw [HTY.out, ByteArray.size_append]; have := HYS.out; omega⟩
        go_wp2_with (first | (go_at_call 72; go_loud ((with_reducible refine (HSZ.out _ HGD.out).mono ?_); rintro _ wf ⟨rfl, hdr⟩; have HGF := Aside0.mk (gb_below HGD.out hdr.below); have HBKF := Aside0.mk (HBD.out.below hdr.below); have HMKF := Aside0.mk (HPT.out.1.below hdr.below); clear hdr)) | (go_at_call 54; go_loud ((with_reducible refine (mcopy_calls w1.heap.size m vs _ st ty ((n : Int) - (k : Int)) (k : Int) _ HMKF.out HGF.out.size HZZ.out).mono ?_); rintro _ wg ⟨vs', vt', rfl, hmk, hfm⟩; have HMG := Aside0.mk hmk; have HFG := Aside0.mk hfm; clear hmk hfm)))
        ((try simp only [Exit.inBlock, Exit.then]); refine bodyPost_ret (results_none rfl _ _ _) rfl ?_)
        exact ⟨vs', vt', _, l', rfl, HMG.out, gb_fm HGF.out HFG.out, HBKF.out.fm HFG.out HBB.out HMB.out, HX.out, HXL.out, .inr ⟨k, HK.out, k0, ks, HEE.out.1, HEE.out.2, by rw [← HSK.out, ← HTY.out]⟩⟩
    | false =>
      as_aux_lemma =>
        have HSZ2 : Aside0 (st.length + (tx ++ s).size ≤ 4000000) := ⟨by rw [ByteArray.size_append]; omega⟩
        go_wp2_with (first | (at_builtin; go_loud (refine wpList_append_tx _ w1.heap.size rfl (.tmp 54) (.tmp 55) 77 9 5 rfl Try.underlying77 info5 (.slice A1 tx.size c1) tx rfl HMC.out.t (.string s) s rfl (Src.ofString _ Try.underlying9 _) (by omega) HBS.out ?_; intro v1 wd hT1 hG1 hO1; obtain ⟨ty, hty⟩ : ∃ ty, ty = tx ++ s := ⟨_, rfl⟩; rw [← hty] at hT1; have HTY := Aside0.mk hty; clear hty; obtain ⟨A2, c2, hv2, hc2⟩ := hT1.slice; subst hv2; have HPT := Aside0.mk (HMC.out.putT hT1 hG1); obtain ⟨e0, e1, e2, e3⟩ := blk2 (blk_grown HMC.out.b hG1 (fun e => HMC.out.t.ne HMC.out.b (by decide) m e.symm rfl)); have HGD := Aside0.mk (gb_fm HGC.out HPT.out.2); have HBD := Aside0.mk (Bk.fm HBC.out HPT.out.2 HBB.out HMB.out); clear hT1 hG1 hO1 t0 t1 f0 f1)) | (go_at_call 71; go_loud ((with_reducible refine (mflush_calls w1.heap.size m vs _ st ty _ HPT.out.1 HGD.out.size (by rw [HTY.out]; exact HSZ2.out)).mono ?_); rintro _ wg ⟨vs', vt', rfl, hmk, hfm⟩; have HMG := Aside0.mk hmk; have HFG := Aside0.mk hfm; clear hmk hfm)))
        go_end0
        exact ⟨vs', vt', _, l', rfl, HMG.out, gb_fm HGD.out HFG.out, HBD.out.fm HFG.out HBB.out HMB.out, HX.out, HXL.out, .inl (by rw [← HTY.out])⟩
end Go.Proofs.Ytjgelmfkoefclaa.PAll

-- from YtjgelmfkoefclaaGivClone
/- A row's copy (slices.Clone). -/
namespace Go.Proofs.Ytjgelmfkoefclaa.PAll
open Go.RowKit Go.Proofs.YtjgelmfkoefclaaW.PrintWords Go.Proofs.YtjgelmfkoefclaaW.PrintLast Go.Proofs.YtjgelmfkoefclaaW.PrintMore
set_option linter.unusedVariables false
set_option linter.unusedSimpArgs false

theorem R_new0 {α : Type} (d : Kd α) (e base : Nat) (W : World) (hb : base ≤ W.heap.size) (ok : Nat → Prop) (hok : ok W.heap.size) : d.R e (W.alloc (.cells #[] e (0, 0))) base ok (.slice (some ⟨W.heap.size, 0, none⟩) 0 0) [] := by
  refine ⟨fun k hk => ?_, [], ?_, Reps.none _ _⟩
  · have : W.heap.size = k := by simpa [Value.ownBlock] using hk
    subst this; exact hok
  · have h2 := World.ownsRow_lit (base := base) (e := e) (size := d.sz) W #[] 0 hb (by simp [maxLen]) (by simp)
    simpa using h2

set_option maxHeartbeats 2000000 in
set_option maxRecDepth 100000 in
theorem clone_ints (A : Option Addr) (n c : Nat) (xs : List Int) (hn : n ≤ 10000000) (w : World) (hC : Kd.C (Kd.int .i64) w A n xs) (h0 : A = none → c = 0) :
    Calls Try.prog 66 #[.slice A n c] w fun e w' => ∃ v, e = .returned v ∧ Kd.R (Kd.int .i64) 3 w' w.heap.size (fun _ => True) v xs ∧ Below w.heap.size w w' := by
  have HC := Aside0.mk hC
  have HN : Aside0 (xs.length = n) := ⟨hC.1⟩
  have hcap := h0
  have HEQ : ∀ (A : Option Addr) (n c : Nat) (w : World), (binOp .eql 69 (.slice A n c) (.slice none 0 0)).run Try.prog w = .ok (.bool A.isNone) w := fun A n c w => run_eql_slice_nil w 69 3 A n c Try.underlying69
  clear hC h0
  cases A with
  | none =>
    have hn0 : n = 0 := by
      rcases Nat.eq_zero_or_pos n with h | h
      · exact h
      · obtain ⟨ad, he, _⟩ := HC.out.2.2 h; cases he
    have hc0 := hcap rfl
    subst hn0 hc0
    have HX : Aside0 (xs = []) := ⟨List.eq_nil_of_length_eq_zero HN.out⟩
    clear hcap
    go_enter Try.func66, Try.ntmps66
    go_wp2_with fail
    go_ret
    refine ⟨_, rfl, ?_, Below.refl _ _⟩
    rw [HX.out]; exact Kd.R_nil _ _ _ _ _
  | some ad =>
    clear hcap
    go_enter Try.func66, Try.ntmps66
    go_wp2_with ((with_reducible refine gate_builtin (b := .append) (xs := #[.tmp 5, .tmp 6]) rfl ?_); at_builtin; go_loud (refine Kd.R_append_rows (Kd.int .i64) (Rr := (Kd.int .i64).K w) (w0 := w) (W := w.alloc (.cells #[] 3 (0, 0))) w.heap.size rfl (.tmp 5) (.tmp 6) 69 3 (.int .i64 0) 8 rfl Try.underlying69 info3 rfl (by decide) (by omega) (.slice (some ⟨w.heap.size, 0, none⟩) 0 0) [] xs (some ad) n c (fun _ => True) (fun _ => False) rfl rfl ?aO ?aR ?aK (fun _ hk => hk.elim) (fun _ _ => trivial) ?aB ?aS ?aL ?_; (case aO => exact R_new0 (Kd.int .i64) 3 w.heap.size w (Nat.le_refl _) _ trivial); (case aR => exact ReadsRow.imp_ HC.out (below_alloc (Below.refl _ _) _) (fun _ _ hp => hp)); (case aK => exact (fun x_ cs_ h_ => h_)); (case aB => exact below_alloc (Below.refl _ _) _); (case aS => simp); (case aL => simp only [List.length_nil]; omega); intro v1 w1 hR1 hB1 hG1 hO1; have HR1 := Aside0.mk hR1; have HB1 := Aside0.mk hB1; clear hR1 hB1 hG1 hO1))
    go_ret
    exact ⟨_, rfl, by simpa using HR1.out, HB1.out⟩

set_option maxHeartbeats 2000000 in
set_option maxRecDepth 100000 in
theorem clone_strs (A : Option Addr) (n c : Nat) (xs : List ByteArray) (hn : n ≤ 10000000) (w : World) (hC : Kd.C Kd.string w A n xs) (h0 : A = none → c = 0) :
    Calls Try.prog 67 #[.slice A n c] w fun e w' => ∃ v, e = .returned v ∧ Kd.R Kd.string 9 w' w.heap.size (fun _ => True) v xs ∧ Below w.heap.size w w' := by
  have HC := Aside0.mk hC
  have HN : Aside0 (xs.length = n) := ⟨hC.1⟩
  have hcap := h0
  have HEQ : ∀ (A : Option Addr) (n c : Nat) (w : World), (binOp .eql 36 (.slice A n c) (.slice none 0 0)).run Try.prog w = .ok (.bool A.isNone) w := fun A n c w => run_eql_slice_nil w 36 9 A n c Try.underlying36
  clear hC h0
  cases A with
  | none =>
    have hn0 : n = 0 := by
      rcases Nat.eq_zero_or_pos n with h | h
      · exact h
      · obtain ⟨ad, he, _⟩ := HC.out.2.2 h; cases he
    have hc0 := hcap rfl
    subst hn0 hc0
    have HX : Aside0 (xs = []) := ⟨List.eq_nil_of_length_eq_zero HN.out⟩
    clear hcap
    go_enter Try.func67, Try.ntmps67
    go_wp2_with fail
    go_ret
    refine ⟨_, rfl, ?_, Below.refl _ _⟩
    rw [HX.out]; exact Kd.R_nil _ _ _ _ _
  | some ad =>
    clear hcap
    go_enter Try.func67, Try.ntmps67
    go_wp2_with ((with_reducible refine gate_builtin (b := .append) (xs := #[.tmp 5, .tmp 6]) rfl ?_); at_builtin; go_loud (refine Kd.R_append_rows Kd.string (Rr := Kd.string.K w) (w0 := w) (W := w.alloc (.cells #[] 9 (0, 0))) w.heap.size rfl (.tmp 5) (.tmp 6) 36 9 (.string ⟨#[]⟩) 16 rfl Try.underlying36 info9 rfl (by decide) (by omega) (.slice (some ⟨w.heap.size, 0, none⟩) 0 0) [] xs (some ad) n c (fun _ => True) (fun _ => False) rfl rfl ?aO ?aR ?aK (fun _ hk => hk.elim) (fun _ _ => trivial) ?aB ?aS ?aL ?_; (case aO => exact R_new0 Kd.string 9 w.heap.size w (Nat.le_refl _) _ trivial); (case aR => exact ReadsRow.imp_ HC.out (below_alloc (Below.refl _ _) _) (fun _ _ hp => hp)); (case aK => exact (fun x_ cs_ h_ => h_)); (case aB => exact below_alloc (Below.refl _ _) _); (case aS => simp); (case aL => simp only [List.length_nil]; omega); intro v1 w1 hR1 hB1 hG1 hO1; have HR1 := Aside0.mk hR1; have HB1 := Aside0.mk hB1; clear hR1 hB1 hG1 hO1))
    go_ret
    exact ⟨_, rfl, by simpa using HR1.out, HB1.out⟩
end Go.Proofs.Ytjgelmfkoefclaa.PAll

-- from YtjgelmfkoefclaaGivSort2
/- Go's stable sort, continued: a row's two parts changed about. -/
namespace Go.Proofs.Ytjgelmfkoefclaa.PAll
open Go.RowKit Go.Proofs.YtjgelmfkoefclaaW.PrintWords Go.Proofs.YtjgelmfkoefclaaW.PrintLast Go.Proofs.YtjgelmfkoefclaaW.PrintMore
set_option linter.unusedVariables false
set_option linter.unusedSimpArgs false

set_option maxHeartbeats 2000000 in
set_option maxRecDepth 100000 in
theorem rotate_calls (g n c : Nat) (P : Int → Prop) (a m b : Nat) (cmp : Value) (w : World) (hA : Ar w g n P) (h1 : a < m) (h2 : m < b) (hb : b ≤ n) (hn : n ≤ 1000000) :
    Calls Try.prog 87 #[.slice (some ⟨g, 0, none⟩) n c, .int .i64 a, .int .i64 m, .int .i64 b, cmp] w fun e w' => e = .returned (.tuple #[]) ∧ Ar w' g n P ∧ w.grownBy w' (some g) := by
  have HA := Aside0.mk hA
  clear hA
  go_enter Try.func87, Try.ntmps87
  go_wp2_with fail
  go_loopw [10, 11] (fun v10 v11 wr => ∃ i j : Nat, v10 = .int .i64 i ∧ v11 = .int .i64 j ∧ 0 < i ∧ 0 < j ∧ i + a ≤ m ∧ m + j ≤ b ∧ Aside0 (Ar wr g n P) ∧ Aside0 (w.grownBy wr (some g))) (fun v10 v11 _ => (intOf v10).toNat + (intOf v11).toNat)
  case atStart => exact ⟨m - a, b - m, congrArg (Value.int .i64) (by omega), congrArg (Value.int .i64) (by omega), by omega, by omega, by omega, by omega, HA, ⟨gb_refl _ _⟩⟩
  case round =>
    obtain ⟨i, j, rfl, rfl, hi, hj, hia, hjb, HR, HG⟩ := hrel
    by_cases hij : i = j
    · have hb1 : ((i : Int) != (j : Int)) = false := bne_eq_false_iff_eq.mpr (by omega)
      have hb2 : ((i : Int) == (j : Int)) = true := beq_iff_eq.mpr (by omega)
      subst hij
      have HS := Aside0.mk (swapRange_any g n c P (m - i) m i ((m : Int) - (i : Int)) m i (by omega) rfl rfl cmp wr HR.out (by omega) (by omega) (by omega) hn)
      go_wp2_with (go_at_call 89; go_loud ((with_reducible refine HS.out.mono ?_); rintro _ wa ⟨rfl, ha, hg⟩; have HRA := Aside0.mk ha; have HGA := Aside0.mk hg; clear ha hg))
      go_end0
      exact ⟨rfl, HRA.out, gb_trans HG.out HGA.out⟩
    · have hb1 : ((i : Int) != (j : Int)) = true := bne_iff_ne.mpr (by omega)
      have hb2 : ((i : Int) == (j : Int)) = false := beq_eq_false_iff_ne.mpr (by omega)
      by_cases hgt : j < i
      · have hb3 : decide (j < i) = true := decide_eq_true hgt
        have HS := Aside0.mk (swapRange_any g n c P (m - i) m j ((m : Int) - (i : Int)) m j (by omega) rfl rfl cmp wr HR.out (by omega) (by omega) (by omega) hn)
        go_wp2_with (go_at_call 89; go_loud ((with_reducible refine HS.out.mono ?_); rintro _ wa ⟨rfl, ha, hg⟩; have HRA := Aside0.mk ha; have HGA := Aside0.mk hg; clear ha hg))
        go_roundw
        case rel => exact ⟨i - j, j, congrArg (Value.int .i64) (by omega), rfl, by omega, hj, by omega, hjb, HRA, ⟨gb_trans HG.out HGA.out⟩⟩
        case measure => simp [intOf]; omega
      · have hb3 : decide (j < i) = false := decide_eq_false hgt
        have HS := Aside0.mk (swapRange_any g n c P (m - i) (m + j - i) i ((m : Int) - (i : Int)) ((m : Int) + (j : Int) - (i : Int)) i (by omega) (by omega) rfl cmp wr HR.out (by omega) (by omega) (by omega) hn)
        go_wp2_with (go_at_call 89; go_loud ((with_reducible refine HS.out.mono ?_); rintro _ wa ⟨rfl, ha, hg⟩; have HRA := Aside0.mk ha; have HGA := Aside0.mk hg; clear ha hg))
        go_roundw
        case rel => exact ⟨i, j - i, rfl, congrArg (Value.int .i64) (by omega), hi, by omega, hia, by omega, HRA, ⟨gb_trans HG.out HGA.out⟩⟩
        case measure => simp [intOf]; omega
end Go.Proofs.Ytjgelmfkoefclaa.PAll

-- from YtjgelmfkoefclaaGivSort3
/- Go's stable sort, continued: two sorted parts made one. -/
namespace Go.Proofs.Ytjgelmfkoefclaa.PAll
open Go.RowKit Go.Proofs.YtjgelmfkoefclaaW.PrintWords Go.Proofs.YtjgelmfkoefclaaW.PrintLast Go.Proofs.YtjgelmfkoefclaaW.PrintMore
set_option linter.unusedVariables false
set_option linter.unusedSimpArgs false


set_option maxHeartbeats 2000000 in
set_option maxRecDepth 100000 in
theorem merge_one (g n c : Nat) (P : Int → Prop) (a m b : Nat) (w0 : World) (cap : Value) (zf : Int → Int → Int) (hC : Cmp 69 cap w0 g P zf) (w : World) (hw : w0.grownBy w (some g)) (hA : Ar w g n P) (h1 : m = a + 1) (h2 : m < b) (hb : b ≤ n) (hn : n ≤ 1000000) :
    Calls Try.prog 83 #[.slice (some ⟨g, 0, none⟩) n c, .int .i64 a, .int .i64 m, .int .i64 b, .func (.func 69) #[] #[cap]] w fun e w' => e = .returned (.tuple #[]) ∧ Ar w' g n P ∧ w.grownBy w' (some g) := by
  have HA := Aside0.mk hA
  have HC := Aside0.mk hC
  have HW := Aside0.mk hw
  have hd : ((m : Int) - (a : Int) == 1) = true := beq_iff_eq.mpr (by omega)
  have H1 := Aside0.mk h1
  have hma : m ≤ a + 1 := by omega
  have ham : a < m := by omega
  clear hA hC hw h1
  go_enter Try.func83, Try.ntmps83
  go_wp2_with fail
  go_loopw [10, 11] (fun v10 v11 wr => ∃ i j : Nat, v10 = .int .i64 i ∧ v11 = .int .i64 j ∧ m ≤ i ∧ i ≤ j ∧ j ≤ b ∧ Aside0 (Ar wr g n P) ∧ Aside0 (w.grownBy wr (some g))) (fun v10 v11 _ => (intOf v11 - intOf v10).toNat)
  case atStart => exact ⟨m, b, rfl, rfl, Nat.le_refl _, by omega, Nat.le_refl _, HA, ⟨gb_refl _ _⟩⟩
  case round =>
    obtain ⟨i, j, rfl, rfl, him, hij, hjb, HR, HG⟩ := hrel
    by_cases hlt : i < j
    · have hb1 : decide (i < j) = true := decide_eq_true hlt
      obtain ⟨h, hh⟩ : ∃ h : Nat, (i + j) / 2 = h := ⟨_, rfl⟩
      have hhi : ((i : Int) + (j : Int)) / 2 = (h : Int) := by omega
      have hil : i ≤ h := by omega
      have hhj : h < j := by omega
      obtain ⟨x, hx, px, fx⟩ := HR.out.at h (by omega)
      obtain ⟨y, hy, py, fy⟩ := HR.out.at a (by omega)
      have q1 : (h : Int) < (n : Int) := by omega
      have q2 : (a : Int) < (n : Int) := by omega
      have q1b : decide (h < n) = true := decide_eq_true (by omega)
      have q2b : decide (a < n) = true := decide_eq_true (by omega)
      have HCX := Aside0.mk (fun k => HC.out (wr.drewN k) x y (gb_drewN (gb_trans HW.out HG.out) k) px py)
      have HHI := Aside0.mk hhi
      clear px py hhi hh
      by_cases hz : zf x y < 0
      all_goals
        first | (have hzb : decide (zf x y < 0) = true := decide_eq_true hz) | (have hzb : decide (zf x y < 0) = false := decide_eq_false hz)
        go_upto_region 5 with fail
        rw [HHI.out]
        go_quiet ((go_at_call 69; exact Calls.quiet_of (HCX.out _)))
        go_wp2_with fail
        go_roundw
        case rel => first | exact ⟨h + 1, j, by go_num, rfl, by omega, by omega, hjb, ⟨HR.out.drewN _⟩, ⟨gb_drewN HG.out _⟩⟩ | exact ⟨i, h, rfl, rfl, him, hil, by omega, ⟨HR.out.drewN _⟩, ⟨gb_drewN HG.out _⟩⟩
        case measure => simp [intOf]; omega
    · have hb1 : decide (i < j) = false := decide_eq_false hlt
      have hej : i = j := by omega
      subst hej
      obtain ⟨wo, rfl⟩ : ∃ wo : World, wo = wr := ⟨_, rfl⟩
      go_wp2_with fail
      go_loopw [13] (fun v13 wr => ∃ k : Nat, v13 = .int .i64 k ∧ a ≤ k ∧ k ≤ i ∧ Aside0 (Ar wr g n P) ∧ Aside0 (w.grownBy wr (some g))) (fun v13 _ => i - (intOf v13).toNat)
      case atStart => exact ⟨a, rfl, Nat.le_refl _, by omega, HR, HG⟩
      case round =>
        obtain ⟨k, rfl, hak, hki, HRI, HGI⟩ := hrel
        by_cases hkl : k + 1 < i
        · have hb2 : decide ((k : Int) < (i : Int) - 1) = true := decide_eq_true (by omega)
          obtain ⟨x, hx, px, fx⟩ := HRI.out.at k (by omega)
          obtain ⟨y, hy, py, fy⟩ := HRI.out.at (k + 1) (by omega)
          have q1 : (0 : Int) ≤ (k : Int) + 1 := by omega
          have q2 : (k : Int) + 1 < (n : Int) := by omega
          have q3 : (0 : Int) ≤ (k : Int) := by omega
          have q4 : (k : Int) < (n : Int) := by omega
          have hne1 : ¬ k + 1 = k := by omega
          have hne2 : ¬ k = k + 1 := by omega
          have HPX := Aside0.mk px
          have HPY := Aside0.mk py
          clear px py
          go_wp2_with fail
          go_region
          all_goals
            go_wp2_with fail
            go_roundw
            case rel => exact ⟨k + 1, by go_num, by omega, by omega, ⟨(HRI.out.drew.set k (by omega) y HPY.out).set (k + 1) (by omega) x HPX.out⟩, ⟨gb_trans (gb_trans (gb_drew HGI.out) (gb_setg _ _ _ _)) (gb_setg _ _ _ _)⟩⟩
            case measure => simp [intOf]; omega
        · have hb2 : decide ((k : Int) < (i : Int) - 1) = false := decide_eq_false (by omega)
          go_wp2_with fail
          refine bodyPost_ret (results_none rfl _ _ _) rfl ?_
          exact ⟨rfl, HRI.out, HGI.out⟩

set_option maxHeartbeats 2000000 in
set_option maxRecDepth 100000 in
theorem merge_two (g n c : Nat) (P : Int → Prop) (a m b : Nat) (w0 : World) (cap : Value) (zf : Int → Int → Int) (hC : Cmp 69 cap w0 g P zf) (w : World) (hw : w0.grownBy w (some g)) (hA : Ar w g n P) (h1 : b = m + 1) (h2 : a + 1 < m) (hb : b ≤ n) (hn : n ≤ 1000000) :
    Calls Try.prog 83 #[.slice (some ⟨g, 0, none⟩) n c, .int .i64 a, .int .i64 m, .int .i64 b, .func (.func 69) #[] #[cap]] w fun e w' => e = .returned (.tuple #[]) ∧ Ar w' g n P ∧ w.grownBy w' (some g) := by
  have HA := Aside0.mk hA
  have HC := Aside0.mk hC
  have HW := Aside0.mk hw
  have hd : ((m : Int) - (a : Int) == 1) = false := beq_eq_false_iff_ne.mpr (by omega)
  have hd2 : ((b : Int) - (m : Int) == 1) = true := beq_iff_eq.mpr (by omega)
  have H1 := Aside0.mk h1
  have hbm : b ≤ m + 1 := by omega
  have hmb : m < b := by omega
  have ham : a < m := by omega
  clear hA hC hw h1
  go_enter Try.func83, Try.ntmps83
  go_wp2_with fail
  go_loopw [14, 15] (fun v10 v11 wr => ∃ i j : Nat, v10 = .int .i64 i ∧ v11 = .int .i64 j ∧ a ≤ i ∧ i ≤ j ∧ j ≤ m ∧ Aside0 (Ar wr g n P) ∧ Aside0 (w.grownBy wr (some g))) (fun v10 v11 _ => (intOf v11 - intOf v10).toNat)
  case atStart => exact ⟨a, m, rfl, rfl, Nat.le_refl _, by omega, Nat.le_refl _, HA, ⟨gb_refl _ _⟩⟩
  case round =>
    obtain ⟨i, j, rfl, rfl, him, hij, hjb, HR, HG⟩ := hrel
    by_cases hlt : i < j
    · have hb1 : decide (i < j) = true := decide_eq_true hlt
      obtain ⟨h, hh⟩ : ∃ h : Nat, (i + j) / 2 = h := ⟨_, rfl⟩
      have hhi : ((i : Int) + (j : Int)) / 2 = (h : Int) := by omega
      have hil : i ≤ h := by omega
      have hhj : h < j := by omega
      obtain ⟨x, hx, px, fx⟩ := HR.out.at m (by omega)
      obtain ⟨y, hy, py, fy⟩ := HR.out.at h (by omega)
      have q1 : (h : Int) < (n : Int) := by omega
      have q2 : (m : Int) < (n : Int) := by omega
      have q1b : decide (h < n) = true := decide_eq_true (by omega)
      have q2b : decide (m < n) = true := decide_eq_true (by omega)
      have HCX := Aside0.mk (fun k => HC.out (wr.drewN k) x y (gb_drewN (gb_trans HW.out HG.out) k) px py)
      have HHI := Aside0.mk hhi
      clear px py hhi hh
      by_cases hz : zf x y < 0
      all_goals
        first | (have hzb : decide (zf x y < 0) = true := decide_eq_true hz) | (have hzb : decide (zf x y < 0) = false := decide_eq_false hz)
        go_upto_region 17 with fail
        rw [HHI.out]
        go_quiet ((go_at_call 69; exact Calls.quiet_of (HCX.out _)))
        go_wp2_with fail
        go_roundw
        case rel => first | exact ⟨h + 1, j, by go_num, rfl, by omega, by omega, hjb, ⟨HR.out.drewN _⟩, ⟨gb_drewN HG.out _⟩⟩ | exact ⟨i, h, rfl, rfl, him, hil, by omega, ⟨HR.out.drewN _⟩, ⟨gb_drewN HG.out _⟩⟩
        case measure => simp [intOf]; omega
    · have hb1 : decide (i < j) = false := decide_eq_false hlt
      have hej : i = j := by omega
      subst hej
      obtain ⟨wo, rfl⟩ : ∃ wo : World, wo = wr := ⟨_, rfl⟩
      go_wp2_with fail
      go_loopw [17] (fun v17 wr => ∃ k : Nat, v17 = .int .i64 k ∧ i ≤ k ∧ k ≤ m ∧ Aside0 (Ar wr g n P) ∧ Aside0 (w.grownBy wr (some g))) (fun v17 _ => (intOf v17).toNat)
      case atStart => exact ⟨m, rfl, hjb, Nat.le_refl _, HR, HG⟩
      case round =>
        obtain ⟨k, rfl, hik, hkm, HRI, HGI⟩ := hrel
        by_cases hkl : i < k
        · have hb2 : decide (i < k) = true := decide_eq_true hkl
          obtain ⟨k1, rfl⟩ : ∃ k1, k = k1 + 1 := ⟨k - 1, by omega⟩
          have hb3 : decide ((i : Int) < (k1 : Int) + 1) = true := decide_eq_true (by omega)
          obtain ⟨x, hx, px, fx⟩ := HRI.out.at (k1 + 1) (by omega)
          obtain ⟨y, hy, py, fy⟩ := HRI.out.at k1 (by omega)
          have q1 : (0 : Int) ≤ (k1 : Int) + 1 := by omega
          have q2 : (k1 : Int) + 1 < (n : Int) := by omega
          have q3 : (0 : Int) ≤ (k1 : Int) := by omega
          have q4 : (k1 : Int) < (n : Int) := by omega
          have hne1 : ¬ k1 + 1 = k1 := by omega
          have hne2 : ¬ k1 = k1 + 1 := by omega
          have HPX := Aside0.mk px
          have HPY := Aside0.mk py
          clear px py
          go_wp2_with fail
          go_region
          all_goals
            go_wp2_with fail
            go_roundw
            case rel => exact ⟨k1, rfl, by omega, by omega, ⟨(HRI.out.drew.set (k1 + 1) (by omega) y HPY.out).set k1 (by omega) x HPX.out⟩, ⟨gb_trans (gb_trans (gb_drew HGI.out) (gb_setg _ _ _ _)) (gb_setg _ _ _ _)⟩⟩
            case measure => simp [intOf]
        · have hb2 : decide (i < k) = false := decide_eq_false hkl
          go_wp2_with fail
          refine bodyPost_ret (results_none rfl _ _ _) rfl ?_
          exact ⟨rfl, HRI.out, HGI.out⟩
end Go.Proofs.Ytjgelmfkoefclaa.PAll

-- from YtjgelmfkoefclaaGivSort4
/- Go's stable sort, continued: two sorted parts made one, at any length. -/
namespace Go.Proofs.Ytjgelmfkoefclaa.PAll
open Go.RowKit Go.Proofs.YtjgelmfkoefclaaW.PrintWords Go.Proofs.YtjgelmfkoefclaaW.PrintLast Go.Proofs.YtjgelmfkoefclaaW.PrintMore
set_option linter.unusedVariables false
set_option linter.unusedSimpArgs false

theorem rotate_any (g n c : Nat) (P : Int → Prop) (a m b : Nat) (a' m' b' : Int) (ea : a' = (a : Nat)) (em : m' = (m : Nat)) (eb : b' = (b : Nat)) (cmp : Value) (w : World) (hA : Ar w g n P) (h1 : a < m) (h2 : m < b) (hb : b ≤ n) (hn : n ≤ 1000000) :
    Calls Try.prog 87 #[.slice (some ⟨g, 0, none⟩) n c, .int .i64 a', .int .i64 m', .int .i64 b', cmp] w fun e w' => e = .returned (.tuple #[]) ∧ Ar w' g n P ∧ w.grownBy w' (some g) := by
  subst ea em eb
  exact rotate_calls g n c P a m b cmp w hA h1 h2 hb hn

set_option maxHeartbeats 4000000 in
set_option maxRecDepth 100000 in
theorem merge_more (g n c : Nat) (P : Int → Prop) (w0 : World) (cap : Value) (zf : Int → Int → Int) (hC : Cmp 69 cap w0 g P zf) (hn : n ≤ 1000000) (N : Nat)
    (IH : ∀ (a m b : Nat), b - a ≤ N → a < m → m < b → b ≤ n → ∀ w : World, w0.grownBy w (some g) → Ar w g n P → Calls Try.prog 83 #[.slice (some ⟨g, 0, none⟩) n c, .int .i64 a, .int .i64 m, .int .i64 b, .func (.func 69) #[] #[cap]] w fun e w' => e = .returned (.tuple #[]) ∧ Ar w' g n P ∧ w.grownBy w' (some g))
    (a m b mid L R : Nat) (w : World) (hw : w0.grownBy w (some g)) (hA : Ar w g n P) (hN : b - a ≤ N + 1) (h1 : a + 1 < m) (h2 : m + 1 < b) (hb : b ≤ n)
    (hmid : mid = (a + b) / 2) (hd : (mid < m ∧ L + b = mid + m ∧ R = mid) ∨ (m ≤ mid ∧ L = a ∧ R = m)) :
    Calls Try.prog 83 #[.slice (some ⟨g, 0, none⟩) n c, .int .i64 a, .int .i64 m, .int .i64 b, .func (.func 69) #[] #[cap]] w fun e w' => e = .returned (.tuple #[]) ∧ Ar w' g n P ∧ w.grownBy w' (some g) := by
  have HA := Aside0.mk hA
  have HC := Aside0.mk hC
  have HW := Aside0.mk hw
  have HIH := Aside0.mk IH
  have hd1 : ((m : Int) - (a : Int) == 1) = false := beq_eq_false_iff_ne.mpr (by omega)
  have hd2 : ((b : Int) - (m : Int) == 1) = false := beq_eq_false_iff_ne.mpr (by omega)
  have hL1 : a ≤ L := by omega
  have hL2 : mid + m ≤ b + L := by omega
  have hLR : L ≤ R := by omega
  have hR1 : R ≤ mid := by omega
  have hR2 : R ≤ m := by omega
  have ham : a < mid := by omega
  have hmb : mid < b := by omega
  have HMID := Aside0.mk (show ((a : Int) + (b : Int)) / 2 = (mid : Int) by omega)
  have HS := Aside0.mk (show (mid < m ∧ ((mid : Int) + (m : Int) - (b : Int)) = (L : Int) ∧ mid = R) ∨ (m ≤ mid ∧ a = L ∧ m = R) by omega)
  clear hA hC hw IH hmid hd
  go_enter Try.func83, Try.ntmps83
  go_upto_region 25 with fail
  rw [HMID.out]
  go_upto_if 140 with (fail)
  go_cut [20, 21] (fun v20 v21 w1 => v20 = .int .i64 L ∧ v21 = .int .i64 R ∧ w = w1)
  case first => as_aux_lemma =>
    rcases HS.out with ⟨q1, q2, q3⟩ | ⟨q1, q2, q3⟩
    · have hb1 : decide (mid < m) = true := decide_eq_true q1
      subst q3
      go_wp2_with fail
      go_meet
      case rel => exact ⟨rfl, rfl, rfl⟩
    · have hb1 : decide (mid < m) = false := decide_eq_false (by omega)
      subst q2 q3
      go_wp2_with fail
      go_meet
      case rel => exact ⟨rfl, rfl, rfl⟩
  case rest => as_aux_lemma =>
    obtain ⟨rfl, rfl, rfl⟩ := hcut
    go_wp2_with fail
    go_loopw [20, 21, 23] (fun v20 v21 v23 wr => ∃ s r : Nat, v20 = .int .i64 s ∧ v21 = .int .i64 r ∧ L ≤ s ∧ s ≤ r ∧ r ≤ R ∧ Aside0 (Ar wr g n P) ∧ Aside0 (w.grownBy wr (some g))) (fun v20 v21 _ _ => (intOf v21 - intOf v20).toNat)
    case atStart => exact ⟨L, R, rfl, rfl, Nat.le_refl _, hLR, Nat.le_refl _, HA, ⟨gb_refl _ _⟩⟩
    case round =>
      obtain ⟨s, r, rfl, rfl, hLs, hsr, hrR, HR, HG⟩ := hrel
      by_cases hlt : s < r
      · as_aux_lemma =>
          have hb1 : decide (s < r) = true := decide_eq_true hlt
          obtain ⟨h, hh⟩ : ∃ h : Nat, (s + r) / 2 = h := ⟨_, rfl⟩
          have hhi : ((s : Int) + (r : Int)) / 2 = (h : Int) := by omega
          have hil : s ≤ h := by omega
          have hhj : h < r := by omega
          obtain ⟨k, hk⟩ : ∃ k : Nat, k = mid + m - 1 - h := ⟨_, rfl⟩
          have hki : (mid : Int) + (m : Int) - 1 - (h : Int) = (k : Int) := by omega
          have hkn : k < n := by omega
          obtain ⟨x, hx, px, fx⟩ := HR.out.at k hkn
          obtain ⟨y, hy, py, fy⟩ := HR.out.at h (by omega)
          have q1 : (k : Int) < (n : Int) := by omega
          have q1b : decide (k < n) = true := decide_eq_true (by omega)
          have q2 : (h : Int) < (n : Int) := by omega
          have q2b : decide (h < n) = true := decide_eq_true (by omega)
          have HCX := Aside0.mk (fun k => HC.out (wr.drewN k) x y (gb_drewN (gb_trans HW.out HG.out) k) px py)
          have HHI := Aside0.mk hhi
          clear px py hhi hh hk
          by_cases hz : zf x y < 0
          all_goals
            first | (have hzb : decide (zf x y < 0) = true := decide_eq_true hz) | (have hzb : decide (zf x y < 0) = false := decide_eq_false hz)
            go_upto_region 35 with fail
            rw [HHI.out]
            go_quiet ((go_at_call 69; exact Calls.quiet_of (HCX.out _)))
            go_wp2_with fail
            go_roundw
            case rel => first | exact ⟨h + 1, r, by go_num, rfl, by omega, by omega, hrR, ⟨HR.out.drewN _⟩, ⟨gb_drewN HG.out _⟩⟩ | exact ⟨s, h, rfl, rfl, hLs, hil, by omega, ⟨HR.out.drewN _⟩, ⟨gb_drewN HG.out _⟩⟩
            case measure => simp [intOf]; omega
      · as_aux_lemma =>
          have hb1 : decide (s < r) = false := decide_eq_false hlt
          obtain ⟨e, he⟩ : ∃ e : Nat, (mid : Int) + (m : Int) - (s : Int) = (e : Int) := ⟨mid + m - s, by omega⟩
          have heb : e ≤ b := by omega
          have HE := Aside0.mk he
          clear he
          go_upto_region 39 with fail
          rw [HE.out]
          obtain ⟨bb, hbb⟩ : ∃ bb : Bool, bb = (decide (s < m) && decide (m < e)) := ⟨_, rfl⟩
          have HBB := Aside0.mk hbb
          clear hbb
          go_cut [185] (fun v w1 => v = .bool bb ∧ wr = w1)
          case first => as_aux_lemma =>
            by_cases hx : s < m
            · have hxb : decide (s < m) = true := decide_eq_true hx
              by_cases hy : m < e
              · have hyb : decide (m < e) = true := decide_eq_true hy
                go_wp2_with fail
                go_meet
                case rel => exact ⟨congrArg Value.bool (by rw [HBB.out]; simp [hx, hy]), rfl⟩
              · have hyb : decide (m < e) = false := decide_eq_false hy
                go_wp2_with fail
                go_meet
                case rel => exact ⟨congrArg Value.bool (by rw [HBB.out]; simp [hx, hy]), rfl⟩
            · have hxb : decide (s < m) = false := decide_eq_false hx
              go_wp2_with fail
              go_meet
              case rel => exact ⟨congrArg Value.bool (by rw [HBB.out]; simp [hx]), rfl⟩
          case rest => as_aux_lemma =>
            obtain ⟨rfl, rfl⟩ := hcut
            go_upto_if 185 with (fail)
            go_cut [24] (fun v24 w1 => v24 = .int .i64 e ∧ Aside0 (Ar w1 g n P) ∧ Aside0 (w.grownBy w1 (some g)))
            case first => as_aux_lemma =>
              cases bb
              · go_wp2_with fail
                go_meet
                case rel => exact ⟨rfl, HR, HG⟩
              · have hq : s < m ∧ m < e := by have := HBB.out; simpa using this
                have HS2 := Aside0.mk (rotate_any g n c P s m e s m e rfl rfl rfl (.func (.func 69) #[] #[cap]) wr HR.out hq.1 hq.2 (by omega) hn)
                go_wp2_with (go_at_call 87; go_loud ((with_reducible refine HS2.out.mono ?_); rintro _ wa ⟨rfl, ha, hg⟩; have HRA := Aside0.mk ha; have HGA := Aside0.mk hg; clear ha hg))
                go_meet
                case rel => exact ⟨rfl, HRA, ⟨gb_trans HG.out HGA.out⟩⟩
            case rest => as_aux_lemma =>
              clear HR HG HBB
              obtain ⟨rfl, HR, HG⟩ := hcut
              obtain ⟨wo, rfl⟩ : ∃ wo : World, wo = wc := ⟨_, rfl⟩
              go_upto_region 41 with fail
              obtain ⟨bb, hbb⟩ : ∃ bb : Bool, bb = (decide (a < s) && decide (s < mid)) := ⟨_, rfl⟩
              have HBB := Aside0.mk hbb
              clear hbb
              go_cut [199] (fun v w1 => v = .bool bb ∧ wo = w1)
              case first => as_aux_lemma =>
                by_cases hx : a < s
                · have hxb : decide (a < s) = true := decide_eq_true hx
                  by_cases hy : s < mid
                  · have hyb : decide (s < mid) = true := decide_eq_true hy
                    go_wp2_with fail
                    go_meet
                    case rel => exact ⟨congrArg Value.bool (by rw [HBB.out]; simp [hx, hy]), rfl⟩
                  · have hyb : decide (s < mid) = false := decide_eq_false hy
                    go_wp2_with fail
                    go_meet
                    case rel => exact ⟨congrArg Value.bool (by rw [HBB.out]; simp [hx, hy]), rfl⟩
                · have hxb : decide (a < s) = false := decide_eq_false hx
                  go_wp2_with fail
                  go_meet
                  case rel => exact ⟨congrArg Value.bool (by rw [HBB.out]; simp [hx]), rfl⟩
              case rest => as_aux_lemma =>
                obtain ⟨rfl, rfl⟩ := hcut
                go_upto_if 199 with (fail)
                go_cut [24] (fun v24 w1 => v24 = .int .i64 e ∧ Aside0 (Ar w1 g n P) ∧ Aside0 (w.grownBy w1 (some g)))
                case first => as_aux_lemma =>
                  cases bb
                  · go_wp2_with fail
                    go_meet
                    case rel => exact ⟨rfl, HR, HG⟩
                  · have hq : a < s ∧ s < mid := by have := HBB.out; simpa using this
                    have HS2 := Aside0.mk (HIH.out a s mid (by omega) hq.1 hq.2 (by omega) wo (gb_trans HW.out HG.out) HR.out)
                    go_wp2_with (go_at_call 83; go_loud ((with_reducible refine HS2.out.mono ?_); rintro _ wa ⟨rfl, ha, hg⟩; have HRA := Aside0.mk ha; have HGA := Aside0.mk hg; clear ha hg))
                    go_meet
                    case rel => exact ⟨rfl, HRA, ⟨gb_trans HG.out HGA.out⟩⟩
                case rest => as_aux_lemma =>
                  clear HR HG HBB
                  obtain ⟨rfl, HR, HG⟩ := hcut
                  obtain ⟨wp, rfl⟩ : ∃ wp : World, wp = wc := ⟨_, rfl⟩
                  go_upto_region 43 with fail
                  obtain ⟨bb, hbb⟩ : ∃ bb : Bool, bb = (decide (mid < e) && decide (e < b)) := ⟨_, rfl⟩
                  have HBB := Aside0.mk hbb
                  clear hbb
                  go_cut [213] (fun v w1 => v = .bool bb ∧ wp = w1)
                  case first => as_aux_lemma =>
                    by_cases hx : mid < e
                    · have hxb : decide (mid < e) = true := decide_eq_true hx
                      by_cases hy : e < b
                      · have hyb : decide (e < b) = true := decide_eq_true hy
                        go_wp2_with fail
                        go_meet
                        case rel => exact ⟨congrArg Value.bool (by rw [HBB.out]; simp [hx, hy]), rfl⟩
                      · have hyb : decide (e < b) = false := decide_eq_false hy
                        go_wp2_with fail
                        go_meet
                        case rel => exact ⟨congrArg Value.bool (by rw [HBB.out]; simp [hx, hy]), rfl⟩
                    · have hxb : decide (mid < e) = false := decide_eq_false hx
                      go_wp2_with fail
                      go_meet
                      case rel => exact ⟨congrArg Value.bool (by rw [HBB.out]; simp [hx]), rfl⟩
                  case rest => as_aux_lemma =>
                    obtain ⟨rfl, rfl⟩ := hcut
                    cases bb
                    · go_wp2_with fail
                      go_end0
                      exact ⟨rfl, HR.out, HG.out⟩
                    · have hq : mid < e ∧ e < b := by have := HBB.out; simpa using this
                      have HS2 := Aside0.mk (HIH.out mid e b (by omega) hq.1 hq.2 (by omega) wp (gb_trans HW.out HG.out) HR.out)
                      go_wp2_with (go_at_call 83; go_loud ((with_reducible refine HS2.out.mono ?_); rintro _ wa ⟨rfl, ha, hg⟩; have HRA := Aside0.mk ha; have HGA := Aside0.mk hg; clear ha hg))
                      go_end0
                      exact ⟨rfl, HRA.out, gb_trans HG.out HGA.out⟩
end Go.Proofs.Ytjgelmfkoefclaa.PAll

-- from YtjgelmfkoefclaaGivSort5
/- Go's stable sort, whole: it ends, and the row holds what it held (by a predicate). -/
namespace Go.Proofs.Ytjgelmfkoefclaa.PAll
open Go.RowKit Go.Proofs.YtjgelmfkoefclaaW.PrintWords Go.Proofs.YtjgelmfkoefclaaW.PrintLast Go.Proofs.YtjgelmfkoefclaaW.PrintMore
set_option linter.unusedVariables false
set_option linter.unusedSimpArgs false

theorem merge_calls (g n c : Nat) (P : Int → Prop) (w0 : World) (cap : Value) (zf : Int → Int → Int) (hC : Cmp 69 cap w0 g P zf) (hn : n ≤ 1000000) (N : Nat) :
    ∀ (a m b : Nat), b - a ≤ N → a < m → m < b → b ≤ n → ∀ w : World, w0.grownBy w (some g) → Ar w g n P → Calls Try.prog 83 #[.slice (some ⟨g, 0, none⟩) n c, .int .i64 a, .int .i64 m, .int .i64 b, .func (.func 69) #[] #[cap]] w fun e w' => e = .returned (.tuple #[]) ∧ Ar w' g n P ∧ w.grownBy w' (some g) := by
  induction N with
  | zero => intro a m b h1 h2 h3; omega
  | succ N ih =>
    intro a m b h1 h2 h3 h4 w hw hA
    by_cases e1 : m = a + 1
    · exact merge_one g n c P a m b w0 cap zf hC w hw hA e1 h3 h4 hn
    · by_cases e2 : b = m + 1
      · exact merge_two g n c P a m b w0 cap zf hC w hw hA e2 (by omega) h4 hn
      · by_cases e3 : (a + b) / 2 < m
        · exact merge_more g n c P w0 cap zf hC hn N ih a m b ((a + b) / 2) ((a + b) / 2 + m - b) ((a + b) / 2) w hw hA h1 (by omega) (by omega) h4 rfl (.inl ⟨e3, by omega, rfl⟩)
        · exact merge_more g n c P w0 cap zf hC hn N ih a m b ((a + b) / 2) a m w hw hA h1 (by omega) (by omega) h4 rfl (.inr ⟨by omega, rfl, rfl⟩)

theorem merge_any (g n c : Nat) (P : Int → Prop) (w0 : World) (cap : Value) (zf : Int → Int → Int) (hC : Cmp 69 cap w0 g P zf) (hn : n ≤ 1000000) (a m b : Nat) (a' m' b' : Int) (ea : a' = (a : Nat)) (em : m' = (m : Nat)) (eb : b' = (b : Nat)) (h1 : a < m) (h2 : m < b) (h3 : b ≤ n) (w : World) (hw : w0.grownBy w (some g)) (hA : Ar w g n P) :
    Calls Try.prog 83 #[.slice (some ⟨g, 0, none⟩) n c, .int .i64 a', .int .i64 m', .int .i64 b', .func (.func 69) #[] #[cap]] w fun e w' => e = .returned (.tuple #[]) ∧ Ar w' g n P ∧ w.grownBy w' (some g) := by
  subst ea em eb
  exact merge_calls g n c P w0 cap zf hC hn (b - a) a m b (Nat.le_refl _) h1 h2 h3 w hw hA

set_option maxHeartbeats 4000000 in
set_option maxRecDepth 100000 in
theorem stable_calls (g n c : Nat) (P : Int → Prop) (w0 : World) (cap : Value) (zf : Int → Int → Int) (hC : Cmp 69 cap w0 g P zf) (hn : n ≤ 1000000) (w : World) (hw : w0.grownBy w (some g)) (hA : Ar w g n P) :
    Calls Try.prog 77 #[.slice (some ⟨g, 0, none⟩) n c, .int .i64 n, .func (.func 69) #[] #[cap]] w fun e w' => e = .returned (.tuple #[]) ∧ Ar w' g n P ∧ w.grownBy w' (some g) := by
  have HA := Aside0.mk hA
  have HC := Aside0.mk hC
  have HW := Aside0.mk hw
  clear hA hC hw
  go_enter Try.func77, Try.ntmps77
  go_wp2_with fail
  go_loopw [7, 8] (fun v7 v8 wr => ∃ i j : Nat, v7 = .int .i64 i ∧ v8 = .int .i64 j ∧ i + 20 ≤ j ∧ j ≤ i + 20 ∧ i ≤ n ∧ Aside0 (Ar wr g n P) ∧ Aside0 (w.grownBy wr (some g))) (fun v7 _ _ => n - (intOf v7).toNat)
  case atStart => exact ⟨0, 20, rfl, rfl, by omega, by omega, by omega, HA, ⟨gb_refl _ _⟩⟩
  case round =>
    obtain ⟨i, j, rfl, rfl, hj1, hj2, hin, HR, HG⟩ := hrel
    by_cases hlt : j ≤ n
    · as_aux_lemma =>
        have hb1 : decide (j ≤ n) = true := decide_eq_true hlt
        have HS := Aside0.mk (insertion_calls g n c P i j w0 cap zf HC.out wr (gb_trans HW.out HG.out) HR.out hlt hn (by omega))
        go_wp2_with (go_at_call 82; go_loud ((with_reducible refine HS.out.mono ?_); rintro _ wa ⟨rfl, ha, hg⟩; have HRA := Aside0.mk ha; have HGA := Aside0.mk hg; clear ha hg))
        go_roundw
        case rel => exact ⟨j, j + 20, rfl, by go_num, by omega, by omega, by omega, HRA, ⟨gb_trans HG.out HGA.out⟩⟩
        case measure => simp [intOf]; omega
    · as_aux_lemma =>
        have hb1 : decide (j ≤ n) = false := decide_eq_false hlt
        have HS := Aside0.mk (insertion_calls g n c P i n w0 cap zf HC.out wr (gb_trans HW.out HG.out) HR.out (Nat.le_refl _) hn (by omega))
        obtain ⟨wo, rfl⟩ : ∃ wo : World, wo = wr := ⟨_, rfl⟩
        go_wp2_with (go_at_call 82; go_loud ((with_reducible refine HS.out.mono ?_); rintro _ wa ⟨rfl, ha, hg⟩; have HRA := Aside0.mk ha; have HGA := Aside0.mk (gb_trans HG.out hg); clear ha hg))
        clear HR HG HA
        go_loopw [6, 7, 8, 9] (fun v6 _ _ _ wr => ∃ k : Nat, v6 = .int .i64 k ∧ 1 ≤ k ∧ k ≤ 2000000 ∧ Aside0 (Ar wr g n P) ∧ Aside0 (w.grownBy wr (some g))) (fun v6 _ _ _ _ => n - (intOf v6).toNat)
        case atStart => exact ⟨20, rfl, by omega, by omega, HRA, HGA⟩
        case round =>
          obtain ⟨k, rfl, hk1, hk2, HRB, HGB⟩ := hrel
          clear HRA HGA HS
          obtain ⟨wp, rfl⟩ : ∃ wp : World, wp = wr := ⟨_, rfl⟩
          by_cases hkn : k < n
          · as_aux_lemma =>
              have hb2 : decide (k < n) = true := decide_eq_true hkn
              go_wp2_with fail
              go_loopw [7, 8] (fun v7 v8 wr => ∃ i j : Nat, v7 = .int .i64 i ∧ v8 = .int .i64 j ∧ i + 2 * k ≤ j ∧ j ≤ i + 2 * k ∧ i ≤ n ∧ Aside0 (Ar wr g n P) ∧ Aside0 (w.grownBy wr (some g))) (fun v7 _ _ => n - (intOf v7).toNat)
              case atStart => exact ⟨0, 2 * k, rfl, by go_num, by omega, by omega, by omega, HRB, HGB⟩
              case round =>
                obtain ⟨i, j, rfl, rfl, hj1, hj2, hin, HR, HG⟩ := hrel
                clear HRB HGB
                by_cases hlt : j ≤ n
                · as_aux_lemma =>
                    have hb1 : decide (j ≤ n) = true := decide_eq_true hlt
                    have HS := Aside0.mk (merge_any g n c P w0 cap zf HC.out hn i (i + k) j i ((i : Int) + (k : Int)) j rfl (by omega) rfl (by omega) (by omega) hlt wr (gb_trans HW.out HG.out) HR.out)
                    go_wp2_with (go_at_call 83; go_loud ((with_reducible refine HS.out.mono ?_); rintro _ wa ⟨rfl, ha, hg⟩; have HRA := Aside0.mk ha; have HGA := Aside0.mk hg; clear ha hg))
                    go_roundw
                    case rel => exact ⟨j, j + 2 * k, rfl, by go_num, by omega, by omega, by omega, HRA, ⟨gb_trans HG.out HGA.out⟩⟩
                    case measure => simp [intOf]; omega
                · as_aux_lemma =>
                    have hb1 : decide (j ≤ n) = false := decide_eq_false hlt
                    by_cases hm : i + k < n
                    · have hmb : decide ((i : Int) + (k : Int) < (n : Int)) = true := decide_eq_true (by omega)
                      have HS := Aside0.mk (merge_any g n c P w0 cap zf HC.out hn i (i + k) n i ((i : Int) + (k : Int)) n rfl (by omega) rfl (by omega) hm (Nat.le_refl _) wr (gb_trans HW.out HG.out) HR.out)
                      go_wp2_with (go_at_call 83; go_loud ((with_reducible refine HS.out.mono ?_); rintro _ wa ⟨rfl, ha, hg⟩; have HRA := Aside0.mk ha; have HGA := Aside0.mk hg; clear ha hg))
                      go_roundw
                      case rel => exact ⟨k * 2, by go_num, by omega, by omega, HRA, ⟨gb_trans HG.out HGA.out⟩⟩
                      case measure => simp [intOf]; omega
                    · have hmb : decide ((i : Int) + (k : Int) < (n : Int)) = false := decide_eq_false (by omega)
                      go_wp2_with fail
                      go_roundw
                      case rel => exact ⟨k * 2, by go_num, by omega, by omega, HR, HG⟩
                      case measure => simp [intOf]; omega
          · as_aux_lemma =>
              have hb2 : decide (k < n) = false := decide_eq_false hkn
              go_wp2_with fail
              go_end0
              exact ⟨rfl, HRB.out, HGB.out⟩

set_option maxHeartbeats 2000000 in
set_option maxRecDepth 100000 in
theorem sort_calls (g n c : Nat) (P : Int → Prop) (w0 : World) (cap : Value) (zf : Int → Int → Int) (hC : Cmp 69 cap w0 g P zf) (hn : n ≤ 1000000) (w : World) (hw : w0.grownBy w (some g)) (hA : Ar w g n P) :
    Calls Try.prog 68 #[.slice (some ⟨g, 0, none⟩) n c, .func (.func 69) #[] #[cap]] w fun e w' => e = .returned (.tuple #[]) ∧ Ar w' g n P ∧ w.grownBy w' (some g) := by
  have HS := Aside0.mk (stable_calls g n c P w0 cap zf hC hn w hw hA)
  clear hA hC hw
  go_enter Try.func68, Try.ntmps68
  go_wp2_with (go_at_call 77; go_loud ((with_reducible refine HS.out.mono ?_); rintro _ wa ⟨rfl, ha, hg⟩; have HRA := Aside0.mk ha; have HGA := Aside0.mk hg; clear ha hg))
  go_end0
  exact ⟨rfl, HRA.out, HGA.out⟩
end Go.Proofs.Ytjgelmfkoefclaa.PAll

-- from YtjgelmfkoefclaaGivTable
/- A table of a signature's blocks. -/
namespace Go.Proofs.Ytjgelmfkoefclaa.PAll
open Go.RowKit Go.Proofs.YtjgelmfkoefclaaW.PrintWords Go.Proofs.YtjgelmfkoefclaaW.PrintLast Go.Proofs.YtjgelmfkoefclaaW.PrintMore
set_option linter.unusedVariables false
set_option linter.unusedSimpArgs false

set_option maxHeartbeats 2000000 in
set_option maxRecDepth 100000 in
theorem less_calls (gb q n c : Nat) (ws : List Int) (bl size : Int) (vS : Value) (x y : Nat) (hx : x < n) (hy : y < n) (w : World)
    (hb : w.heap[gb]? = some (.cells #[.int .i64 bl, .int .i64 size, .slice (some ⟨q, 0, none⟩) n c, vS] 71 (0, 0)))
    (hc : ∀ i : Nat, i < n → w.cell? ⟨q, i, none⟩ = some (.int .i64 (rd ws i))) :
    Calls Try.prog 69 #[.int .i64 x, .int .i64 y, .pointer (some ⟨gb, 0, none⟩)] w fun e w' => e = .returned (.int .i64 (wrap64 (rd ws x - rd ws y))) ∧ ∃ m, w' = w.drewN m := by
  obtain ⟨p0, p1, p2, p3⟩ := blk4 hb
  have q1 : (x : Int) < (n : Int) := by omega
  have q2 : (y : Int) < (n : Int) := by omega
  have q1b : decide (x < n) = true := decide_eq_true (by omega)
  have q2b : decide (y < n) = true := decide_eq_true (by omega)
  have hcx := hc x hx
  have hcy := hc y hy
  clear hc hb
  go_enter Try.func69, Try.ntmps69
  go_wp2_with fail
  go_quiet (fail)
  go_wp2_with fail
  go_ret
  exact ⟨rfl, _, rfl⟩

/-! ### the sort of no elements -/
set_option maxHeartbeats 2000000 in
set_option maxRecDepth 100000 in
theorem insertion_nil (A : Option Addr) (c : Nat) (cap : Value) (w : World) :
    Calls Try.prog 82 #[.slice A 0 c, .int .i64 0, .int .i64 0, .func (.func 69) #[] #[cap]] w fun e w' => e = .returned (.tuple #[]) ∧ Below w.heap.size w w' := by
  go_enter Try.func82, Try.ntmps82
  go_wp2_with fail
  go_loopw [8] (fun v8 wr => v8 = .int .i64 1 ∧ w = wr) (fun _ _ => 0)
  case atStart => exact ⟨rfl, rfl⟩
  case round =>
    obtain ⟨rfl, rfl⟩ := hrel
    go_wp2_with fail
    go_end0
    exact ⟨rfl, Below.refl _ _⟩
set_option maxHeartbeats 2000000 in
set_option maxRecDepth 100000 in
theorem stable_nil (A : Option Addr) (c : Nat) (cap : Value) (w : World) :
    Calls Try.prog 77 #[.slice A 0 c, .int .i64 0, .func (.func 69) #[] #[cap]] w fun e w' => e = .returned (.tuple #[]) ∧ Below w.heap.size w w' := by
  go_enter Try.func77, Try.ntmps77
  go_wp2_with fail
  go_loopw [7, 8] (fun v7 v8 wr => v7 = .int .i64 0 ∧ v8 = .int .i64 20 ∧ w = wr) (fun _ _ _ => 0)
  case atStart => exact ⟨rfl, rfl, rfl⟩
  case round =>
    obtain ⟨rfl, rfl, rfl⟩ := hrel
    go_wp2_with (go_at_call 82; go_loud ((with_reducible refine (insertion_nil A c cap w).mono ?_); rintro _ wa ⟨rfl, hb⟩; have HB := Aside0.mk hb; clear hb))
    go_loopw [6, 7, 8, 9] (fun v6 _ _ _ wr => v6 = .int .i64 20 ∧ Aside0 (Below w.heap.size w wr)) (fun _ _ _ _ _ => 0)
    case atStart => exact ⟨rfl, HB⟩
    case round =>
      obtain ⟨rfl, HB2⟩ := hrel
      go_wp2_with fail
      go_end0
      exact ⟨rfl, HB2.out⟩
set_option maxHeartbeats 2000000 in
set_option maxRecDepth 100000 in
theorem sort_nil (A : Option Addr) (c : Nat) (cap : Value) (w : World) :
    Calls Try.prog 68 #[.slice A 0 c, .func (.func 69) #[] #[cap]] w fun e w' => e = .returned (.tuple #[]) ∧ Below w.heap.size w w' := by
  go_enter Try.func68, Try.ntmps68
  go_wp2_with (go_at_call 77; go_loud ((with_reducible refine (stable_nil A c cap w).mono ?_); rintro _ wa ⟨rfl, hb⟩; have HB := Aside0.mk hb; clear hb))
  go_end0
  exact ⟨rfl, HB.out⟩

theorem R_none0 {α : Type} {d : Kd α} {e base n c : Nat} {w : World} {ok : Nat → Prop} {A : Option Addr} {xs : List α} (h : d.R e w base ok (.slice A n c) xs) (h0 : A = none) : c = 0 := by
  obtain ⟨inner, ho⟩ := Kd.R_own h
  rcases ho.2 with ⟨h1, _⟩ | ⟨g, cap, cur, h1, _⟩
  · injection h1
  · subst h0; injection h1 with h1; cases h1

theorem cmp_of (w wo wr : World) (T q q1 nb c1 n1 base : Nat) (okW : Nat → Prop) (ws : List Int) (bl n : Int) (vS : Value) (hW : Kd.R (Kd.int .i64) 3 w base okW (.slice (some ⟨q1, 0, none⟩) n1 c1) ws) (h1 : Below w.heap.size w wo) (h2 : wo.grownBy wr (some T)) (hT : w.heap.size < T) (hq : w.heap.size < q) (hq1 : q1 < w.heap.size) (hn : nb ≤ n1)
    (hz : wo.heap[w.heap.size]? = some (.cells #[.int .i64 bl, .int .i64 n, .slice (some ⟨q1, 0, none⟩) n1 c1, vS] 71 (0, 0))) :
    Cmp 69 (.pointer (some ⟨w.heap.size, 0, none⟩)) wr q (fun x => 0 ≤ x ∧ x < nb) (fun x y => wrap64 (rd ws x - rd ws y)) := by
  intro wx x y hg hx hy
  have hz2 := blk_gb h2 hz (by omega)
  have hz3 := blk_gb hg hz2 (by omega)
  have hc := row_cells hW h1 h2 (by omega) hq1
  have hc3 : ∀ i : Nat, i < n1 → wx.cell? ⟨q1, i, none⟩ = some (.int .i64 (rd ws i)) := fun i hi => by
    have hlt : q1 < wr.heap.size := World.block_lt_of_cell? wr ⟨q1, i, none⟩ (hc i hi)
    exact (World.cell?_of_block (a := ⟨q1, i, none⟩) (hg.block q1 hlt (fun e => by injection e with e; omega))).trans (hc i hi)
  obtain ⟨x', rfl⟩ : ∃ x' : Nat, x = x' := ⟨x.toNat, by omega⟩
  obtain ⟨y', rfl⟩ : ∃ y' : Nat, y = y' := ⟨y.toNat, by omega⟩
  exact less_calls w.heap.size q1 n1 c1 ws bl n vS x' y' (by omega) (by omega) wx hz3 hc3

set_option maxHeartbeats 4000000 in
set_option maxRecDepth 100000 in
theorem newtable_calls (bl n : Nat) (ws : List Int) (ss : List ByteArray) (vW vS : Value) (base : Nat) (okW okS : Nat → Prop) (w : World) (hW : Kd.R (Kd.int .i64) 3 w base okW vW ws) (hS : Kd.R Kd.string 9 w base okS vS ss) (h0 : 16 ≤ bl) (h1 : bl ≤ 1024) (hn : n ≤ 524288) (hl : ws.length = nB n bl) (hls : ss.length = ws.length) (hw : ∀ x ∈ ws, 0 ≤ x ∧ x ≤ 4294967295) (hs : ∀ s ∈ ss, s.size = 32) :
    Calls Try.prog 48 #[.agg #[.int .i64 bl, .int .i64 n, vW, vS]] w fun e w' => ∃ T, e = .returned (.tuple #[.pointer (some ⟨T, 0, none⟩), .int .i64 0]) ∧ Below w.heap.size w w' ∧ Tb w w' T bl n ws ss (n / bl) := by
  obtain ⟨A1, c1, rfl, hc1, hC1⟩ := Kd.R_reads hW
  obtain ⟨A2, c2, rfl, hc2, hC2⟩ := Kd.R_reads hS
  have hnw : ws.length ≤ 1000000 := by rw [hl]; have := nB_le n bl (by omega); omega
  have HRF := Aside0.mk (fun wx h h' => sign_Right.calls 1000010 bl n A1 c1 ws A2 c2 ss true wx h hc1 h' hc2 (rightsig_f ws ss bl n h0 h1 hn hl hls hw hs))
  have HC1 := Aside0.mk hC1
  have HC2 := Aside0.mk hC2
  have HN1 := Aside0.mk (fun (e : A1 = none) => R_none0 hW e)
  have HN2 := Aside0.mk (fun (e : A2 = none) => R_none0 hS e)
  have HWR := Aside0.mk hW
  have HLS := Aside0.mk hls
  have HLN := Aside0.mk hl
  obtain ⟨W1, hW1⟩ : ∃ W1, W1 = w.alloc (.cells #[.int .i64 bl, .int .i64 n, .slice A1 ws.length c1, .slice A2 ss.length c2] 71 (0, 0)) := ⟨_, rfl⟩
  have HZ : Aside0 (W1.heap[w.heap.size]? = some (.cells #[.int .i64 bl, .int .i64 n, .slice A1 ws.length c1, .slice A2 ss.length c2] 71 (0, 0))) := ⟨by rw [hW1]; exact blk_new _ _⟩
  have HBW : Aside0 (Below w.heap.size w W1) := ⟨by rw [hW1]; exact below_alloc (Below.refl _ _) _⟩
  have HW1 := Aside0.mk hW1
  clear hW1 hW hS hC1 hC2 hls hl hw hs hc1 hc2
  have hu := Try.underlying71
  go_enter Try.func48, Try.ntmps48
  go_upto_region 1 with fail
  rw [← HW1.out]
  obtain ⟨p0, p1, p2, p3⟩ := blk4 HZ.out
  go_upto_region 3 with (go_at_call 65; go_loud ((with_reducible refine (HRF.out _ (Kd.C_below HC1.out HBW.out) (Kd.C_below HC2.out HBW.out)).mono ?_); rintro _ wa ⟨rfl, hbb⟩; have HBA := Aside0.mk (below_step HBW.out hbb); have HZA := Aside0.mk (blk_below HZ.out hbb); clear hbb))
  clear p0 p1 p2 p3
  obtain ⟨p0, p1, p2, p3⟩ := blk4 HZA.out
  go_cut [4] (fun v4 wz => ∃ (T : Nat) (vW vS : Value), v4 = .pointer (some ⟨T, 0, none⟩) ∧ Aside0 (Below w.heap.size w wz) ∧ Aside0 (wz.heap[w.heap.size]? = some (.cells #[.int .i64 bl, .int .i64 n, .slice A1 ws.length c1, .slice A2 ss.length c2] 71 (0, 0))) ∧ Aside0 (w.heap.size < T) ∧ Aside0 (wz.heap[T]? = some (.cells #[.int .i64 bl, .int .i64 n, vW, vS, .slice none 0 0, .slice none 0 0] 118 (0, 0))) ∧ Aside0 (Kd.R (Kd.int .i64) 3 wz w.heap.size (fun _ => True) vW ws) ∧ Aside0 (Kd.R Kd.string 9 wz w.heap.size (fun _ => True) vS ss))
  case first => as_aux_lemma =>
    go_region_held3 (fun w' => w'.cell? ⟨w.heap.size, 0, none⟩ = some (.int .i64 bl) ∧ w'.cell? ⟨w.heap.size, 1, none⟩ = some (.int .i64 n) ∧ w'.cell? ⟨w.heap.size, 2, none⟩ = some (.slice A1 ws.length c1) ∧ w'.cell? ⟨w.heap.size, 3, none⟩ = some (.slice A2 ss.length c2)) (go_keep) (first | (go_at_call 66; ((with_reducible refine (clone_ints A1 ws.length c1 ws (by omega) _ ?hc HN1.out).mono ?_); (case hc => exact Kd.C_below HC1.out (below_drew1 HBA.out)); rintro _ wb ⟨v1, rfl, hr1, hb1⟩; obtain ⟨B1, d1, rfl⟩ := Kd.R_slice hr1; have HBB := Aside0.mk (below_step (below_drew1 HBA.out) hb1); have HZB := Aside0.mk (blk_below (blk_drew HZA.out) hb1); have HRB := Aside0.mk (Kd.R_lower hr1 (below_size (below_drew1 HBA.out))); clear hr1 hb1; clear p0 p1 p2 p3; obtain ⟨p0, p1, p2, p3⟩ := blk4 HZB.out)) | (go_at_call 67; ((with_reducible refine (clone_strs A2 ss.length c2 ss (by have := HLS.out; omega) _ ?hd HN2.out).mono ?_); (case hd => exact Kd.C_below HC2.out HBB.out); rintro _ wc ⟨v2, rfl, hr2, hb2⟩; obtain ⟨B2, d2, rfl⟩ := Kd.R_slice hr2; have HBC := Aside0.mk (below_step HBB.out hb2); have HZC := Aside0.mk (blk_below HZB.out hb2); have HRC := Aside0.mk (Kd.R_below HRB.out hb2); have HSC := Aside0.mk (Kd.R_lower hr2 (below_size HBB.out)); clear hr2 hb2; clear p0 p1 p2 p3; obtain ⟨p0, p1, p2, p3⟩ := blk4 HZC.out)))
    all_goals
      go_wp2_with fail
      go_meet
      case rel => exact ⟨_, _, _, rfl, ⟨below_alloc HBC.out _⟩, ⟨blk_alloc HZC.out _⟩, ⟨blk_lt HZC.out⟩, ⟨blk_new _ _⟩, ⟨Kd.R_alloc HRC.out _⟩, ⟨Kd.R_alloc HSC.out _⟩⟩
  case rest => as_aux_lemma =>
    obtain ⟨T, vW, vS, rfl, HBT, HZT, HLT, HTT, HRT, HST⟩ := hcut
    clear HBA HZA HRF HZ HBW HW1 p0 p1 p2 p3
    obtain ⟨wo, rfl⟩ : ∃ wo : World, wo = wc := ⟨_, rfl⟩
    obtain ⟨p0, p1, p2, p3⟩ := blk4 HZT.out
    have hb0 : ¬ ((bl : Int) = 0) := by omega
    obtain ⟨nb, hnb⟩ : ∃ nb : Nat, nb = n / bl := ⟨_, rfl⟩
    have hnbw : wrap64 ((n : Int) / (bl : Int)) = (nb : Int) := by
      have h : nb ≤ n := by rw [hnb]; exact Nat.div_le_self _ _
      rw [show (n : Int) / (bl : Int) = (nb : Int) by rw [hnb]; exact (Int.natCast_ediv _ _).symm]
      unfold wrap64; omega
    have hnbn : nb ≤ n := by rw [hnb]; exact Nat.div_le_self _ _
    have hnbl : nb ≤ ws.length := by rw [hnb, HLN.out]; unfold nB; exact Nat.div_le_div_right (by omega)
    have HNB := Aside0.mk hnb
    have HNBW := Aside0.mk hnbw
    clear hnb hnbw
    go_upto_block 0 with fail
    rw [HNBW.out]
    go_wp2_with fail
    go_loopw [29, 5] (fun v29 _ wr => ∃ (i : Nat) (vb : Value), v29 = .int .i64 i ∧ i ≤ nb ∧ Aside0 (Tl wo wr T bl n vW vS (.slice none 0 0) vb vb (iotaI i))) (fun v29 _ _ => nb - (intOf v29).toNat)
    case atStart => exact ⟨0, _, rfl, Nat.zero_le _, ⟨gb_refl _ _, blk_lt HTT.out, HTT.out, Kd.R_nil _ _ _ _ _⟩⟩
    case round =>
      obtain ⟨i, vb, rfl, hi, HTL⟩ := hrel
      by_cases hlt : i < nb
      · as_aux_lemma =>
          have hb1 : decide (i < nb) = true := decide_eq_true hlt
          obtain ⟨Ab, cb, hvb⟩ := Kd.R_slice HTL.out.r
          rw [iotaI_length] at hvb
          subst hvb
          obtain ⟨t0, t1, t2, t3, t4, t5⟩ := blk6 HTL.out.t
          go_wp2_with ((with_reducible refine gate_builtin (b := .append) (xs := #[.tmp 36, .tmp 38]) rfl ?_); at_builtin; go_loud (refine Kd.R_append (Kd.int .i64) (w0 := wr) (W := wr) wo.heap.size rfl (.tmp 36) (.tmp 38) 69 3 (.int .i64 0) 8 rfl Try.underlying69 info3 (by decide) (by decide) (by decide) (.slice Ab i cb) (iotaI i) (i : Int) [.int .i64 i] (fun _ => True) (fun _ => False) rfl rfl rfl (fun _ hk => hk.elim) (fun _ _ => trivial) HTL.out.r (Below.refl _ _) ?aS ?aL ?_; (case aS => exact HTL.out.gb.size); (case aL => rw [iotaI_length]; omega); intro v1 w1 hR1 hB1 hG1 hO1; obtain ⟨A1', c1', hv1⟩ := Kd.R_slice hR1; rw [List.length_append, List.length_singleton, iotaI_length] at hv1; subst hv1; have HPUT := Aside0.mk (HTL.out.put hR1 hG1 5 (vk1 := .slice none 0 0) (vb1 := .slice A1' (i + 1) c1') rfl); obtain ⟨e0, e1, e2, e3, e4, e5⟩ := blk6 (blk_grown HTL.out.t hG1 (fun e => by have := Kd.R_base HTL.out.r _ e.symm; have := HTL.out.lt; omega)); obtain ⟨f4, f5⟩ := blk6f (blk_grown HTL.out.t hG1 (fun e => by have := Kd.R_base HTL.out.r _ e.symm; have := HTL.out.lt; omega)); clear hR1 hB1 hG1 hO1))
          go_roundw
          case rel =>
            refine ⟨i + 1, .slice A1' (i + 1) c1', by go_num, by omega, ?_⟩
            rw [iotaI_succ]
            exact HPUT
          case measure => simp [intOf]; omega
      · as_aux_lemma =>
          have hb1 : decide (i < nb) = false := decide_eq_false hlt
          have hie : i = nb := by omega
          subst hie
          obtain ⟨Ab, cb, hvb⟩ := Kd.R_slice HTL.out.r
          rw [iotaI_length] at hvb
          subst hvb
          obtain ⟨t0, t1, t2, t3, t4, t5⟩ := blk6 HTL.out.t
          go_upto_region 9 with fail
          go_cut [4] (fun v4 wz => v4 = .pointer (some ⟨T, 0, none⟩) ∧ Aside0 (wo.grownBy wz (some T)) ∧ Aside0 (wz.heap[T]? = some (.cells #[.int .i64 bl, .int .i64 n, vW, vS, .slice none 0 0, .slice Ab i cb] 118 (0, 0))) ∧ Aside0 (0 < i → ∃ q, Ab = some ⟨q, 0, none⟩ ∧ wo.heap.size ≤ q ∧ Ar wz q i (fun x => 0 ≤ x ∧ x < i)))
          case first => as_aux_lemma =>
            rcases Nat.eq_zero_or_pos i with hi0 | hi0
            · subst hi0
              go_wp2_with (go_at_call 68; go_loud ((with_reducible refine (sort_nil Ab cb (.pointer (some ⟨w.heap.size, 0, none⟩)) _).mono ?_); rintro _ wa ⟨rfl, hb⟩; have HBB := Aside0.mk hb; clear hb))
              go_meet
              case rel => exact ⟨rfl, ⟨gb_below HTL.out.gb HBB.out⟩, ⟨blk_below HTL.out.t HBB.out⟩, ⟨fun h => absurd h (Nat.lt_irrefl 0)⟩⟩
            · obtain ⟨q, cq, hq1, hq2, hq3, _⟩ := Kd.R_form HTL.out.r (by rw [iotaI_length]; exact hi0)
              injection hq1 with hq1 hq1b hq1c
              obtain ⟨q1, cq1, hw1, _, hw3, _⟩ := Kd.R_form HWR.out (by omega)
              injection hw1 with hw1 hw1b hw1c
              subst hq1 hw1
              have HCMP := Aside0.mk (cmp_of w wo wr T q q1 i c1 ws.length base okW ws bl n (.slice A2 ss.length c2) HWR.out HBT.out HTL.out.gb HLT.out (by have := blk_lt HTT.out; have := HLT.out; omega) hw3 hnbl HZT.out)
              have HAR := Aside0.mk (ar_iota HTL.out.r (fun x => 0 ≤ x ∧ x < i) (fun j hj => by
                have e : rd (iotaI i) (j : Int) = (j : Int) := by
                  unfold rd; rw [Int.toNat_natCast, List.getD_eq_getElem?_getD, iotaI_mem i j hj]; rfl
                rw [e]; constructor <;> omega))
              have HQ2 := Aside0.mk hq2
              clear hq1c hw1c hq1b hw1b hq2 hq3 hw3
              go_wp2_with (go_at_call 68; go_loud ((with_reducible refine (sort_calls q i cb (fun x => 0 ≤ x ∧ x < i) wr (.pointer (some ⟨w.heap.size, 0, none⟩)) _ HCMP.out (by omega) _ (gb_refl _ _) HAR.out).mono ?_); rintro _ wa ⟨rfl, ha, hb⟩; have HAA := Aside0.mk ha; have HBB := Aside0.mk hb; clear ha hb))
              go_meet
              case rel => exact ⟨rfl, ⟨gb_own HTL.out.gb HBB.out (fun k hk => by injection hk with hk; have := HQ2.out; omega)⟩, ⟨blk_gb HBB.out HTL.out.t (by have := HQ2.out; have := HTL.out.lt; omega)⟩, ⟨fun _ => ⟨q, rfl, HQ2.out, HAA.out⟩⟩⟩
          case rest => as_aux_lemma =>
            obtain ⟨rfl, HGZ, HTZ, HAZ⟩ := hcut
            obtain ⟨w2, rfl⟩ : ∃ w2 : World, w2 = wc := ⟨_, rfl⟩
            clear HTL t0 t1 t2 t3 t4 t5 p0 p1 p2 p3
            obtain ⟨t0, t1, t2, t3, t4, t5⟩ := blk6 HTZ.out
            have HKN : Aside0 (T < w2.heap.size) := ⟨blk_lt HTZ.out⟩
            go_wp2_with fail
            go_loopw [54, 7] (fun v54 _ wr => ∃ (j : Nat) (vk : Value) (ks : List Int), v54 = .int .i64 j ∧ j ≤ i ∧ Aside0 (ks.length = j) ∧ Aside0 (Tl w2 wr T bl n vW vS vk (.slice Ab i cb) vk ks)) (fun v54 _ _ => i - (intOf v54).toNat)
            case atStart => exact ⟨0, _, [], rfl, Nat.zero_le _, ⟨rfl⟩, ⟨gb_refl _ _, HKN.out, HTZ.out, Kd.R_nil _ _ _ _ _⟩⟩
            case round =>
              obtain ⟨j, vk, ks, rfl, hj, HKL, HTK⟩ := hrel
              clear t0 t1 t2 t3 t4 t5
              by_cases hlt2 : j < i
              · as_aux_lemma =>
                  have hb2 : decide (j < i) = true := decide_eq_true hlt2
                  obtain ⟨Ak, ck, hvk⟩ := Kd.R_slice HTK.out.r
                  rw [HKL.out] at hvk
                  subst hvk
                  obtain ⟨q, hAb, hq2, HAR0⟩ := HAZ.out (by omega)
                  obtain ⟨q1, cq1, hw1, _, hw3, _⟩ := Kd.R_form HWR.out (by omega)
                  injection hw1 with hw1 hw1b hw1c
                  subst hAb hw1
                  have HAR := Aside0.mk (HAR0.gb HTK.out.gb (by have := blk_lt HTT.out; omega))
                  obtain ⟨x0, hx, ⟨hx0, hx1⟩, fx⟩ := HAR.out.at j hlt2
                  obtain ⟨x, rfl⟩ : ∃ x : Nat, x0 = x := ⟨x0.toNat, by omega⟩
                  have hgT := gb_trans HGZ.out HTK.out.gb
                  have hcs := row_cells HWR.out HBT.out hgT (by have := HLT.out; omega) hw3
                  have hx2 := hcs x (by omega)
                  have hzz := blk_gb hgT HZT.out (by have := HLT.out; omega)
                  have HZZ := Aside0.mk hzz
                  obtain ⟨z0, z1, z2, z3⟩ := blk4 hzz
                  obtain ⟨t0, t1, t2, t3, t4, t5⟩ := blk6 HTK.out.t
                  have q1 : (x : Int) < (ws.length : Int) := by omega
                  have q1b : decide (x < ws.length) = true := decide_eq_true (by omega)
                  have q2 : (j : Int) < (i : Int) := by omega
                  have tx4 : ∀ X, (wr.alloc X).cell? ⟨T, 4, none⟩ = some (.slice Ak j ck) := fun X => (blk6 (blk_alloc HTK.out.t X)).2.2.2.2.1
                  obtain ⟨y, hy⟩ : ∃ y, y = rd ws (x : Int) := ⟨_, rfl⟩
                  rw [← hy] at hx2
                  clear hw1b hw1c hq2 hw3 HAR0 fx hgT hcs hzz z0 z1 z3 t0 t1 t2 t3 t5 hx1 hx0 hy
                  go_upto_region 13 with fail
                  have HTD := Aside0.mk (HTK.out.below (below_drew1 (Below.refl _ _)))
                  go_region_law (refine Kd.R_append_step (Kd.int .i64) (w0 := wr.drew) (W := wr.drew) w2.heap.size ?aW (.tmp 62) (.tmp 68) 69 3 (.int .i64 0) 8 ?aO Try.underlying69 info3 (by decide) (by decide) (by decide) (.slice Ak j ck) ks y [.int .i64 y] (fun _ => True) (fun _ => False) ?aS ?aX rfl (fun _ hk => hk.elim) (fun _ _ => trivial) HTD.out.r (Below.refl _ _) HTD.out.gb.size ?aL ?_; (case aW => rfl); (case aO => rfl); (case aS => rfl); (case aX => rfl); (case aL => rw [HKL.out]; omega); intro v1 w1 hR1 hB1 hG1 hO1; obtain ⟨A1', c1', hv1⟩ := Kd.R_slice hR1; rw [List.length_append, List.length_singleton, HKL.out] at hv1; subst hv1; have HPUT := Aside0.mk (HTD.out.put hR1 hG1 4 (vk1 := .slice A1' (j + 1) c1') (vb1 := .slice (some ⟨q, 0, none⟩) i cb) rfl); obtain ⟨e0, e1, e2, e3, e4, e5⟩ := blk6 (blk_grown HTD.out.t hG1 (fun e => by have := Kd.R_base HTD.out.r _ e.symm; have := HTD.out.lt; omega)); obtain ⟨f4, f5⟩ := blk6f (blk_grown HTD.out.t hG1 (fun e => by have := Kd.R_base HTD.out.r _ e.symm; have := HTD.out.lt; omega)); clear hR1 hB1 hG1 hO1)
                  all_goals
                    go_wp2_with fail
                    go_roundw
                    case rel =>
                      refine ⟨j + 1, .slice A1' (j + 1) c1', ks ++ [y], by go_num, by omega, ⟨by rw [List.length_append, HKL.out]; rfl⟩, ?_⟩
                      first | exact HPUT | exact ⟨HPUT.out.below (below_drew1 (Below.refl _ _))⟩
                    case measure => simp [intOf]; omega
              · as_aux_lemma =>
                  have hb2 : decide (j < i) = false := decide_eq_false hlt2
                  have hje : j = i := by omega
                  subst hje
                  go_wp2_with fail
                  have hgT := gb_trans HGZ.out HTK.out.gb
                  refine bodyPost_ret (results_tmp2 rfl _ _ _) rfl ⟨T, rfl, below_gb2 HBT.out hgT (by have := HLT.out; omega), ?_⟩
                  rw [← HNB.out]
                  refine ⟨by have := HLT.out; omega, vW, vS, Ab, cb, vk, ks, HTK.out.t, ?_, ?_, ?_, HKL.out, fun hp => ?_⟩
                  · exact Kd.R_grown2 HRT.out rfl hgT (fun k hk => by injection hk with hk; subst hk; exact Kd.R_ne HRT.out HTT.out (by decide))
                  · exact Kd.R_grown2 HST.out rfl hgT (fun k hk => by injection hk with hk; subst hk; exact Kd.R_ne HST.out HTT.out (by decide))
                  · exact Kd.R_lower HTK.out.r (Nat.le_trans HBT.out.size HGZ.out.size)
                  · obtain ⟨q, h1, h2, h3⟩ := HAZ.out hp
                    exact ⟨q, h1, Nat.le_trans HBT.out.size h2, h3.gb HTK.out.gb (by have := blk_lt HTT.out; omega)⟩
end Go.Proofs.Ytjgelmfkoefclaa.PAll

-- from YtjgelmfkoefclaaGivMake
/- The steps that make a text of the text that was signed. -/
namespace Go.Proofs.Ytjgelmfkoefclaa.PAll
open Go.RowKit Go.Proofs.YtjgelmfkoefclaaW.PrintWords Go.Proofs.YtjgelmfkoefclaaW.PrintLast Go.Proofs.YtjgelmfkoefclaaW.PrintMore Go.Proofs.Ytjgelmfkoefclaa.Pure
set_option linter.unusedVariables false
set_option linter.unusedSimpArgs false
attribute [local go_sem] max2_int min2_int max_two min_two

set_option maxHeartbeats 4000000 in
set_option maxRecDepth 100000 in
theorem make_calls (b M : Nat) (l0 : List ByteArray) (bs s : ByteArray) (bl : Nat) (ws : List Int) (vW vS : Value) (base : Nat) (okW okS : Nat → Prop) (w : World) (hW : Kd.R (Kd.int .i64) 3 w base okW vW ws) (hS : Kd.R Kd.string 9 w base okS vS ((blocksV bs bl).map (markV l0))) (h0 : 16 ≤ bl) (h1 : bl ≤ 1024) (hn : bs.size ≤ 524288) (hl : ws.length = nB bs.size bl) (hw : ∀ x ∈ ws, 0 ≤ x ∧ x ≤ 4294967295) (hm : ∀ j, j < nB bs.size bl → blockV bs bl j ∈ l0) (hB : Bk w b M l0) (hll : l0.length + s.size ≤ 9000000) (hs : s.size ≤ 524288) :
    Calls Try.prog 35 #[.pointer (some ⟨b, 0, none⟩), .agg #[.int .i64 bl, .int .i64 bs.size, vW, vS], .string s] w fun e w' => ∃ (v : Value) (st : List S54) (l' : List ByteArray), e = .returned (.tuple #[v, .int .i64 0]) ∧ Kd.R k54 54 w' w.heap.size (fun _ => True) v st ∧ w.grownBy w' (some M) ∧ Bk w' b M l' ∧ Ext l0 l' ∧ l'.length ≤ l0.length + s.size + 1 ∧ (∀ x ∈ st, okB bs.size x) ∧ runL (L8 bs) st = L8 s := by
  have hls : ((blocksV bs bl).map (markV l0)).length = ws.length := by rw [hl, List.length_map]; unfold blocksV; simp
  have hs32 : ∀ x ∈ (blocksV bs bl).map (markV l0), x.size = 32 := fun x hx => by
    obtain ⟨y, _, rfl⟩ := List.mem_map.mp hx
    exact markV_size _ _
  obtain ⟨ss, hss⟩ : ∃ ss, ss = (blocksV bs bl).map (markV l0) := ⟨_, rfl⟩
  rw [← hss] at hS hls hs32
  obtain ⟨W1, hW1⟩ : ∃ W1, W1 = w.alloc (.cells #[.int .i64 bl, .int .i64 bs.size, vW, vS] 71 (0, 0)) := ⟨_, rfl⟩
  have HNT : Aside0 (Calls Try.prog 48 #[.agg #[.int .i64 bl, .int .i64 bs.size, vW, vS]] W1 fun e w' => ∃ T, e = .returned (.tuple #[.pointer (some ⟨T, 0, none⟩), .int .i64 0]) ∧ Below W1.heap.size W1 w' ∧ Tb W1 w' T bl bs.size ws ss (bs.size / bl)) := ⟨by
    rw [hW1]
    exact newtable_calls bl bs.size ws ss vW vS base okW okS _ (Kd.R_alloc hW _) (Kd.R_alloc hS _) h0 h1 hn hl hls hw hs32⟩
  have HZ : Aside0 (W1.heap[w.heap.size]? = some (.cells #[.int .i64 bl, .int .i64 bs.size, vW, vS] 71 (0, 0))) := ⟨by rw [hW1]; exact blk_new _ _⟩
  have HBW : Aside0 (Below w.heap.size w W1) := ⟨by rw [hW1]; exact below_alloc (Below.refl _ _) _⟩
  have HB1 : Aside0 (Bk W1 b M l0) := ⟨hB.below (by rw [hW1]; exact below_alloc (Below.refl _ _) _)⟩
  have HBL : Aside0 (b < w.heap.size ∧ M < w.heap.size) := ⟨hB.ltb, hB.lt⟩
  have HW1 := Aside0.mk hW1
  have HW1S : Aside0 (w.heap.size < W1.heap.size) := ⟨by rw [hW1]; simp⟩
  have HSS := Aside0.mk hss
  have HLS := Aside0.mk hls
  have HWS := Aside0.mk hl
  have HMM := Aside0.mk hm
  have HLL := Aside0.mk hll
  clear hW1 hW hS hls hs32 hss hl hw hm hB hll
  obtain ⟨y0, y1, y2, y3⟩ := blk4 HZ.out
  go_enter Try.func35, Try.ntmps35
  go_upto_region 1 with fail
  rw [← HW1.out]
  go_step3
  go_upto_region 6 with (go_at_call 48; go_loud ((with_reducible refine HNT.out.mono ?_); rintro _ wa ⟨T, rfl, hbb, htb⟩; have HBA := Aside0.mk hbb; have HTB := Aside0.mk htb; have HBKA := Aside0.mk (HB1.out.below hbb); clear hbb htb))
  obtain ⟨W2, hW2⟩ : ∃ W2, W2 = wa.alloc (.cells #[.slice none 0 0, .slice none 0 0] 96 (0, 0)) := ⟨_, rfl⟩
  have HMK : Aside0 (Mk W2 wa.heap.size wa.heap.size (.slice none 0 0) (.slice none 0 0) [] ⟨#[]⟩) := ⟨by rw [hW2]; exact ⟨Nat.le_refl _, blk_new _ _, Kd.R_nil _ _ _ _ _, .inl ⟨rfl, rfl⟩⟩⟩
  have HG2 : Aside0 (wa.grownBy W2 (some M)) := ⟨by rw [hW2]; exact gb_of (below_alloc (Below.refl _ _) _) _⟩
  have HBK2 : Aside0 (Bk W2 b M l0) := ⟨by rw [hW2]; exact HBKA.out.below (below_alloc (Below.refl _ _) _)⟩
  have HMB : Aside0 (M < W1.heap.size ∧ W1.heap.size ≤ wa.heap.size ∧ b < wa.heap.size) := ⟨by have := HBL.out; have := HW1S.out; have := HBA.out.size; omega⟩
  have HBL2 : Aside0 (∀ wx, wa.grownBy wx (some M) → Calls Try.prog 50 #[.pointer (some ⟨T, 0, none⟩)] wx fun e w' => e = .returned (.int .i64 bl) ∧ Drawn0 wx w') := ⟨fun wx hg => tblock_blk HTB.out HMB.out.1 hg⟩
  go_upto_region 7 with fail
  rw [← hW2]
  clear hW2 y0 y1 y2 y3
  by_cases hsh : s.size < bl
  · have HNW := Aside0.mk (fun wx => rnew_short s bl wx h0 h1 hsh)
    go_upto_block 0 with (first | (go_at_call 50; go_loud ((with_reducible refine (HBL2.out _ HG2.out).mono ?_); rintro _ wb ⟨rfl, hdr⟩; have HGB := Aside0.mk (gb_below HG2.out hdr.below); have HBKB := Aside0.mk (HBK2.out.below hdr.below); have HMKB := Aside0.mk (HMK.out.below hdr.below); clear hdr)) | (go_at_call 49; go_loud ((with_reducible refine (HNW.out _).mono ?_); rintro _ wc ⟨rfl, rfl⟩)))
    go_step3
    go_upto_block 0 with fail
    go_cut [11] (fun v11 wz => ∃ (a : Nat) (vs vt : Value) (st : List S54) (tx : ByteArray) (l' : List ByteArray), v11 = .int .i64 a ∧ a ≤ s.size ∧ Aside0 (Mk wz wa.heap.size wa.heap.size vs vt st tx) ∧ Aside0 (wa.grownBy wz (some M)) ∧ Aside0 (Bk wz b M l') ∧ Aside0 (Ext l0 l') ∧ Aside0 (l'.length ≤ l0.length + a) ∧ Aside0 (Jm (L8 bs) (L8 s) st tx a))
    case first =>
      go_wp2_with fail
      go_loopw [11] (fun v11 wr => v11 = .int .i64 ((0 : Nat) : Int) ∧ wb = wr) (fun _ _ => 0)
      case atStart => exact ⟨rfl, rfl⟩
      case round =>
        obtain ⟨rfl, rfl⟩ := hrel
        go_wp2_with fail
        go_meet
        case rel => exact ⟨0, _, _, [], ⟨#[]⟩, l0, rfl, Nat.zero_le _, HMKB, HGB, HBKB, ⟨Ext.refl _⟩, ⟨Nat.le_refl _⟩, ⟨Jm.nil _ _⟩⟩
    case rest =>
      obtain ⟨a, vs, vt, st, tx, l', rfl, ha, HMR, HGR, HBR, HXR, HLR, HJR⟩ := hcut
      have q1 : (0 : Int) ≤ (a : Int) := by omega
      have q2 : (a : Int) ≤ (s.size : Int) := by omega
      have HJB := Aside0.mk HJR.out.bound
      have HEN := Aside0.mk (fun wx (hg : wa.grownBy wx (some M)) (hb : Bk wx b M l') (hk : Mk wx wa.heap.size wa.heap.size vs vt st tx) => mend_calls W1 wa T b M wa.heap.size bl bs.size ws ss (bs.size / bl) l' (s.extract a s.size) vs vt st tx h0 h1 hn HWS.out HLS.out wx HTB.out HMB.out.1 HMB.out.2.1 HMB.out.2.2 hg hb hk (by have := HLR.out; have := HLL.out; omega) (by rw [ByteArray.size_extract]; omega) (by have := HJB.out; omega) (by have := HJB.out; omega))
      go_wp2_with (go_at_call 56; go_loud ((with_reducible refine (HEN.out _ HGR.out HBR.out HMR.out).mono ?_); rintro _ wy ⟨vs', vt', st', l2, rfl, hmk, hg, hb, hx, hl2, he⟩; have HMY := Aside0.mk hmk; have HGY := Aside0.mk hg; have HBY := Aside0.mk hb; have HXY := Aside0.mk (HXR.out.trans hx); have HLY := Aside0.mk hl2; have HEY := Aside0.mk he; clear hmk hg hb hx hl2 he; obtain ⟨A', c', hv'⟩ := Kd.R_slice HMY.out.r; subst hv'; obtain ⟨t0, t1, f0, f1⟩ := blk2 HMY.out.b))
      rw [Exit.noGoto_ret]
      go_ret2
      have hl3 : l2.length ≤ l0.length + s.size + 1 := by have := HLY.out; have := HLR.out; omega
      have hee := HEY.out
      rw [HSS.out] at hee
      obtain ⟨k1, k2⟩ := HJR.out.fin (l0 := l0) (bl := bl) hn (by omega) HWS.out HXY.out HMM.out (by have := HLL.out; omega) hee
      exact ⟨_, st', l2, rfl, Kd.R_lower HMY.out.r (Nat.le_trans (Nat.le_of_lt HW1S.out) HBA.out.size), gb_trans (gb_of (below_step HBW.out HBA.out) (some M)) HGY.out, HBY.out, HXY.out, hl3, k1, k2⟩
  · have HNW := Aside0.mk (fun wx => rnew_calls s bl wx h0 h1 (by omega))
    go_upto_block 0 with (first | (go_at_call 50; go_loud ((with_reducible refine (HBL2.out _ HG2.out).mono ?_); rintro _ wb ⟨rfl, hdr⟩; have HGB := Aside0.mk (gb_below HG2.out hdr.below); have HBKB := Aside0.mk (HBK2.out.below hdr.below); have HMKB := Aside0.mk (HMK.out.below hdr.below); clear hdr)) | (go_at_call 49; go_loud ((with_reducible refine (HNW.out _).mono ?_); rintro _ wc ⟨R, rfl, hrl, hr2, hbb⟩; have HGC := Aside0.mk (gb_below HGB.out hbb); have HBKC := Aside0.mk (HBKB.out.below hbb); have HMKC := Aside0.mk (HMKB.out.below hbb); have HRL := Aside0.mk hrl; have HR2 := Aside0.mk hr2; clear hbb hrl hr2)))
    go_step3
    go_upto_block 0 with fail
    have HWC : Aside0 (wa.heap.size ≤ wc.heap.size) := ⟨HGC.out.size⟩
    have HBLC : Aside0 (∀ wx, wa.grownBy wx (some M) → Calls Try.prog 50 #[.pointer (some ⟨T, 0, none⟩)] wx fun e w' => e = .returned (.int .i64 bl) ∧ Drawn0 wx w') := HBL2
    go_cut [11] (fun v11 wz => ∃ (a : Nat) (vs vt : Value) (st : List S54) (tx : ByteArray) (l' : List ByteArray), v11 = .int .i64 a ∧ a ≤ s.size ∧ Aside0 (Mk wz wa.heap.size wa.heap.size vs vt st tx) ∧ Aside0 (wa.grownBy wz (some M)) ∧ Aside0 (Bk wz b M l') ∧ Aside0 (Ext l0 l') ∧ Aside0 (l'.length ≤ l0.length + a) ∧ Aside0 (Jm (L8 bs) (L8 s) st tx a))
    case first =>
      go_wp2_with fail
      go_loopw [11, 12] (fun v11 v12 wr => ∃ (a : Nat) (wn : Int) (vs vt : Value) (st : List S54) (tx : ByteArray) (l' : List ByteArray), v11 = .int .i64 a ∧ v12 = .int .i64 wn ∧ a + bl ≤ s.size ∧ Aside0 (Rl wr R s bl a) ∧ Aside0 (Mk wr wa.heap.size wa.heap.size vs vt st tx) ∧ Aside0 (wa.grownBy wr (some M)) ∧ Aside0 (Bk wr b M l') ∧ Aside0 (Ext l0 l') ∧ Aside0 (l'.length ≤ l0.length + a) ∧ Aside0 (Jm (L8 bs) (L8 s) st tx a)) (fun v11 _ _ => s.size + 1 - (intOf v11).toNat)
      case atStart => exact ⟨0, 0, _, _, [], ⟨#[]⟩, l0, rfl, rfl, by omega, HRL, HMKC, HGC, HBKC, ⟨Ext.refl _⟩, ⟨Nat.le_refl _⟩, ⟨Jm.nil _ _⟩⟩
      case round =>
        obtain ⟨a, wn, vs, vt, st, tx, l', rfl, rfl, hab, HRR, HMR, HGR, HBR, HXR, HLR, HJR⟩ := hrel
        have HSM := Aside0.mk (fun wx (h : Rl wx R s bl a) => rsum_calls R s bl a wx h)
        have q1 : (0 : Int) ≤ (a : Int) := by omega
        have q2 : (a : Int) ≤ (a : Int) + (bl : Int) := by omega
        have q3 : (a : Int) + (bl : Int) ≤ (s.size : Int) := by omega
        obtain ⟨p, hp⟩ : ∃ p, p = s.extract a (a + bl) := ⟨_, rfl⟩
        have hps : p.size = bl := by rw [hp, ByteArray.size_extract]; omega
        have HP := Aside0.mk hp
        have hsl : ∀ W, (Instr.slice 9 (.string s) (some (.int .i64 (a : Int))) (some (.int .i64 ((a : Int) + (bl : Int)))) none).run Try.prog W = .ok (.string p) W := fun W => by
          rw [hp, run_slice_string W 9 s .i64 .i64 (a : Int) ((a : Int) + (bl : Int)) Try.underlying9 q1 q2 q3]
          congr 2
        have HSL := Aside0.mk hsl
        have HPS := Aside0.mk hps
        clear hsl q1 q2 q3 hp hps
        go_wp2_with (first | (go_at_call 52; go_loud ((with_reducible refine (HSM.out _ HRR.out).mono ?_); rintro _ wd ⟨⟨r, rfl⟩, ⟨nd, hnd⟩⟩; have HBD := Aside0.mk (show Below wr.heap.size wr wd by rw [hnd]; exact pw_below_drewN (Below.refl _ _) _); clear hnd; have HGD := Aside0.mk (gb_below HGR.out HBD.out))) | (go_at_call 50; go_loud ((with_reducible refine (HBLC.out _ HGD.out).mono ?_); rintro _ wf ⟨rfl, hdr⟩; have HBF := Aside0.mk (below_step HBD.out hdr.below); clear hdr)))
        have hsl := HSL.out wf
        simp only [hsl]
        clear hsl
        have HGF := Aside0.mk (gb_below HGR.out HBF.out)
        have HNB : Aside0 (bs.size / bl ≤ ss.length ∧ ss.length ≤ 1000000) := ⟨by
          rw [HLS.out, HWS.out]
          have h2 : bs.size / bl ≤ nB bs.size bl := by unfold nB; exact Nat.div_le_div_right (by omega)
          have := nB_le bs.size bl (by omega)
          exact ⟨h2, by omega⟩⟩
        have HMT := Aside0.mk (match_calls W1 T b M bl bs.size ws ss (bs.size / bl) HNB.out.1 HNB.out.2 r wn l' p HPS.out (by rw [HPS.out]; unfold maxLen; omega) wf (HTB.out.mark HGF.out HMB.out.1) (HBR.out.below HBF.out) HMB.out.1 (by have := HLR.out; have := HLL.out; omega) (by have := HGF.out.size; have := HMB.out; omega))
        go_upto_region 11 with (go_at_call 51; go_loud ((with_reducible refine HMT.out.mono ?_); rintro _ wg ⟨r2, l2, rfl, hx2, hl2, hb2, hg2, hr2⟩; have HX2 := Aside0.mk (HXR.out.trans hx2); have HL2 := Aside0.mk hl2; have HB2 := Aside0.mk hb2; have HG2' := Aside0.mk (gb_trans HGF.out hg2); have HRR2 := Aside0.mk hr2; have HM2 := Aside0.mk ((HMR.out.below HBF.out).gbM hg2 (by have := HMB.out; omega)); have HRW : Aside0 (Rl wg R s bl a) := ⟨by obtain ⟨e1, c1, c2, e2⟩ := HRR.out; exact ⟨e1, c1, c2, blk_gb hg2 (blk_below e2 HBF.out) (by have := HR2.out; have := HGB.out.size; have := HMB.out; omega)⟩⟩; clear hx2 hl2 hb2 hg2 hr2))
        rcases HRR2.out with h | ⟨i, h, hi, hri, hpi⟩
        · subst h
          obtain ⟨A1, c1, hv1, hc1⟩ := HM2.out.t.slice
          subst hv1
          obtain ⟨t0, t1, f0, f1⟩ := blk2 HM2.out.b
          have q1 : (0 : Int) ≤ (a : Int) := by omega
          have q2 : (a : Int) < (s.size : Int) := by omega
          have q3 : a < s.size := by omega
          have HMD := Aside0.mk (HM2.out.below (below_drew1 (Below.refl _ _)))
          clear t0
          go_upto_region 12 with fail
          refine wp_region_held_tail 8 2 (fun w' => w'.cell? ⟨wa.heap.size, 1, none⟩ = some (.slice A1 tx.size c1)) (by kernel_rfl) (by kernel_rfl) (by intro d c v a w; cases d <;> exact fun h => h) t1 ?_
          simp only [List.take_succ_cons, List.take_zero, List.drop_succ_cons, List.drop_zero]
          repeat (refine wpHeld_step (v := ?_) (by rfl) ?_ ?_; rotate_left; (· intro wS hSw; (go_simp <;> with_reducible rfl)); (simp only [Act.put, List.setIfInBounds_toArray, List.set_cons_zero, List.set_cons_succ]))
          refine wpHeld_nil ?_
          refine wpListS_step (fun K hK => ?_)
          go_simp
          have HMA : Aside0 (Mk (wg.alloc (Obj.cells #[Value.int IntKind.u8 (s[a].toNat : Int)] 5)).drew wa.heap.size wa.heap.size vs (.slice A1 tx.size c1) st tx) := ⟨HM2.out.below (below_drew1 (below_alloc (Below.refl _ _) _))⟩
          have HGA := Aside0.mk (gb_below HG2'.out (below_drew1 (below_alloc (Below.refl wg.heap.size wg) (Obj.cells #[Value.int IntKind.u8 (s[a].toNat : Int)] 5))))
          have HBA2 := Aside0.mk (HB2.out.below (below_drew1 (below_alloc (Below.refl wg.heap.size wg) (Obj.cells #[Value.int IntKind.u8 (s[a].toNat : Int)] 5))))
          have HRA : Aside0 (Rl (wg.alloc (Obj.cells #[Value.int IntKind.u8 (s[a].toNat : Int)] 5)).drew R s bl a) := ⟨by obtain ⟨e1, c1, c2, e2⟩ := HRW.out; exact ⟨e1, c1, c2, blk_below e2 (below_drew1 (below_alloc (Below.refl _ _) _))⟩⟩
          refine hK.out _ _ (blk2 HMA.out.b).2.1 ?_
          clear hK K
          refine wpListS_step (fun K hK => ?_)
          refine step_append_tx _ wa.heap.size ?aW (.tmp 56) (.tmp 60) 77 77 5 ?aO Try.underlying77 info5 (.slice A1 tx.size c1) tx ?aS HMA.out.t (.slice (some ⟨wg.heap.size, 0, none⟩) 1 1) (b1 s[a]) ?aX (src_byte wg.drew Try.underlying77 s[a]) ?aL HGA.out.size ?_
          case aW => rfl
          case aO => rfl
          case aS => rfl
          case aX => rfl
          case aL => have := HJR.out.bound; show tx.size + 1 ≤ _; omega
          intro v1 wd1 hT1 hG1 hO1
          obtain ⟨ty, hty⟩ : ∃ ty, ty = tx ++ b1 s[a] := ⟨_, rfl⟩
          rw [← hty] at hT1
          have HTY := Aside0.mk hty
          clear hty
          obtain ⟨A2, c2, hv2, hc2⟩ := hT1.slice
          subst hv2
          have HPT := Aside0.mk (HMA.out.putT hT1 hG1)
          obtain ⟨e0, e1, e2, e3⟩ := blk2 (blk_grown HMA.out.b hG1 (fun e => HMA.out.t.ne HMA.out.b (by decide) wa.heap.size e.symm rfl))
          refine hK.out _ _ e1 ?_
          have HGD1 := Aside0.mk (gb_fm HGA.out HPT.out.2)
          have HBD1 := Aside0.mk (HBA2.out.fm HPT.out.2 HMB.out.2.2 (by have := HMB.out; omega))
          have HRD1 : Aside0 (Rl (wd1.setCell ⟨wa.heap.size, 1, none⟩ (.slice A2 ty.size c2)) R s bl a) := ⟨by obtain ⟨e1, c1, c2, e2⟩ := HRA.out; exact ⟨e1, c1, c2, HPT.out.2.win _ _ e2⟩⟩
          have HJN : Aside0 (Jm (L8 bs) (L8 s) st ty (a + 1)) := ⟨by rw [HTY.out]; exact HJR.out.byte (by omega)⟩
          clear hT1 hG1 hO1 hK K t1 f0 f1
          refine wpListS_zero ?_
          by_cases hend : a + bl = s.size
          · as_aux_lemma =>
              have HNX := Aside0.mk (fun wx (h : Rl wx R s bl a) => rnext_end R s bl a wx h h0 h1 (by omega) hend)
              clear hend
              go_wp2_with (go_at_call 53; go_loud ((with_reducible refine (HNX.out _ HRD1.out).mono ?_); rintro _ we ⟨rfl, ⟨ne, hne⟩⟩; have HBE : Aside0 (Below (wd1.setCell ⟨wa.heap.size, 1, none⟩ (.slice A2 ty.size c2)).heap.size (wd1.setCell ⟨wa.heap.size, 1, none⟩ (.slice A2 ty.size c2)) we) := ⟨by rw [hne]; exact pw_below_drewN (Below.refl _ _) _⟩; clear hne))
              go_meet
              case rel => exact ⟨a + 1, vs, _, st, ty, l2, by go_num, by omega, ⟨HPT.out.1.below HBE.out⟩, ⟨gb_below HGD1.out HBE.out⟩, ⟨HBD1.out.below HBE.out⟩, HX2, ⟨by have := HL2.out; have := HLR.out; omega⟩, HJN⟩
          · as_aux_lemma =>
              have HNX := Aside0.mk (fun wx (h : Rl wx R s bl a) => rnext_calls R s bl a wx h h0 h1 (by omega) (by omega))
              go_wp2_with (go_at_call 53; go_loud ((with_reducible refine (HNX.out _ HRD1.out).mono ?_); rintro _ we ⟨rfl, hrl, hgr⟩; have HRE := Aside0.mk hrl; have HGE := Aside0.mk hgr; clear hrl hgr))
              go_roundw
              case rel =>
                have hRw : wa.heap.size ≤ R := by have := HR2.out; have := HGB.out.size; omega
                have hRb := HRD1.out
                obtain ⟨_, _, _, hRb⟩ := hRb
                refine ⟨a + 1, wn, vs, _, st, ty, l2, by go_num, rfl, by omega, HRE, ⟨HPT.out.1.gbR HGE.out hRb⟩, ⟨gb_own HGD1.out HGE.out (fun g hg => by injection hg with hg; omega)⟩, ⟨HBD1.out.grown HGE.out (fun e => by injection e with e; have := HMB.out; omega) (fun e => by injection e with e; have := HMB.out; omega)⟩, HX2, ⟨by have := HL2.out; have := HLR.out; omega⟩, HJN⟩
              case measure => simp [intOf]; omega
        · subst h
          have HIB := Aside0.mk (block_full hi (by omega))
          have hpb := match_block (l0 := l0) (l' := l2) (p := p) HX2.out HMM.out HIB.out.1 (by rw [← HSS.out]; exact hri) hpi (by have := HL2.out; have := HLR.out; have := HLL.out; omega)
          obtain ⟨ib, hib⟩ : ∃ ib : Nat, ib = i * bl := ⟨_, rfl⟩
          have hmul : (i : Int) * (bl : Int) = (ib : Int) := by rw [hib, Int.natCast_mul]
          have hib2 : ib + bl ≤ bs.size := by rw [hib]; exact HIB.out.2.1
          have HJN : Aside0 (Jm (L8 bs) (L8 s) (copyD (st ++ flushN tx.size tx) ib bl) ⟨#[]⟩ (a + bl)) := ⟨by
            refine HJR.out.copy (by rw [L8_len]; exact hn) ib bl (by omega) (by rw [L8_len]; exact hib2) (by rw [L8_len]; exact hab) ?_
            rw [hib, ← HIB.out.2.2, ← hpb, HP.out, L8_ext, Nat.add_sub_cancel_left]⟩
          have HI : Aside0 (Mq wa wg b M R s bl a vs vt st tx l2) := ⟨⟨HM2.out, HG2'.out, HB2.out, HRW.out⟩⟩
          have HBD2 : Aside0 (st.length + tx.size ≤ 4000000) := ⟨by have := HJR.out.bound; omega⟩
          have hil : i ≤ 524288 := by have := nB_le bs.size bl (by omega); have := HIB.out.1; omega
          have hrb : decide ((i : Int) < 0) = false := decide_eq_false (by omega)
          have HIBE := Aside0.mk hib
          clear hri hpi hpb hib hi HRW HM2 HG2' HB2
          by_cases hend : s.size < a + bl + bl
          · as_aux_lemma =>
              have HSK := Aside0.mk (fun wx (h : Rl wx R s bl a) => (rskip_end R s bl a wx h h0 h1 (by omega) hend).mono (fun e w' hh => (⟨hh.1, by obtain ⟨n, rfl⟩ := hh.2; exact pw_below_drewN (Below.refl _ _) _⟩ : e = .returned (.bool false) ∧ Below wx.heap.size wx w')))
              clear hend
              go_wp2_with (first | (go_at_call 50; go_loud ((with_reducible refine (HBLC.out _ HI.out.gb).mono ?_); rintro _ wy ⟨rfl, hdr⟩; have HI' := Aside0.mk (HI.out.below hdr.below); clear hdr HI; have HI := HI'; clear HI')) | (go_at_call 54; go_loud ((with_reducible refine (mcopy_calls wa.heap.size wa.heap.size vs vt st tx ib bl _ HI.out.mm HI.out.gb.size HBD2.out).mono ?_); rintro _ wy ⟨vs', vt', rfl, hmk, hfm⟩; have HI' := Aside0.mk (HI.out.fm hfm hmk HMB.out.2.2 (by have := HMB.out; omega)); clear hmk hfm HI; have HI := HI'; clear HI')) | (go_at_call 55; go_loud ((with_reducible refine (HSK.out _ HI.out.rl).mono ?_); rintro _ wy ⟨rfl, hbb⟩; have HI' := Aside0.mk (HI.out.below hbb); clear hbb; clear HI; have HI := HI'; clear HI')))
              go_meet
              case rel => exact ⟨a + bl, _, _, _, _, l2, by go_num, hab, ⟨HI.out.mm⟩, ⟨HI.out.gb⟩, ⟨HI.out.bk⟩, HX2, ⟨by have := HL2.out; have := HLR.out; omega⟩, HJN⟩
          · as_aux_lemma =>
              have HSK := Aside0.mk (fun wx (h : Rl wx R s bl a) => rskip_calls R s bl a wx h h0 h1 (by omega) (by omega))
              have HRW : Aside0 (wa.heap.size ≤ R) := ⟨by have := HR2.out; have := HGB.out.size; omega⟩
              go_wp2_with (first | (go_at_call 50; go_loud ((with_reducible refine (HBLC.out _ HI.out.gb).mono ?_); rintro _ wy ⟨rfl, hdr⟩; have HI' := Aside0.mk (HI.out.below hdr.below); clear hdr HI; have HI := HI'; clear HI')) | (go_at_call 54; go_loud ((with_reducible refine (mcopy_calls wa.heap.size wa.heap.size vs vt st tx ib bl _ HI.out.mm HI.out.gb.size HBD2.out).mono ?_); rintro _ wy ⟨vs', vt', rfl, hmk, hfm⟩; have HI' := Aside0.mk (HI.out.fm hfm hmk HMB.out.2.2 (by have := HMB.out; omega)); clear hmk hfm HI; have HI := HI'; clear HI')) | (go_at_call 55; go_loud ((with_reducible refine (HSK.out _ HI.out.rl).mono ?_); rintro _ wy ⟨rfl, hrl, hgr⟩; have HI' := Aside0.mk (HI.out.gbR hgr hrl HRW.out HMB.out.2.2 (by have := HMB.out; omega)); clear hgr hrl; clear HI; have HI := HI'; clear HI')))
              go_roundw
              case rel => exact ⟨a + bl, (i : Int) + 1, _, _, _, _, l2, by go_num, rfl, by omega, ⟨HI.out.rl⟩, ⟨HI.out.mm⟩, ⟨HI.out.gb⟩, ⟨HI.out.bk⟩, HX2, ⟨by have := HL2.out; have := HLR.out; omega⟩, HJN⟩
              case measure => simp [intOf]; omega
    case rest =>
      obtain ⟨a, vs, vt, st, tx, l', rfl, ha, HMR, HGR, HBR, HXR, HLR, HJR⟩ := hcut
      have q1 : (0 : Int) ≤ (a : Int) := by omega
      have q2 : (a : Int) ≤ (s.size : Int) := by omega
      have HJB := Aside0.mk HJR.out.bound
      have HEN := Aside0.mk (fun wx (hg : wa.grownBy wx (some M)) (hb : Bk wx b M l') (hk : Mk wx wa.heap.size wa.heap.size vs vt st tx) => mend_calls W1 wa T b M wa.heap.size bl bs.size ws ss (bs.size / bl) l' (s.extract a s.size) vs vt st tx h0 h1 hn HWS.out HLS.out wx HTB.out HMB.out.1 HMB.out.2.1 HMB.out.2.2 hg hb hk (by have := HLR.out; have := HLL.out; omega) (by rw [ByteArray.size_extract]; omega) (by have := HJB.out; omega) (by have := HJB.out; omega))
      go_wp2_with (go_at_call 56; go_loud ((with_reducible refine (HEN.out _ HGR.out HBR.out HMR.out).mono ?_); rintro _ wy ⟨vs', vt', st', l2, rfl, hmk, hg, hb, hx, hl2, he⟩; have HMY := Aside0.mk hmk; have HGY := Aside0.mk hg; have HBY := Aside0.mk hb; have HXY := Aside0.mk (HXR.out.trans hx); have HLY := Aside0.mk hl2; have HEY := Aside0.mk he; clear hmk hg hb hx hl2 he; obtain ⟨A', c', hv'⟩ := Kd.R_slice HMY.out.r; subst hv'; obtain ⟨t0, t1, f0, f1⟩ := blk2 HMY.out.b))
      rw [Exit.noGoto_ret]
      go_ret2
      have hl3 : l2.length ≤ l0.length + s.size + 1 := by have := HLY.out; have := HLR.out; omega
      have hee := HEY.out
      rw [HSS.out] at hee
      obtain ⟨k1, k2⟩ := HJR.out.fin (l0 := l0) (bl := bl) hn (by omega) HWS.out HXY.out HMM.out (by have := HLL.out; omega) hee
      exact ⟨_, st', l2, rfl, Kd.R_lower HMY.out.r (Nat.le_trans (Nat.le_of_lt HW1S.out) HBA.out.size), gb_trans (gb_of (below_step HBW.out HBA.out) (some M)) HGY.out, HBY.out, HXY.out, hl3, k1, k2⟩
end Go.Proofs.Ytjgelmfkoefclaa.PAll

-- from YtjgelmfkoefclaaGivOf
/- The delta that makes a text of another one. -/
namespace Go.Proofs.Ytjgelmfkoefclaa.PAll
open Go.RowKit Go.Proofs.YtjgelmfkoefclaaW.PrintWords Go.Proofs.YtjgelmfkoefclaaW.PrintLast Go.Proofs.YtjgelmfkoefclaaW.PrintMore Go.Proofs.Ytjgelmfkoefclaa.Pure
set_option linter.unusedVariables false
set_option linter.unusedSimpArgs false
attribute [local go_sem] max2_int min2_int max_two min_two

/-- What a delta leaves. -/
structure Od (w wr : World) (b M : Nat) (l : List ByteArray) (v : Value) (st : List S54) : Prop where
  gb : w.grownBy wr (some M)
  bk : Bk wr b M l
  bo : b < w.heap.size ∧ M < w.heap.size
  r : Kd.R k54 54 wr (w.heap.size + 1) (fun _ => True) v st
  z : wr.heap[w.heap.size]? = some (.cells #[.string ⟨#[]⟩, .string ⟨#[]⟩, .int .i64 0, .slice none 0 0] 24 (0, 0))
theorem Od.mark {w wr wx : World} {b M : Nat} {l l2 : List ByteArray} {v : Value} {st : List S54} (h : Od w wr b M l v st) (hg : wr.grownBy wx (some M)) (hk : Bk wx b M l2) : Od w wx b M l2 v st :=
  ⟨gb_trans h.gb hg, hk, h.bo, Kd.R_grown2 h.r rfl hg (fun k hk e => by injection hk with hk; have := Kd.R_base h.r k e.symm; have := h.bo; omega), blk_gb hg h.z (by have := h.bo; omega)⟩
structure Oe (w wr : World) (b M : Nat) (l : List ByteArray) (v : Value) (st : List S54) : Prop where
  gb : w.grownBy wr (some M)
  bk : Bk wr b M l
  bo : b < w.heap.size ∧ M < w.heap.size
  r : Kd.R k54 54 wr (w.heap.size + 1) (fun _ => True) v st
theorem Od.oe {w wr : World} {b M : Nat} {l : List ByteArray} {v : Value} {st : List S54} (h : Od w wr b M l v st) : Oe w wr b M l v st := ⟨h.gb, h.bk, h.bo, h.r⟩
theorem Oe.set {w wr : World} {b M : Nat} {l : List ByteArray} {v : Value} {st : List S54} (h : Oe w wr b M l v st) (j : Nat) (u : Value) : Oe w (wr.setCell ⟨w.heap.size, j, none⟩ u) b M l v st :=
  ⟨gb_set h.gb (Nat.le_refl _) u, h.bk.set (by show b ≠ w.heap.size; have := h.bo; omega) (by show M ≠ w.heap.size; have := h.bo; omega) u, h.bo,
    Kd.R_mono (Kd.R_far (p := ⟨w.heap.size, j, none⟩) (Kd.R_mono (Kd.R_bound h.r) (ok' := fun k => w.heap.size + 1 ≤ k) (fun k hk => hk.2.1)) (fun k hk => by show k ≠ w.heap.size; omega) u) (fun _ _ => trivial)⟩
set_option maxHeartbeats 4000000 in
set_option maxRecDepth 100000 in
theorem of_calls (b M : Nat) (l : List ByteArray) (bs s : ByteArray) (bl : Nat) (w : World) (hB : Bk w b M l) (hll : l.length + nB bs.size bl + s.size ≤ 8000000) (hn : bs.size ≤ 524288) (hs : s.size ≤ 524288) (h0 : 16 ≤ bl) (h1 : bl ≤ 1024) :
    Calls Try.prog 25 #[.pointer (some ⟨b, 0, none⟩), .string bs, .string s, .int .i64 bl] w fun e w' => ∃ (v : Value) (st : List S54) (l' : List ByteArray), e = .returned (.tuple #[.agg #[.string (markV l' bs), .string (markV l' s), .int .i64 s.size, v], .int .i64 0]) ∧ Kd.R k54 54 w' w.heap.size (fun _ => True) v st ∧ w.grownBy w' (some M) ∧ Bk w' b M l' ∧ Ext l l' ∧ l'.length ≤ l.length + nB bs.size bl + s.size + 3 ∧ bs ∈ l' ∧ s ∈ l' ∧ (∀ x ∈ st, okB bs.size x) ∧ runL (L8 bs) st = L8 s := by
  obtain ⟨W1, hW1⟩ : ∃ W1, W1 = w.alloc (.cells #[.string ⟨#[]⟩, .string ⟨#[]⟩, .int .i64 0, .slice none 0 0] 24 (0, 0)) := ⟨_, rfl⟩
  have HZ : Aside0 (W1.heap[w.heap.size]? = some (.cells #[.string ⟨#[]⟩, .string ⟨#[]⟩, .int .i64 0, .slice none 0 0] 24 (0, 0))) := ⟨by rw [hW1]; exact blk_new _ _⟩
  have HBW : Aside0 (Below w.heap.size w W1) := ⟨by rw [hW1]; exact below_alloc (Below.refl _ _) _⟩
  have HB1 : Aside0 (Bk W1 b M l) := ⟨hB.below (by rw [hW1]; exact below_alloc (Below.refl _ _) _)⟩
  have HBL : Aside0 (b < w.heap.size ∧ M < w.heap.size) := ⟨hB.ltb, hB.lt⟩
  have HW1 := Aside0.mk hW1
  have HW1S : Aside0 (w.heap.size < W1.heap.size) := ⟨by rw [hW1]; simp⟩
  have HSG := Aside0.mk (sign_calls b M l bs bl W1 HB1.out (by omega) hn h0 h1)
  have HLL := Aside0.mk hll
  clear hW1 hB hll
  go_enter Try.func25, Try.ntmps25
  go_upto_region 1 with fail
  rw [← HW1.out]
  go_upto_region 2 with (go_at_call 34; go_loud ((with_reducible refine HSG.out.mono ?_); rintro _ wa ⟨l1, vW, vS, ws, rfl, hx, hl1, hws, hmm, hsd⟩; obtain ⟨ss, hss⟩ : ∃ ss, ss = (blocksV bs bl).map (markV l1) := ⟨_, rfl⟩; rw [← hss] at hsd; have HSS := Aside0.mk hss; clear hss; have HX1 := Aside0.mk hx; have HL1 := Aside0.mk hl1; have HWS := Aside0.mk hws; have HMM := Aside0.mk hmm; have HSD := Aside0.mk hsd; obtain ⟨A1, c1, hv1⟩ := Kd.R_slice hsd.rw_; obtain ⟨A2, c2, hv2⟩ := Kd.R_slice hsd.rs; subst hv1 hv2; clear hx hl1 hws hmm hsd))
  obtain ⟨W2, hW2⟩ : ∃ W2, W2 = wa.alloc (.cells #[.int .i64 bl, .int .i64 bs.size, .slice A1 ws.length c1, .slice A2 ss.length c2] 71 (0, 0)) := ⟨_, rfl⟩
  have HB2 : Aside0 (Below wa.heap.size wa W2) := ⟨by rw [hW2]; exact below_alloc (Below.refl _ _) _⟩
  have HZ2 : Aside0 (W2.heap[wa.heap.size]? = some (.cells #[.int .i64 bl, .int .i64 bs.size, .slice A1 ws.length c1, .slice A2 ss.length c2] 71 (0, 0))) := ⟨by rw [hW2]; exact blk_new _ _⟩
  have HG2 := Aside0.mk (gb_below HSD.out.gb HB2.out)
  have HBK2 := Aside0.mk (HSD.out.bk.below HB2.out)
  have HBL1 : Aside0 (l1.length + s.size + 3 ≤ 9000000) := ⟨by have := HL1.out; have := HLL.out; omega⟩
  have HMAK := Aside0.mk (make_calls b M l1 bs s bl ws (.slice A1 ws.length c1) (.slice A2 ss.length c2) _ _ _ W2 (Kd.R_below HSD.out.rw_ HB2.out) (by have h := Kd.R_below HSD.out.rs HB2.out; rw [← HSS.out]; exact h) h0 h1 hn HWS.out.1 HWS.out.2 HMM.out HBK2.out (by have := HBL1.out; omega) hs)
  rw [← hW2]
  clear hW2
  obtain ⟨y0, y1, y2, y3⟩ := blk4 HZ2.out
  go_upto_region 7 with (go_at_call 35; go_loud ((with_reducible refine HMAK.out.mono ?_); rintro _ wc ⟨v, st, l2, rfl, hr, hg, hb, hx, hl2, hok, hrun⟩; have HOD : Aside0 (Od w wc b M l2 v st) := ⟨⟨gb_trans (gb_of HBW.out (some M)) (gb_trans HG2.out hg), hb, HBL.out, Kd.R_lower hr (by have := HG2.out.size; have := HW1S.out; omega), blk_gb hg (blk_gb HG2.out HZ.out (by have := HBL.out; omega)) (by have := HBL.out; omega)⟩⟩; have HX2 := Aside0.mk (HX1.out.trans hx); have HL2 := Aside0.mk hl2; have HOK := Aside0.mk hok; have HRUN := Aside0.mk hrun; obtain ⟨A3, c3, hv3⟩ := Kd.R_slice hr; subst hv3; clear hr hg hb hx hl2 hok hrun))
  have HMX : Aside0 (bs.size ≤ maxLen ∧ s.size ≤ maxLen ∧ l2.length + 1 < 10000000 ∧ l2.length + 3 ≤ l.length + nB bs.size bl + s.size + 4 + 0 + 0) := ⟨by have := HL2.out; have := HL1.out; have := HLL.out; unfold maxLen; omega⟩
  have HK1 := Aside0.mk (fun wx (h : Bk wx b M l2) => mark_calls b M l2 bs wx h (by have := HMX.out; omega) HMX.out.1)
  have HK2 := Aside0.mk (fun wx (h : Bk wx b M (addT l2 bs)) => mark_calls b M (addT l2 bs) s wx h (by have := HMX.out; have := addT_length l2 bs; omega) HMX.out.2.1)
  clear y0 y1 y2 y3
  go_wp2_with (go_at_call 36; go_loud (first | ((with_reducible refine (HK1.out _ HOD.out.bk).mono ?_); rintro _ wd ⟨rfl, hk, hg⟩; have HOD1 := Aside0.mk (HOD.out.mark hg hk); clear hk hg) | ((with_reducible refine (HK2.out _ HOD1.out.bk).mono ?_); rintro _ we ⟨rfl, hk, hg⟩; have HOD2 := Aside0.mk (HOD1.out.mark hg hk); clear hk hg; obtain ⟨y0, y1, y2, y3⟩ := blk4 HOD2.out.z; obtain ⟨z0, z1, z2, z3⟩ := blk4f HOD2.out.z)))
  obtain ⟨k1, hk1⟩ : ∃ k1, k1 = markV (addT l2 bs) bs := ⟨_, rfl⟩
  obtain ⟨k2, hk2⟩ : ∃ k2, k2 = markV (addT (addT l2 bs) s) s := ⟨_, rfl⟩
  have hk3 : markV (addT (addT l2 bs) s) bs = k1 := by rw [hk1]; exact (Ext.add (addT l2 bs) s).mark (addT_mem l2 bs)
  rw [← hk1, ← hk2]
  refine bodyPost_ret (results_ct rfl _ _ w.heap.size 24 #[.string k1, .string k2, .int .i64 s.size, .slice A3 st.length c3] (0, 0) _ rfl ?blk Try.underlying24 rfl (by kernel_rfl)) rfl ?_
  case blk =>
    refine blk_put (cs := #[.string k1, .string k2, .int .i64 s.size, .slice none 0 0]) ?_ 3 _ rfl
    refine blk_put (cs := #[.string k1, .string k2, .int .i64 0, .slice none 0 0]) ?_ 2 _ rfl
    refine blk_put (cs := #[.string k1, .string ⟨#[]⟩, .int .i64 0, .slice none 0 0]) ?_ 1 _ rfl
    exact blk_put (cs := #[.string ⟨#[]⟩, .string ⟨#[]⟩, .int .i64 0, .slice none 0 0]) HOD2.out.z 0 _ rfl
  have hfin := (((HOD2.out.oe.set 0 (.string k1)).set 1 (.string k2)).set 2 (.int .i64 s.size)).set 3 (.slice A3 st.length c3)
  refine ⟨.slice A3 st.length c3, st, addT (addT l2 bs) s, by rw [hk3, ← hk2]; rfl, Kd.R_lower hfin.r (by omega), hfin.gb, hfin.bk, HX2.out.trans ((Ext.add l2 bs).trans (Ext.add _ s)), ?_, addT_keep _ _ _ (addT_mem l2 bs), addT_mem _ _, HOK.out, HRUN.out⟩
  have e1 := addT_length l2 bs
  have e2 := addT_length (addT l2 bs) s
  have e3 := HL2.out
  have e4 := HL1.out
  omega

set_option maxHeartbeats 4000000 in
set_option maxRecDepth 100000 in
theorem of_bad (bp : Value) (bs s : ByteArray) (bl : Int) (w : World) (h : bl < 16 ∨ 1024 < bl) :
    Calls Try.prog 25 #[bp, .string bs, .string s, .int .i64 bl] w fun e w' => e = .returned (.tuple #[.agg #[.string ⟨#[]⟩, .string ⟨#[]⟩, .int .i64 0, .slice none 0 0], .int .i64 1]) ∧ Below w.heap.size w w' := by
  obtain ⟨W1, hW1⟩ : ∃ W1, W1 = w.alloc (.cells #[.string ⟨#[]⟩, .string ⟨#[]⟩, .int .i64 0, .slice none 0 0] 24 (0, 0)) := ⟨_, rfl⟩
  have HZ : Aside0 (W1.heap[w.heap.size]? = some (.cells #[.string ⟨#[]⟩, .string ⟨#[]⟩, .int .i64 0, .slice none 0 0] 24 (0, 0))) := ⟨by rw [hW1]; exact blk_new _ _⟩
  have HBW : Aside0 (Below w.heap.size w W1) := ⟨by rw [hW1]; exact below_alloc (Below.refl _ _) _⟩
  have HW1 := Aside0.mk hW1
  have HSG := Aside0.mk (sign_bad bp bs bl W1 h)
  clear hW1 h
  go_enter Try.func25, Try.ntmps25
  go_upto_region 1 with fail
  rw [← HW1.out]
  go_wp2_with (go_at_call 34; go_loud ((with_reducible refine HSG.out.mono ?_); rintro _ wa ⟨rfl, hbb⟩; have HBA := Aside0.mk (below_alloc (below_step HBW.out hbb) (.cells #[.int .i64 0, .int .i64 0, .slice none 0 0, .slice none 0 0] 71)); have HZA := Aside0.mk (blk_alloc (blk_below HZ.out hbb) (.cells #[.int .i64 0, .int .i64 0, .slice none 0 0, .slice none 0 0] 71)); clear hbb; obtain ⟨y0, y1, y2, y3⟩ := blk4 HZA.out; obtain ⟨z0, z1, z2, z3⟩ := blk4f HZA.out))
  refine bodyPost_ret (results_ct rfl _ _ w.heap.size 24 #[.string ⟨#[]⟩, .string ⟨#[]⟩, .int .i64 0, .slice none 0 0] (0, 0) _ rfl ?blk Try.underlying24 rfl (by kernel_rfl)) rfl ?_
  case blk =>
    refine blk_put (cs := #[.string ⟨#[]⟩, .string ⟨#[]⟩, .int .i64 0, .slice none 0 0]) ?_ 3 _ rfl
    refine blk_put (cs := #[.string ⟨#[]⟩, .string ⟨#[]⟩, .int .i64 0, .slice none 0 0]) ?_ 2 _ rfl
    refine blk_put (cs := #[.string ⟨#[]⟩, .string ⟨#[]⟩, .int .i64 0, .slice none 0 0]) ?_ 1 _ rfl
    exact blk_put (cs := #[.string ⟨#[]⟩, .string ⟨#[]⟩, .int .i64 0, .slice none 0 0]) HZA.out 0 _ rfl
  exact ⟨rfl, (((HBA.out.setCell (p := ⟨w.heap.size, 0, none⟩) (Nat.le_refl _) _).setCell (p := ⟨w.heap.size, 1, none⟩) (Nat.le_refl _) _).setCell (p := ⟨w.heap.size, 2, none⟩) (Nat.le_refl _) _).setCell (p := ⟨w.heap.size, 3, none⟩) (Nat.le_refl _) _⟩
end Go.Proofs.Ytjgelmfkoefclaa.PAll

-- from YtjgelmfkoefclaaFlat
/- Rows of deltas as their own cells: what is read through them, and frames. -/
namespace Go.Proofs.Ytjgelmfkoefclaa.PAll
open Go.RowKit Go.Proofs.YtjgelmfkoefclaaW.PrintWords Go.Proofs.YtjgelmfkoefclaaW.PrintLast Go.Proofs.YtjgelmfkoefclaaW.PrintMore Go.Proofs.Ytjgelmfkoefclaa.Pure
set_option linter.unusedVariables false

/-- A delta's own cells. -/
structure FD where
  f0 : ByteArray
  f1 : ByteArray
  f2 : Int
  A : Option Addr
  n : Nat
  c : Nat
def FD.cells (x : FD) : List Value := [.string x.f0, .string x.f1, .int .i64 x.f2, .slice x.A x.n x.c]
def kF : Kd FD where
  sz := 4
  E := []
  K := fun _ x cs => cs = x.cells
  M := fun _ _ _ x cs => cs = x.cells
  K_len := fun h => by rw [h]; rfl
  K_one := fun h u hu => by
    rw [h] at hu
    unfold FD.cells at hu
    simp only [List.mem_cons, List.not_mem_nil, or_false] at hu
    rcases hu with rfl | rfl | rfl | rfl <;> rfl
  K_below := fun _ h => h
  K_of_M := fun h => h
  M_mono := fun _ h => h
  M_bound := fun h => h
  M_move := fun _ h => h
  M_lower := fun _ h => h
/-- Steps that are read out of a row of their own type. -/
def CT (w : World) (A : Option Addr) (n : Nat) (xs : List S54) : Prop := Kd.C k54 w A n xs ∧ ∀ ad, A = some ad → ∃ cells, w.heap[ad.block]? = some (.cells cells 54 (0, 0))
theorem CT.keep {w w' : World} {A : Option Addr} {n : Nat} {xs : List S54} (h : CT w A n xs) (hb : ∀ ad, A = some ad → w'.heap[ad.block]? = w.heap[ad.block]?) : CT w' A n xs := by
  obtain ⟨⟨h1, h2, h3⟩, h4⟩ := h
  refine ⟨⟨h1, h2, fun hn => ?_⟩, fun ad e => ?_⟩
  · obtain ⟨ad, e, hcc⟩ := h3 hn
    refine ⟨ad, e, fun j p hp => ?_⟩
    obtain ⟨c, c1, c2, c3⟩ := hcc j p hp
    obtain rfl := k54_open c2
    refine ⟨_, c1, k54_mk w' p, fun i u hu => ?_⟩
    have hblk : (ad.add (j * k54.sz + i)).block = ad.block := by unfold Addr.add; split <;> rfl
    exact (World.cell?_of_block (a := ad.add (j * k54.sz + i)) (by rw [hblk]; exact hb ad e)).trans (c3 i u hu)
  · obtain ⟨cells, hc⟩ := h4 ad e
    exact ⟨cells, (hb ad e).trans hc⟩
theorem CT.gb {w w' : World} {A : Option Addr} {n : Nat} {xs : List S54} {row : Option Nat} (h : CT w A n xs) (hg : w.grownBy w' row) (hr : ∀ (g : Nat) (cells : Array Value), row = some g → w.heap[g]? ≠ some (.cells cells 54 (0, 0))) : CT w' A n xs :=
  h.keep (fun ad e => by
    obtain ⟨cells, hc⟩ := h.2 ad e
    exact hg.block ad.block (blk_lt hc) (fun e2 => hr ad.block cells e2.symm hc))
theorem CT.below {w w' : World} {A : Option Addr} {n : Nat} {xs : List S54} (h : CT w A n xs) (hb : Below w.heap.size w w') : CT w' A n xs := h.gb (gb_of hb none) (fun _ _ e => by cases e)
theorem map_nostep {w : World} {b M : Nat} {l : List ByteArray} (hB : Bk w b M l) : ∀ (g : Nat) (cells : Array Value), some M = some g → w.heap[g]? ≠ some (.cells cells 54 (0, 0)) := fun g cells e hc => by
  obtain ⟨es, ck, hm, _⟩ := hB.own
  injection e with e
  subst e
  rw [hm] at hc
  cases hc
theorem CT.of {w : World} {base : Nat} {ok : Nat → Prop} {A : Option Addr} {n c : Nat} {xs : List S54} (h : Kd.R k54 54 w base ok (.slice A n c) xs) : n = xs.length ∧ xs.length ≤ c ∧ CT w A xs.length xs := by
  obtain ⟨e1, e2, e3⟩ := Kd.R_reads' h
  refine ⟨e1, by omega, e3, fun ad e => ?_⟩
  rcases Nat.eq_zero_or_pos xs.length with h0 | h0
  · subst e
    rcases h.2.choose_spec.1.2 with ⟨h1, _⟩ | ⟨g, cap, cur, h1, h2, h3, _⟩
    · cases h1
    · injection h1 with h1
      injection h1 with h1
      subst h1
      exact ⟨cur, h3⟩
  · obtain ⟨g, cap, h1, h2, h3, h4⟩ := Kd.R_form h h0
    injection h1 with h1
    rw [h1] at e
    injection e with e
    subst e
    exact h4
/-- What they stand for. -/
def DM (w : World) (f : FD) (d : S24) : Prop := f.f0 = d.f0 ∧ f.f1 = d.f1 ∧ f.f2 = d.f2 ∧ f.n = d.f3.length ∧ d.f3.length ≤ f.c ∧ CT w f.A d.f3.length d.f3
theorem DM.gb {w w' : World} {row : Option Nat} {f : FD} {d : S24} (h : DM w f d) (hg : w.grownBy w' row) (hr : ∀ (g : Nat) (cells : Array Value), row = some g → w.heap[g]? ≠ some (.cells cells 54 (0, 0))) : DM w' f d :=
  ⟨h.1, h.2.1, h.2.2.1, h.2.2.2.1, h.2.2.2.2.1, h.2.2.2.2.2.gb hg hr⟩
def Fd (w : World) (fs : List FD) (ds : List S24) : Prop := fs.length = ds.length ∧ ∀ (i : Nat) f d, fs[i]? = some f → ds[i]? = some d → DM w f d
theorem Fd.nil (w : World) : Fd w [] [] := ⟨rfl, fun i f d h => by simp at h⟩
theorem Fd.snoc {w : World} {fs : List FD} {ds : List S24} {f : FD} {d : S24} (h : Fd w fs ds) (hd : DM w f d) : Fd w (fs ++ [f]) (ds ++ [d]) := by
  refine ⟨by rw [List.length_append, List.length_append, h.1]; rfl, fun i f' d' hf hd' => ?_⟩
  rcases Nat.lt_or_ge i fs.length with hi | hi
  · rw [List.getElem?_append_left hi] at hf
    rw [List.getElem?_append_left (by rw [← h.1]; exact hi)] at hd'
    exact h.2 i f' d' hf hd'
  · rw [List.getElem?_append_right hi] at hf
    rw [List.getElem?_append_right (by rw [← h.1]; exact hi), ← h.1] at hd'
    cases hk : i - fs.length with
    | zero =>
      rw [hk] at hf hd'
      injection hf with hf
      injection hd' with hd'
      subst hf hd'
      exact hd
    | succ k => rw [hk] at hf; simp at hf
theorem Fd.gb {w w' : World} {row : Option Nat} {fs : List FD} {ds : List S24} (h : Fd w fs ds) (hg : w.grownBy w' row) (hr : ∀ (g : Nat) (cells : Array Value), row = some g → w.heap[g]? ≠ some (.cells cells 54 (0, 0))) : Fd w' fs ds := ⟨h.1, fun i f d hf hd => (h.2 i f d hf hd).gb hg hr⟩
/-- A row of them is read as a row of deltas. -/
theorem C_flat {w : World} {A : Option Addr} {n : Nat} {fs : List FD} {ds : List S24} (h : Kd.C kF w A n fs) (hd : Fd w fs ds) : Kd.C k24 w A n ds := by
  obtain ⟨h1, h2, h3⟩ := h
  refine ⟨hd.1.symm.trans h1, h2, fun hn => ?_⟩
  obtain ⟨ad, e, hc⟩ := h3 hn
  refine ⟨ad, e, fun j p hp => ?_⟩
  have hj : j < ds.length := (List.getElem?_eq_some_iff.1 hp).1
  have hf : fs[j]? = some (fs[j]'(by rw [hd.1]; exact hj)) := List.getElem?_eq_getElem _
  obtain ⟨c, c1, c2, c3⟩ := hc j _ hf
  obtain ⟨d1, d2, d3, d4, d5, d6⟩ := hd.2 j _ p hf hp
  refine ⟨c, c1, ?_, c3⟩
  have c2' : c = FD.cells (fs[j]'(by rw [hd.1]; exact hj)) := c2
  rw [c2']
  unfold FD.cells
  rw [d1, d2, d3, d4]
  exact k24_mk w p d5 d6.1
theorem C_gb24 {w w' : World} {b M : Nat} {l : List ByteArray} {A : Option Addr} {n : Nat} {xs : List S24} (h : Kd.C k24 w A n xs) (hB : Bk w b M l) (hg : w.grownBy w' (some M)) : Kd.C k24 w' A n xs := by
  obtain ⟨h1, h2, h3⟩ := h
  refine ⟨h1, h2, fun hn => ?_⟩
  obtain ⟨ad, e, hc⟩ := h3 hn
  refine ⟨ad, e, fun j p hp => ?_⟩
  obtain ⟨c, c1, c2, c3⟩ := hc j p hp
  obtain ⟨A3, c3', rfl, k1, k2⟩ := k24_open c2
  exact ⟨_, c1, k24_mk w' p k1 (C_gbM k2 hB hg), fun i u hu => cell_gbM (c3 i u hu) hB hg⟩
theorem C_gbS {w w' : World} {b M : Nat} {l : List ByteArray} {A : Option Addr} {n : Nat} {xs : List ByteArray} (h : Kd.C Kd.string w A n xs) (hB : Bk w b M l) (hg : w.grownBy w' (some M)) : Kd.C Kd.string w' A n xs := by
  obtain ⟨h1, h2, h3⟩ := h
  refine ⟨h1, h2, fun hn => ?_⟩
  obtain ⟨ad, e, hc⟩ := h3 hn
  refine ⟨ad, e, fun j p hp => ?_⟩
  obtain ⟨c, c1, c2, c3⟩ := hc j p hp
  exact ⟨c, c1, c2, fun i u hu => cell_gbM (c3 i u hu) hB hg⟩
theorem cell_bw {w w' : World} {p : Addr} {v : Value} (h : w.cell? p = some v) (hb : Below w.heap.size w w') : w'.cell? p = some v := (hb.cell (p := p) (World.block_lt_of_cell? w p h)).trans h
/-- The delta between two texts, of a book. -/
def DeltaOf (bk : List ByteArray) (s t : ByteArray) (d : S24) : Prop := d.f0 = markV bk s ∧ d.f1 = markV bk t ∧ s ∈ bk ∧ t ∈ bk ∧ d.f2 = t.size ∧ (∀ x ∈ d.f3, okB s.size x) ∧ runL (L8 s) d.f3 = L8 t
theorem DeltaOf.ext {bk bk' : List ByteArray} {s t : ByteArray} {d : S24} (h : DeltaOf bk s t d) (hx : Ext bk bk') : DeltaOf bk' s t d := by
  obtain ⟨h1, h2, h3, h4, h5⟩ := h
  exact ⟨by rw [hx.mark h3]; exact h1, by rw [hx.mark h4]; exact h2, hx.mem h3, hx.mem h4, h5⟩
end Go.Proofs.Ytjgelmfkoefclaa.PAll

-- from YtjgelmfkoefclaaGivChainRun
/- Deltas are run, one behind the other. -/
namespace Go.Proofs.Ytjgelmfkoefclaa.PAll
open Go.RowKit Go.Proofs.YtjgelmfkoefclaaW.PrintWords Go.Proofs.YtjgelmfkoefclaaW.PrintLast Go.Proofs.YtjgelmfkoefclaaW.PrintMore Go.Proofs.Ytjgelmfkoefclaa.Pure
set_option linter.unusedVariables false
set_option linter.unusedSimpArgs false
attribute [local go_sem] max2_int min2_int max_two min_two

/-- What deltas come to, one behind the other. -/
def ChainR : List ByteArray → List ByteArray → ByteArray → List S24 → Nat → ByteArray → Int → Int → Prop
  | bk, bk', bs, [], i, s, n, er => s = bs ∧ n = i ∧ er = 0 ∧ bk' = bk
  | bk, bk', bs, d :: r, i, s, n, er => ∃ t e bk1, ApplyR bk bk1 bs d.f0 d.f1 d.f2 d.f3 t e ∧ Ext bk bk1 ∧ bk1.length ≤ bk.length + 2 ∧ ((e ≠ 0 ∧ s = ⟨#[]⟩ ∧ n = i ∧ er = e ∧ bk' = bk1) ∨ (e = 0 ∧ ChainR bk1 bk' t r (i + 1) s n er))
def GoodD (d : S24) : Prop := In64 d.f3 ∧ d.f3.length ≤ 1000000 ∧ ∀ x ∈ d.f3, x.f2.size ≤ maxLen
theorem apply_err {l l' : List ByteArray} {bs d0 d1 : ByteArray} {d2 : Int} {st : List S54} {s : ByteArray} {er : Int} (h : ApplyR l l' bs d0 d1 d2 st s er) : (er = 0 ∧ s.size ≤ 524288) ∨ er = 1 ∨ er = 13 ∨ er = 2 ∨ er = 4 ∨ er = 6 := by
  rcases h with ⟨_, _, h, _⟩ | ⟨_, _, _, _, h⟩ | ⟨_, _, _, _, _, h⟩ | ⟨_, _, _, _, _, _, h⟩ | ⟨h1, _, _, h2, h3, _, _, h⟩
  · exact .inr (.inl h)
  · exact .inr (.inr (.inl h))
  · exact .inr (.inr (.inr (h.imp id .inl)))
  · exact .inr (.inr (.inr (.inr (.inr h))))
  · refine .inl ⟨h, ?_⟩
    have e1 := run_len (L8 bs) st (by rw [L8_len]; exact h2)
    rw [← h3, L8_len] at e1
    have := h1.2.2.2.2.2
    have := h1.2.2.2.1
    omega
set_option maxHeartbeats 4000000 in
set_option maxRecDepth 100000 in
theorem crun_calls (b M : Nat) (bk : List ByteArray) (bs : ByteArray) (A0 : Option Addr) (c0 : Nat) (ds : List S24) (w : World) (hr0 : Kd.C k24 w A0 ds.length ds) (hc0 : ds.length ≤ c0) (hB : Bk w b M bk) (hbk : bk.length + 2 * ds.length ≤ 5000000) (hln : ds.length ≤ 1000) (hgd : ∀ d ∈ ds, GoodD d) (hbs : bs.size ≤ 1000000) :
    Calls Try.prog 22 #[.pointer (some ⟨b, 0, none⟩), .string bs, .slice A0 ds.length c0] w fun e w' => ∃ (s : ByteArray) (n er : Int) (bk' : List ByteArray), e = .returned (.tuple #[.string s, .int .i64 n, .int .i64 er]) ∧ ChainR bk bk' bs ds 0 s n er ∧ w.grownBy w' (some M) ∧ Bk w' b M bk' ∧ Ext bk bk' ∧ bk'.length ≤ bk.length + 2 * ds.length := by
  have HR0 := Aside0.mk hr0
  have HB := Aside0.mk hB
  have HBK := Aside0.mk hbk
  have HGD := Aside0.mk hgd
  have HBL : Aside0 (b < w.heap.size ∧ M < w.heap.size) := ⟨hB.ltb, hB.lt⟩
  clear hr0 hB hbk hgd
  go_enter Try.func22, Try.ntmps22
  go_wp2_with fail
  go_loopw [1, 15] (fun v1 v15 wr => ∃ (i : Nat) (cur : ByteArray) (bk1 : List ByteArray), i ≤ ds.length ∧ v1 = .string cur ∧ v15 = .int .i64 i ∧ cur.size ≤ 1000000 ∧ Aside0 (w.grownBy wr (some M)) ∧ Aside0 (Bk wr b M bk1) ∧ Aside0 (Ext bk bk1) ∧ Aside0 (bk1.length ≤ bk.length + 2 * i) ∧ Aside0 (∀ s n er bk', ChainR bk1 bk' cur (ds.drop i) i s n er → ChainR bk bk' bs ds 0 s n er)) (fun _ v15 _ => ds.length - (intOf v15).toNat)
  case atStart => exact ⟨0, bs, bk, Nat.zero_le _, rfl, rfl, hbs, ⟨gb_refl _ _⟩, HB, ⟨Ext.refl _⟩, ⟨Nat.le_refl _⟩, ⟨fun s n er bk' h => h⟩⟩
  case round =>
    obtain ⟨i, cur, bk1, hi, rfl, rfl, hcs, HG, HBR, HX, HL, HCR⟩ := hrel
    by_cases hlt : i < ds.length
    · have hb1 : decide (i < ds.length) = true := decide_eq_true hlt
      have hC24 := C_gb24 HR0.out HB.out HG.out
      obtain ⟨ad, A3, c3, hA0, g0, g1, g2, g3, g4, g5⟩ := at_T24 hC24 (i : Int) (by omega) (by omega)
      subst hA0
      have hdd : ds[i]? = some (rd_T24 ds (i : Int)) := by unfold rd_T24; rw [Int.toNat_natCast, List.getD_eq_getElem?_getD, List.getElem?_eq_getElem hlt]; rfl
      obtain ⟨d, hd⟩ : ∃ d, d = rd_T24 ds (i : Int) := ⟨_, rfl⟩
      rw [← hd] at g0 g1 g2 g3 g4 g5 hdd
      rw [Int.toNat_natCast] at g0 g1 g2 g3
      have hdr : ds.drop i = d :: ds.drop (i + 1) := by
        obtain ⟨h1, h2⟩ := List.getElem?_eq_some_iff.1 hdd
        rw [← h2]; exact List.drop_eq_getElem_cons h1
      obtain ⟨k1, k2, k3⟩ := HGD.out d (List.mem_of_getElem? hdd)
      have HDR := Aside0.mk hdr
      have HC5 := Aside0.mk g5
      have HB1X : Aside0 (bk1.length + 2 < 10000000) := ⟨by have := HL.out; have := HBK.out; omega⟩
      obtain ⟨d0, d1, d2, st⟩ := d
      simp only at g0 g1 g2 g3 g4 k1 k2 k3 HDR HC5
      have HAP := Aside0.mk (fun wx (h : Kd.C k54 wx A3 st.length st) (hb : Bk wx b M bk1) => apply_calls b M bk1 cur d0 d1 d2 A3 c3 st wx h g4 k1 k2 hcs k3 hb HB1X.out)
      clear hd hdd hdr g5 k1 k2 k3 hC24
      go_upto_region 5 with (go_at_call 28; go_loud ((with_reducible refine (HAP.out _ (Kd.C_below HC5.out (below_alloc (Below.refl _ _) _)) (HBR.out.below (below_alloc (Below.refl _ _) _))).mono ?_); rintro _ wa ⟨s, er, bk2, rfl, har, hg, hbk, hx, hl2⟩; have HAR := Aside0.mk har; have HGA := Aside0.mk (gb_trans (gb_below HG.out (below_alloc (Below.refl _ _) _)) hg); have HBA := Aside0.mk hbk; have HXA := Aside0.mk hx; have HLA := Aside0.mk hl2; clear har hg hbk hx hl2))
      rcases apply_err HAR.out with ⟨rfl, hss⟩ | he
      · go_wp2_with fail
        go_roundw
        case rel =>
          refine ⟨i + 1, s, bk2, by omega, rfl, by go_num, by omega, HGA, HBA, ⟨HX.out.trans HXA.out⟩, ⟨by have := HL.out; have := HLA.out; omega⟩, ⟨fun s' n' er' bk' h => HCR.out s' n' er' bk' ?_⟩⟩
          rw [HDR.out]
          exact ⟨s, 0, bk2, HAR.out, HXA.out, HLA.out, .inr ⟨rfl, h⟩⟩
        case measure => simp [intOf]; omega
      · have hne : er ≠ 0 := by omega
        have heb : (er != 0) = true := bne_iff_ne.mpr hne
        have HNE := Aside0.mk hne
        clear he hne
        go_wp2_with fail
        go_ret3
        have hs : ChainR bk1 bk2 cur (ds.drop i) i ⟨#[]⟩ i er := by
          rw [HDR.out]
          exact ⟨s, er, bk2, HAR.out, HXA.out, HLA.out, .inl ⟨HNE.out, rfl, rfl, rfl, rfl⟩⟩
        exact ⟨⟨#[]⟩, i, er, bk2, rfl, HCR.out _ _ _ _ hs, HGA.out, HBA.out, HX.out.trans HXA.out, by have := HL.out; have := HLA.out; omega⟩
    · have hb1 : decide (i < ds.length) = false := decide_eq_false hlt
      have hie : i = ds.length := by omega
      subst hie
      go_wp2_with fail
      go_ret3
      have hs : ChainR bk1 bk1 cur (ds.drop ds.length) ds.length cur ds.length 0 := by
        rw [List.drop_length]
        exact ⟨rfl, rfl, rfl, rfl⟩
      exact ⟨cur, ds.length, 0, bk1, rfl, HCR.out _ _ _ _ hs, HG.out, HBR.out, HX.out, HL.out⟩
end Go.Proofs.Ytjgelmfkoefclaa.PAll

-- from YtjgelmfkoefclaaChainLaw
/- Deltas between texts, one behind the other: where running them comes to. -/
namespace Go.Proofs.Ytjgelmfkoefclaa.Pure
open Go.RowKit Go.Proofs.YtjgelmfkoefclaaW.PrintWords Go.Proofs.YtjgelmfkoefclaaW.PrintLast Go.Proofs.YtjgelmfkoefclaaW.PrintMore Go.Proofs.Ytjgelmfkoefclaa.PAll
set_option linter.unusedVariables false

theorem DeltaOf.right {bk : List ByteArray} {s t : ByteArray} {d : S24} (h : DeltaOf bk s t d) (ht : t.size ≤ 524288) : RightP d.f0 d.f1 d.f2 d.f3 := by
  obtain ⟨h1, h2, _, _, h3, h4, h5⟩ := h
  have e := run_len (L8 s) d.f3 (by rw [L8_len]; exact h4)
  rw [h5, L8_len] at e
  refine ⟨by rw [h1]; exact markV_size _ _, by rw [h2]; exact markV_size _ _, by omega, by omega, fun x hx => (h4 x hx).1, by omega⟩
theorem apply_right {bk bk1 : List ByteArray} {s t s' : ByteArray} {d : S24} {e : Int} (h : DeltaOf bk s t d) (ha : ApplyR bk bk1 s d.f0 d.f1 d.f2 d.f3 s' e) (hx : Ext bk bk1) (ht : t.size ≤ 524288) : e = 0 ∧ s' = t := by
  have hr := DeltaOf.right h ht
  obtain ⟨h1, h2, h3, h4, h5, h6, h7⟩ := h
  have m1 : markV bk1 s = d.f0 := by rw [hx.mark h3]; exact h1.symm
  have m2 : markV bk1 t = d.f1 := by rw [hx.mark h4]; exact h2.symm
  rcases ha with ⟨a1, _⟩ | ⟨_, _, a1, _⟩ | ⟨_, _, _, a1, _⟩ | ⟨_, _, _, _, ⟨t2, a1, _, a2⟩, _⟩ | ⟨_, _, _, _, a1, _, _, a2⟩
  · exact absurd hr a1
  · exact absurd m1 a1
  · exact absurd h6 a1
  · have : t2 = t := L8_inj (a1.trans h7)
    rw [this] at a2
    exact absurd m2 a2
  · exact ⟨a2, L8_inj (a1.trans h7)⟩
theorem apply_wrong {bk bk1 : List ByteArray} {s t s' s2 : ByteArray} {d : S24} {e : Int} (h : DeltaOf bk s t d) (ha : ApplyR bk bk1 s2 d.f0 d.f1 d.f2 d.f3 s' e) (hx : Ext bk bk1) (hl : bk1.length ≤ 10000000) (ht : t.size ≤ 524288) (hne : s2 ≠ s) : e = 13 := by
  have hr := DeltaOf.right h ht
  obtain ⟨h1, h2, h3, h4, h5, h6, h7⟩ := h
  have m1 : markV bk1 s = d.f0 := by rw [hx.mark h3]; exact h1.symm
  have key : s2 ∈ bk1 → markV bk1 s2 = d.f0 → False := fun h8 h9 => hne (markV_inj hl h8 (hx.mem h3) (h9.trans m1.symm))
  rcases ha with ⟨a1, _⟩ | ⟨_, _, _, _, a1⟩ | ⟨_, a1, a2, _⟩ | ⟨_, a1, a2, _⟩ | ⟨_, a1, a2, _⟩
  · exact absurd hr a1
  · exact a1
  · exact (key a1 a2).elim
  · exact (key a1 a2).elim
  · exact (key a1 a2).elim
/-- The way that deltas lead. -/
def PathD (bk : List ByteArray) : ByteArray → List S24 → ByteArray → Prop
  | s, [], t => s = t
  | s, d :: r, t => ∃ m, m.size ≤ 524288 ∧ DeltaOf bk s m d ∧ PathD bk m r t
theorem PathD.ext {bk bk1 : List ByteArray} (hx : Ext bk bk1) : ∀ {ds : List S24} {s t : ByteArray}, PathD bk s ds t → PathD bk1 s ds t
  | [], _, _, h => h
  | d :: r, s, t, h => by
    obtain ⟨m, h1, h2, h3⟩ := h
    exact ⟨m, h1, h2.ext hx, PathD.ext hx h3⟩
theorem chain_path {bk' : List ByteArray} {s' : ByteArray} {n er : Int} (r : List S24) : ∀ (ds : List S24) (bk : List ByteArray) (s t : ByteArray) (i : Nat), PathD bk s ds t → ChainR bk bk' s (ds ++ r) i s' n er →
    ∃ bk1, Ext bk bk1 ∧ bk1.length ≤ bk.length + 2 * ds.length ∧ ChainR bk1 bk' t r (i + ds.length) s' n er
  | [], bk, s, t, i, hp, h => by
    obtain rfl : s = t := hp
    exact ⟨bk, Ext.refl _, Nat.le_refl _, h⟩
  | d :: ds, bk, s, t, i, hp, h => by
    obtain ⟨m, h1, h2, h3⟩ := hp
    obtain ⟨t', e, bk1, h4, h5, h6, h7⟩ := h
    obtain ⟨rfl, rfl⟩ := apply_right h2 h4 h5 h1
    rcases h7 with ⟨h8, _⟩ | ⟨_, h8⟩
    · exact absurd rfl h8
    · obtain ⟨bk2, k1, k2, k3⟩ := chain_path r ds bk1 _ t (i + 1) (PathD.ext h5 h3) h8
      refine ⟨bk2, h5.trans k1, by rw [List.length_cons]; omega, ?_⟩
      rw [List.length_cons, show i + (ds.length + 1) = i + 1 + ds.length by omega]
      exact k3
theorem path_of {bk : List ByteArray} {l : List ByteArray} {ds : List S24} (hl : ds.length = l.length - 1) (hs : ∀ x ∈ l, x.size ≤ 1000) (hD : ∀ i s t d, l[i]? = some s → l[i + 1]? = some t → ds[i]? = some d → DeltaOf bk s t d) :
    ∀ (k a : Nat) (s t : ByteArray), l[a]? = some s → l[a + k]? = some t → PathD bk s ((ds.drop a).take k) t
  | 0, a, s, t, h1, h2 => by
    rw [Nat.add_zero, h1] at h2
    injection h2
  | k + 1, a, s, t, h1, h2 => by
    have hlt : a + (k + 1) < l.length := (List.getElem?_eq_some_iff.1 h2).1
    have hda : a < ds.length := by omega
    have hm : l[a + 1]? = some (l[a + 1]'(by omega)) := List.getElem?_eq_getElem _
    have hd : ds[a]? = some ds[a] := List.getElem?_eq_getElem hda
    rw [List.drop_eq_getElem_cons hda, List.take_succ_cons]
    refine ⟨_, Nat.le_trans (hs _ (List.mem_of_getElem? hm)) (by decide), hD a s _ _ h1 hm hd, ?_⟩
    exact path_of hl hs hD k (a + 1) _ t hm (by rw [show a + 1 + k = a + (k + 1) by omega]; exact h2)
/-- A row run with one delta left out. -/
theorem stops {bk bk' : List ByteArray} {l : List ByteArray} {ds : List S24} {o : Nat} {s0 so so1 sl s' : ByteArray} {n er : Int} (hl : ds.length = l.length - 1) (hs : ∀ x ∈ l, x.size ≤ 1000) (hD : ∀ i s t d, l[i]? = some s → l[i + 1]? = some t → ds[i]? = some d → DeltaOf bk s t d)
    (ho : o + 2 < l.length) (h0 : l[0]? = some s0) (h1 : l[o]? = some so) (h2 : l[o + 1]? = some so1) (h3 : l[l.length - 1]? = some sl) (hbk : bk.length + 2 * l.length + 2 ≤ 10000000) (h : ChainR bk bk' s0 (ds.take o ++ ds.drop (o + 1)) 0 s' n er) :
    (so = so1 → er = 0 ∧ n = ((ds.take o ++ ds.drop (o + 1)).length : Nat) ∧ s' = sl) ∧ (so ≠ so1 → s' = ⟨#[]⟩ ∧ n = (o : Nat) ∧ er = 13) := by
  have p1 : PathD bk s0 (ds.take o) so := by
    have := path_of hl hs hD o 0 s0 so h0 (by rw [Nat.zero_add]; exact h1)
    rwa [List.drop_zero] at this
  obtain ⟨bk1, x1, x2, x3⟩ := chain_path (ds.drop (o + 1)) (ds.take o) bk s0 so 0 p1 h
  have hto : (ds.take o).length = o := by rw [List.length_take]; omega
  rw [hto, Nat.zero_add] at x3
  rw [hto] at x2
  constructor
  · rintro rfl
    have p2 : PathD bk so (ds.drop (o + 1)) sl := by
      have := path_of hl hs hD (l.length - 1 - (o + 1)) (o + 1) so sl h2 (by rw [show o + 1 + (l.length - 1 - (o + 1)) = l.length - 1 by omega]; exact h3)
      rwa [List.take_of_length_le (by rw [List.length_drop]; omega)] at this
    have x4 : ChainR bk1 bk' so (ds.drop (o + 1) ++ []) o s' n er := by rw [List.append_nil]; exact x3
    obtain ⟨bk2, _, _, y3⟩ := chain_path [] (ds.drop (o + 1)) bk1 so sl o (p2.ext x1) x4
    obtain ⟨y4, y5, y6, _⟩ := y3
    exact ⟨y6, by rw [y5, List.length_append, hto], y4⟩
  · intro hne
    have hd : o + 1 < ds.length := by omega
    rw [List.drop_eq_getElem_cons hd] at x3
    obtain ⟨t, e, bk2, a1, a2, a3, a4⟩ := x3
    have hm : l[o + 2]? = some (l[o + 2]'(by omega)) := List.getElem?_eq_getElem _
    have hdel := (hD (o + 1) so1 _ _ h2 hm (List.getElem?_eq_getElem hd)).ext x1
    have he := apply_wrong hdel a1 a2 (by omega) (Nat.le_trans (hs _ (List.mem_of_getElem? hm)) (by decide)) hne
    subst he
    rcases a4 with ⟨_, b1, b2, b3, _⟩ | ⟨b1, _⟩
    · exact ⟨b1, b2, b3⟩
    · exact absurd b1 (by decide)
end Go.Proofs.Ytjgelmfkoefclaa.Pure

-- from YtjgelmfkoefclaaPAllx28
-- Written by a program of this session (wip/tools/hookprint.py, over the print); Lean checks it.
namespace Go.Proofs.Ytjgelmfkoefclaa.PAll
open Go.RowKit Go.Proofs.YtjgelmfkoefclaaW.PrintWords Go.Proofs.YtjgelmfkoefclaaW.PrintLast Go.Proofs.YtjgelmfkoefclaaW.PrintMore
attribute [local go_sem] max2_int min2_int max_two min_two max_three min_three max_four min_four   -- for this text's walks alone
set_option linter.unusedVariables false
set_option linter.unusedSimpArgs false

/-! ### barquelaw07_few: function 19 -/
mutual
def barquelaw07_few.l0 : Nat → List ByteArray → List ByteArray → Int → Option (List ByteArray)
  | 0, _, _, _ => none
  | k + 1, x0, x3, x4 => if x4 < (x0.length : Int) then (barquelaw07_few.j1 k x0 x3 x4 (decide (x4 < 6))) else (barquelaw07_few.j1 k x0 x3 x4 false)
def barquelaw07_few.j1 : Nat → List ByteArray → List ByteArray → Int → Bool → Option (List ByteArray)
  | 0, _, _, _, _ => none
  | k + 1, x0, x3, x4, x13 => if x13 = true then (if 0 ≤ x4 then (if x4 < (x0.length : Int) then (if ((rdOf ByteArray.empty x0 x4).size : Int) > 1000 then (if 0 ≤ 1000 then (if 1000 ≤ ((rdOf ByteArray.empty x0 x4).size : Int) then (if x3.length < 8796093022208 then (barquelaw07_few.l0 k x0 (x3 ++ [(rdOf ByteArray.empty x0 x4).extract 0 1000]) (wrap64 (x4 + 1))) else (none)) else (none)) else (none)) else (if x3.length < 8796093022208 then (barquelaw07_few.l0 k x0 (x3 ++ [rdOf ByteArray.empty x0 x4]) (wrap64 (x4 + 1))) else (none))) else (none)) else (none)) else (some x3)
end
def barquelaw07_few.f (k : Nat) (l0 : List ByteArray) : Option (List ByteArray) := barquelaw07_few.l0 k l0 ([] : List ByteArray) 0
theorem barquelaw07_few.mono_l : ∀ k, (∀ y0 y1 y2, LeO (barquelaw07_few.l0 k y0 y1 y2) (barquelaw07_few.l0 (k + 1) y0 y1 y2)) ∧ (∀ y0 y1 y2 y3, LeO (barquelaw07_few.j1 k y0 y1 y2 y3) (barquelaw07_few.j1 (k + 1) y0 y1 y2 y3))
  | 0 => ⟨fun _ _ _ r h => by simp [barquelaw07_few.l0] at h, fun _ _ _ _ r h => by simp [barquelaw07_few.j1] at h⟩
  | k + 1 => by
    obtain ⟨ih0, ih1⟩ := barquelaw07_few.mono_l k
    refine ⟨?_, ?_⟩
    · intro y0 y1 y2
      unfold barquelaw07_few.l0
      repeat' first
      | (with_reducible exact ih0 _ _ _)
      | (with_reducible exact ih1 _ _ _ _)
      | (with_reducible exact LeO.refl _)
      | (with_reducible exact LeO.none _)
      | (with_reducible refine LeO.ite ?_ ?_)
      | (with_reducible refine LeO.bind ?_ (fun _ => ?_))
      | exact ih0 _ _ _
      | exact ih1 _ _ _ _
      | exact LeO.none _
      | refine LeO.ite ?_ ?_
      | refine LeO.bind ?_ (fun _ => ?_)
    · intro y0 y1 y2 y3
      unfold barquelaw07_few.j1
      repeat' first
      | (with_reducible exact ih0 _ _ _)
      | (with_reducible exact ih1 _ _ _ _)
      | (with_reducible exact LeO.refl _)
      | (with_reducible exact LeO.none _)
      | (with_reducible refine LeO.ite ?_ ?_)
      | (with_reducible refine LeO.bind ?_ (fun _ => ?_))
      | exact ih0 _ _ _
      | exact ih1 _ _ _ _
      | exact LeO.none _
      | refine LeO.ite ?_ ?_
      | refine LeO.bind ?_ (fun _ => ?_)
theorem barquelaw07_few.mono : ∀ a0 k, LeO (barquelaw07_few.f k a0) (barquelaw07_few.f (k + 1) a0) := by
  intro a0 k
  obtain ⟨ih0, ih1⟩ := barquelaw07_few.mono_l k
  unfold barquelaw07_few.f
  repeat' first
      | (with_reducible exact ih0 _ _ _)
      | (with_reducible exact ih1 _ _ _ _)
      | (with_reducible exact LeO.refl _)
      | (with_reducible exact LeO.none _)
      | (with_reducible refine LeO.ite ?_ ?_)
      | (with_reducible refine LeO.bind ?_ (fun _ => ?_))
      | exact ih0 _ _ _
      | exact ih1 _ _ _ _
      | exact LeO.none _
      | refine LeO.ite ?_ ?_
      | refine LeO.bind ?_ (fun _ => ?_)
set_option maxHeartbeats 8000000 in
set_option maxRecDepth 100000 in
theorem barquelaw07_few.calls (k : Nat) (A0 : Option Addr) (c0 : Nat) (l0 : List ByteArray) (r : List ByteArray) (w : World) (hr0 : Kd.C Kd.string w A0 l0.length l0) (hc0 : l0.length ≤ c0) (h : barquelaw07_few.f k l0 = some r) :
    Calls Try.prog 19 #[.slice A0 l0.length c0] w fun e w' => ∃ v0_ : Value, e = .returned (v0_) ∧ Kd.R Kd.string 9 w' w.heap.size (fun _ => True) v0_ r ∧ Below w.heap.size w w' := by
  have HR0 := Aside0.mk hr0
  have HC0 := Aside0.mk hc0
  clear hr0 hc0
  have HB := Aside0.mk (Below.refl w.heap.size w)
  have H : (barquelaw07_few.l0 k l0 ([] : List ByteArray) 0) = some r := h
  clear h
  have H' := Aside0.mk H
  clear H
  go_enter Try.func19, Try.ntmps19
  go_wp2
  go_loopg [3, 4] k (fun kq v3 v4 w' => ∃ (x3_1 : List ByteArray) (x4_1 : Int), v4 = .int .i64 x4_1 ∧ Aside0 (barquelaw07_few.l0 kq l0 x3_1 x4_1 = some r) ∧ Aside0 (kq ≤ k) ∧ Aside0 (Kd.R Kd.string 9 w' w.heap.size (fun _ => True) v3 x3_1) ∧ Aside0 (Below w.heap.size w w'))
  case atStart => exact ⟨(([] : List ByteArray)), (0), (by first | rfl | (simp; done) | (simp [*]; done)), H', ⟨Nat.le_refl _⟩, ⟨by first | exact Kd.R_nil _ _ _ _ _ | exact Kd.N_nil _ _ _ _ _ | exact Kd.V_nil _ _ _ _ _ | exact Kd.Q_nil _ _ _ _ _ | exact Kd.S_nil _ _ _ _ _⟩, ⟨by repeat (first | (with_reducible first | exact HB.out | apply below_alloc | apply pw_below_drewN | apply below_drew1) | exact HB.out)⟩⟩
  case round =>
    clear H'
    try clear c1
    obtain ⟨x3_1, x4_1, rfl, HA, HK1, HO_3, HB⟩ := hrel
    cases gk with
    | zero => exact absurd HA.out (by simp [barquelaw07_few.l0])
    | succ k1 =>
      have H := HA.out
      clear HA
      simp only [barquelaw07_few.l0] at H
      have HC2 := Aside0.mk H
      clear H
      go_upto_region 3 with (fail)
      go_cut [13] (fun v13 wc => ∃ (kq : Nat) (x13_1 : Bool), v13 = .bool x13_1 ∧ Aside0 (barquelaw07_few.j1 kq l0 x3_1 x4_1 x13_1 = some r) ∧ Aside0 (kq ≤ k1) ∧ Aside0 (Kd.R Kd.string 9 wc w.heap.size (fun _ => True) u3 x3_1) ∧ Aside0 (Below w.heap.size w wc))
      case first =>
        have H := HC2.out
        clear HC2
        by_cases c3 : x4_1 < (l0.length : Int)
        · rw [if_pos c3] at H
          have c3b0 : decide (x4_1 < (l0.length : Int)) = true := decide_eq_true c3
          clear c3
          (first | rw [c3b0] | (simp only [i64_w, i32_w]; rw [c3b0]) | skip)
          have H' := Aside0.mk H
          clear H
          go_wp2
          go_meet
          case rel => exact ⟨_, (decide (x4_1 < 6)), (by first | rfl | (simp; done) | (simp [*]; done)), H', ⟨by have := HK1.out; first | omega | exact Nat.le_refl _⟩, ⟨by (with_reducible repeat (first | apply Kd.R_alloc | apply Kd.R_drewN | apply Kd.R_drew)); exact HO_3.out⟩, ⟨by repeat (first | (with_reducible first | exact HB.out | apply below_alloc | apply pw_below_drewN | apply below_drew1) | exact HB.out)⟩⟩
        · rw [if_neg c3] at H
          have c3b0 : decide (x4_1 < (l0.length : Int)) = false := decide_eq_false c3
          clear c3
          (first | rw [c3b0] | (simp only [i64_w, i32_w]; rw [c3b0]) | skip)
          have H' := Aside0.mk H
          clear H
          go_wp2
          go_meet
          case rel => exact ⟨_, (false), (by first | rfl | (simp; done) | (simp [*]; done)), H', ⟨by have := HK1.out; first | omega | exact Nat.le_refl _⟩, ⟨by (with_reducible repeat (first | apply Kd.R_alloc | apply Kd.R_drewN | apply Kd.R_drew)); exact HO_3.out⟩, ⟨by repeat (first | (with_reducible first | exact HB.out | apply below_alloc | apply pw_below_drewN | apply below_drew1) | exact HB.out)⟩⟩
      case rest =>
        clear HC2
        try clear c1
        try clear p2
        try clear c3
        try clear c3b0
        obtain ⟨kq, x13_1, rfl, HA, HJ1, HO_3, HB⟩ := hcut
        cases kq with
        | zero => exact absurd HA.out (by simp [barquelaw07_few.j1])
        | succ kj1 =>
          have H := HA.out
          clear HA
          simp only [barquelaw07_few.j1] at H
          by_cases c4 : x13_1 = true
          · subst c4
            have H1 : (if 0 ≤ x4_1 then (if x4_1 < (l0.length : Int) then (if ((rdOf ByteArray.empty l0 x4_1).size : Int) > 1000 then (if 0 ≤ 1000 then (if 1000 ≤ ((rdOf ByteArray.empty l0 x4_1).size : Int) then (if x3_1.length < 8796093022208 then (barquelaw07_few.l0 kj1 l0 (x3_1 ++ [(rdOf ByteArray.empty l0 x4_1).extract 0 1000]) (wrap64 (x4_1 + 1))) else (none)) else (none)) else (none)) else (if x3_1.length < 8796093022208 then (barquelaw07_few.l0 kj1 l0 (x3_1 ++ [rdOf ByteArray.empty l0 x4_1]) (wrap64 (x4_1 + 1))) else (none))) else (none)) else (none)) = some r := by rw [if_pos rfl] at H; exact H
            clear H
            have H := H1
            clear H1
            by_cases c5 : 0 ≤ x4_1
            · rw [if_pos c5] at H
              have c5b0 : decide (0 ≤ x4_1) = true := decide_eq_true c5
              clear c5
              by_cases c6 : x4_1 < (l0.length : Int)
              · rw [if_pos c6] at H
                have c6b0 : decide (x4_1 < (l0.length : Int)) = true := decide_eq_true c6
                clear c6
                by_cases c7 : ((rdOf ByteArray.empty l0 x4_1).size : Int) > 1000
                · rw [if_pos c7] at H
                  have c7b0 : decide (1000 < ((rdOf ByteArray.empty l0 x4_1).size : Int)) = true := decide_eq_true c7
                  have c7b1 : decide (1000 < (rdOf ByteArray.empty l0 x4_1).size) = true := decide_eq_true (by omega)
                  clear c7
                  by_cases c8 : 0 ≤ 1000
                  · rw [if_pos c8] at H
                    have c8b0 := eq_true c8
                    have c8b1 : decide (0 ≤ 1000) = true := decide_eq_true c8
                    clear c8
                    by_cases c9 : 1000 ≤ ((rdOf ByteArray.empty l0 x4_1).size : Int)
                    · rw [if_pos c9] at H
                      have c9b0 := eq_true c9
                      have c9b1 : decide (1000 ≤ ((rdOf ByteArray.empty l0 x4_1).size : Int)) = true := decide_eq_true c9
                      clear c9
                      by_cases c10 : x3_1.length < 8796093022208
                      · rw [if_pos c10] at H
                        have LMc10 := Aside0.mk c10
                        clear c10
                        obtain ⟨y323, hy323⟩ : ∃ y_ : List ByteArray, y_ = (x3_1 ++ [(rdOf ByteArray.empty l0 x4_1).extract 0 1000]) := ⟨_, rfl⟩
                        replace H : (barquelaw07_few.l0 kj1 l0 y323 (wrap64 (x4_1 + 1))) = some r := by first | (rw [hy323]; with_reducible exact H) | (have H2_ := (Option.bind_some _ _).symm.trans H; rw [hy323]; with_reducible exact H2_) | (have H2_ := (Option.bind_some _ _).symm.trans H; with_reducible exact H2_) | with_reducible exact H | (rw [hy323]; exact H) | exact H
                        have Ny323 := Aside0.mk hy323
                        clear hy323
                        have H' := Aside0.mk H
                        clear H
                        have p322 : 0 ≤ (x4_1 : Int) := of_decide_eq_true (by first | (with_reducible assumption) | assumption)
                        have q322 : x4_1 < (l0.length : Int) := of_decide_eq_true (by first | (with_reducible assumption) | assumption)
                        obtain ⟨ad322, e322, hx322_0⟩ := Kd.at_string HR0.out x4_1 p322 q322
                        cases e322
                        replace hx322_0 := (HB.out.cell (World.block_lt_of_cell? w _ hx322_0)).trans hx322_0
                        replace p322 := eq_true p322
                        replace q322 := eq_true q322
                        go_wp2_with (first | ((with_reducible refine gate_builtin (b := .append) (xs := #[.tmp 25, .tmp 27]) rfl ?_); at_builtin; refine Kd.R_append Kd.string (w0 := w) w.heap.size rfl (.tmp 25) (.tmp 27) 36 9 (.string ⟨#[]⟩) 16 rfl Try.underlying36 info9 rfl (by decide) (by omega) u3 x3_1 ((rdOf ByteArray.empty l0 x4_1).extract 0 1000) [.string ((rdOf ByteArray.empty l0 x4_1).extract 0 1000)] (fun _ => True) (fun _ => False) rfl rfl ?aP (fun _ hk => hk.elim) ?aF ?aO ?aB ?aS ?aL ?_; (case aP => exact rfl); (case aB => exact (by repeat (first | (with_reducible first | exact HB.out | apply below_alloc | apply pw_below_drewN | apply below_drew1) | exact HB.out))); (case aF => exact (fun _ _ => trivial)); (case aO => exact (by (with_reducible repeat (first | apply Kd.R_alloc | apply Kd.R_drewN | apply Kd.R_drew)); exact HO_3.out)); (case aS => exact (below_size (by repeat (first | (with_reducible first | exact HB.out | apply below_alloc | apply pw_below_drewN | apply below_drew1) | exact HB.out)))); (case aL => have := LMc10.out; omega); intro v324 w11 ho hb hg hat; rw [← Ny323.out] at ho; have n0_ := Aside0.mk (hb); have n1_ := Aside0.mk (ho); clear HB; clear HO_3; have HB := n0_; have HO325 := n1_; clear n0_ n1_; clear ho hb hg hat))
                        go_roundg kj1
                        case measure => have := HK1.out; have := HJ1.out; omega
                        case rel => exact ⟨(y323), (wrap64 (x4_1 + 1)), (by first | rfl | (simp; done) | (simp [*]; done)), H', ⟨by have := HK1.out; have := HJ1.out; omega⟩, ⟨by (with_reducible repeat (first | apply Kd.R_alloc | apply Kd.R_drewN | apply Kd.R_drew)); exact HO325.out⟩, ⟨by repeat (first | (with_reducible first | exact HB.out | apply below_alloc | apply pw_below_drewN | apply below_drew1) | exact HB.out)⟩⟩
                      · rw [if_neg c10] at H
                        exact absurd H (by simp)
                    · rw [if_neg c9] at H
                      exact absurd H (by simp)
                  · rw [if_neg c8] at H
                    exact absurd H (by simp)
                · rw [if_neg c7] at H
                  have c7b0 : decide (1000 < ((rdOf ByteArray.empty l0 x4_1).size : Int)) = false := decide_eq_false c7
                  have c7b1 : decide (1000 < (rdOf ByteArray.empty l0 x4_1).size) = false := decide_eq_false (by omega)
                  clear c7
                  by_cases c12 : x3_1.length < 8796093022208
                  · rw [if_pos c12] at H
                    have LMc12 := Aside0.mk c12
                    clear c12
                    obtain ⟨y326, hy326⟩ : ∃ y_ : List ByteArray, y_ = (x3_1 ++ [rdOf ByteArray.empty l0 x4_1]) := ⟨_, rfl⟩
                    replace H : (barquelaw07_few.l0 kj1 l0 y326 (wrap64 (x4_1 + 1))) = some r := by first | (rw [hy326]; with_reducible exact H) | (have H2_ := (Option.bind_some _ _).symm.trans H; rw [hy326]; with_reducible exact H2_) | (have H2_ := (Option.bind_some _ _).symm.trans H; with_reducible exact H2_) | with_reducible exact H | (rw [hy326]; exact H) | exact H
                    have Ny326 := Aside0.mk hy326
                    clear hy326
                    have H' := Aside0.mk H
                    clear H
                    have p322 : 0 ≤ (x4_1 : Int) := of_decide_eq_true (by first | (with_reducible assumption) | assumption)
                    have q322 : x4_1 < (l0.length : Int) := of_decide_eq_true (by first | (with_reducible assumption) | assumption)
                    obtain ⟨ad322, e322, hx322_0⟩ := Kd.at_string HR0.out x4_1 p322 q322
                    cases e322
                    replace hx322_0 := (HB.out.cell (World.block_lt_of_cell? w _ hx322_0)).trans hx322_0
                    replace p322 := eq_true p322
                    replace q322 := eq_true q322
                    go_wp2_with (first | ((with_reducible refine gate_builtin (b := .append) (xs := #[.tmp 25, .tmp 27]) rfl ?_); at_builtin; refine Kd.R_append Kd.string (w0 := w) w.heap.size rfl (.tmp 25) (.tmp 27) 36 9 (.string ⟨#[]⟩) 16 rfl Try.underlying36 info9 rfl (by decide) (by omega) u3 x3_1 (rdOf ByteArray.empty l0 x4_1) [.string (rdOf ByteArray.empty l0 x4_1)] (fun _ => True) (fun _ => False) rfl rfl ?aP (fun _ hk => hk.elim) ?aF ?aO ?aB ?aS ?aL ?_; (case aP => exact rfl); (case aB => exact (by repeat (first | (with_reducible first | exact HB.out | apply below_alloc | apply pw_below_drewN | apply below_drew1) | exact HB.out))); (case aF => exact (fun _ _ => trivial)); (case aO => exact (by (with_reducible repeat (first | apply Kd.R_alloc | apply Kd.R_drewN | apply Kd.R_drew)); exact HO_3.out)); (case aS => exact (below_size (by repeat (first | (with_reducible first | exact HB.out | apply below_alloc | apply pw_below_drewN | apply below_drew1) | exact HB.out)))); (case aL => have := LMc12.out; omega); intro v327 w13 ho hb hg hat; rw [← Ny326.out] at ho; have n0_ := Aside0.mk (hb); have n1_ := Aside0.mk (ho); clear HB; clear HO_3; have HB := n0_; have HO328 := n1_; clear n0_ n1_; clear ho hb hg hat))
                    go_roundg kj1
                    case measure => have := HK1.out; have := HJ1.out; omega
                    case rel => exact ⟨(y326), (wrap64 (x4_1 + 1)), (by first | rfl | (simp; done) | (simp [*]; done)), H', ⟨by have := HK1.out; have := HJ1.out; omega⟩, ⟨by (with_reducible repeat (first | apply Kd.R_alloc | apply Kd.R_drewN | apply Kd.R_drew)); exact HO328.out⟩, ⟨by repeat (first | (with_reducible first | exact HB.out | apply below_alloc | apply pw_below_drewN | apply below_drew1) | exact HB.out)⟩⟩
                  · rw [if_neg c12] at H
                    exact absurd H (by simp)
              · rw [if_neg c6] at H
                exact absurd H (by simp)
            · rw [if_neg c5] at H
              exact absurd H (by simp)
          · replace c4 := Bool.eq_false_iff.mpr c4
            subst c4
            have H1 : (some x3_1) = some r := by rw [if_neg (show ¬ (false = true) by decide)] at H; exact H
            clear H
            have H := H1
            clear H1
            obtain rfl := Option.some.inj H
            go_wp2
            go_ret
            exact ⟨_, by first | rfl | (simp [errW_none, errW_some] <;> rfl) | (simp [*, errW_none, errW_some] <;> rfl), by (with_reducible repeat (first | apply Kd.R_alloc | apply Kd.R_drewN | apply Kd.R_drew)); exact HO_3.out, by repeat (first | (with_reducible first | exact HB.out | apply below_alloc | apply pw_below_drewN | apply below_drew1) | exact HB.out)⟩

end Go.Proofs.Ytjgelmfkoefclaa.PAll

-- from YtjgelmfkoefclaaFewLaw
/- At most six texts of at most 1000 bytes. -/
namespace Go.Proofs.Ytjgelmfkoefclaa.Pure
open Go.RowKit Go.Proofs.YtjgelmfkoefclaaW.PrintWords Go.Proofs.YtjgelmfkoefclaaW.PrintLast Go.Proofs.YtjgelmfkoefclaaW.PrintMore Go.Proofs.Ytjgelmfkoefclaa.PAll
set_option linter.unusedVariables false
theorem few_l0 (l : List ByteArray) (d : Nat) : ∀ (k i : Nat) (acc : List ByteArray), i + d = 6 → acc.length = i → (∀ x ∈ acc, x.size ≤ 1000) → 2 * d + 2 ≤ k → ∃ r, barquelaw07_few.l0 k l acc (i : Int) = some r ∧ r.length ≤ 6 ∧ ∀ x ∈ r, x.size ≤ 1000 := by
  induction d with
  | zero =>
    intro k i acc h1 h2 h3 h4
    obtain ⟨k, rfl⟩ : ∃ m, k = m + 2 := ⟨k - 2, by omega⟩
    have hi : decide ((i : Int) < 6) = false := decide_eq_false (by omega)
    refine ⟨acc, ?_, by omega, h3⟩
    unfold barquelaw07_few.l0
    rw [hi]
    unfold barquelaw07_few.j1
    split <;> rfl
  | succ d ih =>
    intro k i acc h1 h2 h3 h4
    obtain ⟨k, rfl⟩ : ∃ m, k = m + 2 := ⟨k - 2, by omega⟩
    have hi : decide ((i : Int) < 6) = true := decide_eq_true (by omega)
    have hw : wrap64 ((i : Int) + 1) = ((i + 1 : Nat) : Int) := by unfold wrap64; omega
    unfold barquelaw07_few.l0
    by_cases hl : (i : Int) < (l.length : Int)
    · rw [if_pos hl, hi]
      unfold barquelaw07_few.j1
      rw [if_pos rfl, if_pos (by omega), if_pos hl]
      obtain ⟨x, hx⟩ : ∃ x, x = rdOf ByteArray.empty l (i : Int) := ⟨_, rfl⟩
      rw [← hx]
      by_cases hs : (x.size : Int) > 1000
      · rw [if_pos hs, if_pos (by decide), if_pos (by omega), if_pos (by omega), hw]
        refine ih k (i + 1) _ (by omega) (by rw [List.length_append, h2]; rfl) (fun y hy => ?_) (by omega)
        rcases List.mem_append.mp hy with hy | hy
        · exact h3 y hy
        · rw [List.mem_singleton.mp hy, ByteArray.size_extract]; omega
      · rw [if_neg hs, if_pos (by omega), hw]
        refine ih k (i + 1) _ (by omega) (by rw [List.length_append, h2]; rfl) (fun y hy => ?_) (by omega)
        rcases List.mem_append.mp hy with hy | hy
        · exact h3 y hy
        · rw [List.mem_singleton.mp hy]; omega
    · rw [if_neg hl]
      unfold barquelaw07_few.j1
      rw [if_neg (by decide)]
      exact ⟨acc, rfl, by omega, h3⟩
theorem few_f (l : List ByteArray) : ∃ r, barquelaw07_few.f 20 l = some r ∧ r.length ≤ 6 ∧ ∀ x ∈ r, x.size ≤ 1000 := by
  unfold barquelaw07_few.f
  exact few_l0 l 6 20 0 [] rfl rfl (fun x hx => by cases hx) (by omega)
end Go.Proofs.Ytjgelmfkoefclaa.Pure

-- from YtjgelmfkoefclaaGivFlush
namespace Go.Proofs.Ytjgelmfkoefclaa.PAll
open Go.RowKit Go.Proofs.YtjgelmfkoefclaaW.PrintWords Go.Proofs.YtjgelmfkoefclaaW.PrintLast Go.Proofs.YtjgelmfkoefclaaW.PrintMore
set_option linter.unusedVariables false
set_option linter.unusedSimpArgs false
attribute [local go_sem] max2_int min2_int max_two min_two

/-- The two held blocks and the row of steps, as they stand under way. -/
structure FR (bh bo base : Nat) (ok : Nat → Prop) (v : Value) (w wr : World) (t : ByteArray) (v' : Value) (ys : List S54) : Prop where
  hh : wr.heap[bh]? = some (.cells #[.string t] 9 (0, 0))
  ho : wr.heap[bo]? = some (.cells #[v'] 22 (0, 0))
  R : Kd.R k54 54 wr base ok v' ys
  kp : Kept w wr (fun k => k = bh ∨ k = bo ∨ some k = v.ownBlock)
  bl : Below base w wr
  ow : v'.ownBlock = v.ownBlock ∨ ∃ b, v'.ownBlock = some b ∧ w.heap.size ≤ b

section
variable {bh bo base : Nat} {ok : Nat → Prop} {v : Value} {w wr : World} {t : ByteArray} {v' : Value} {ys : List S54}
theorem FR.drew (h : FR bh bo base ok v w wr t v' ys) : FR bh bo base ok v w wr.drew t v' ys := ⟨h.hh, h.ho, Kd.R_drew h.R, h.kp, below_drew h.bl, h.ow⟩
theorem FR.alloc (h : FR bh bo base ok v w wr t v' ys) (o : Obj) : FR bh bo base ok v' (wr.alloc o) (wr.alloc o) t v' ys := ⟨blk_alloc h.hh _, blk_alloc h.ho _, Kd.R_alloc h.R _, Kept.refl _ _, Below.refl _ _, .inl rfl⟩
theorem FR.drewN (h : FR bh bo base ok v w wr t v' ys) (m : Nat) : FR bh bo base ok v w (wr.drewN m) t v' ys := ⟨h.hh, h.ho, Kd.R_drewN h.R m, h.kp, pw_below_drewN h.bl m, h.ow⟩
theorem FR.held (h : FR bh bo base ok v w wr t v' ys) (hok : ∀ k, ok k → k ≠ bh ∧ k ≠ bo) (hne : bh ≠ bo) (hbh : base ≤ bh) (t2 : ByteArray) : FR bh bo base ok v w (wr.setCell ⟨bh, 0, none⟩ (.string t2)) t2 v' ys :=
  ⟨blk_put h.hh 0 _ rfl, blk_far h.ho (Ne.symm hne) _, Kd.R_far h.R (fun k hk => (hok k hk).1) _, h.kp.setCell (.inl (.inl rfl)) _, h.bl.setCell (p := ⟨bh, 0, none⟩) hbh _, h.ow⟩
theorem FR.grown (h : FR bh bo base ok v w wr t v' ys) (hok : ∀ k, ok k → k ≠ bh ∧ k ≠ bo) {w1 : World} (hG : wr.grownBy w1 v'.ownBlock) : w1.heap[bh]? = some (.cells #[.string t] 9 (0, 0)) ∧ w1.heap[bo]? = some (.cells #[v'] 22 (0, 0)) :=
  ⟨blk_grown h.hh hG (Kd.R_away h.R (fun k hk => (hok k hk).1)), blk_grown h.ho hG (Kd.R_away h.R (fun k hk => (hok k hk).2))⟩
theorem FR.out (h : FR bh bo base ok v w wr t v' ys) (hok : ∀ k, ok k → k ≠ bh ∧ k ≠ bo) (hne : bh ≠ bo) (hbo : base ≤ bo) {w1 : World} {v1 : Value} {zs : List S54} (hR : Kd.R k54 54 w1 base ok v1 zs) (hB : Below base wr w1) (hG : wr.grownBy w1 v'.ownBlock)
    (hO : v1.ownBlock = v'.ownBlock ∨ ∃ b, v1.ownBlock = some b ∧ wr.heap.size ≤ b) : FR bh bo base ok v w (w1.setCell ⟨bo, 0, none⟩ v1) t v1 zs := by
  obtain ⟨g1, g2⟩ := h.grown hok hG
  refine ⟨blk_far g1 hne _, blk_put g2 0 _ rfl, Kd.R_far hR (fun k hk => (hok k hk).2) _, ?_, (h.bl.trans hB).setCell (p := ⟨bo, 0, none⟩) hbo _, ?_⟩
  · refine Kept.setCell (Kept.of_grown hG h.kp ?_) (.inl (.inr (.inl rfl))) _
    intro k hk
    rcases h.ow with e | ⟨b, e, hb⟩
    · exact .inl (.inr (.inr (hk.symm.trans e)))
    · rw [hk] at e; injection e with e; subst e; exact .inr hb
  · rcases hO with e | ⟨b, e, hb⟩
    · rw [e]; exact h.ow
    · exact .inr ⟨b, e, Nat.le_trans h.kp.1 hb⟩
end

/-- What the closure leaves. -/
def FlushPost (bh bo : Nat) (base : Nat) (ok : Nat → Prop) (v : Value) (xs : List S54) (w : World) (e : Ending) (w' : World) : Prop :=
  e = .returned (.tuple #[]) ∧ ∃ v' t, t.size = 0 ∧ FR bh bo base ok v w w' t v' xs

set_option maxHeartbeats 2000000 in
set_option maxRecDepth 100000 in
theorem flush_calls (bh bo : Nat) (base : Nat) (ok : Nat → Prop) (v : Value) (xs : List S54) (s : ByteArray) (w : World) (hf : FR bh bo base ok v w w s v xs)
    (hbase : base ≤ w.heap.size) (hbh : base ≤ bh) (hbo : base ≤ bo) (hne : bh ≠ bo) (hok : ∀ k, ok k → k ≠ bh ∧ k ≠ bo) (hfr : ∀ k, w.heap.size ≤ k → ok k) (hs : s.size ≤ 1000000000) (hx : xs.length ≤ 1000000000) :
    Calls Try.prog 32 #[.pointer (some ⟨bh, 0, none⟩), .pointer (some ⟨bo, 0, none⟩)] w (FlushPost bh bo base ok v (xs ++ flushN s.size s) w) := by
  have HF := Aside0.mk hf
  have HOK := Aside0.mk hok
  have HFR := Aside0.mk hfr
  clear hf hok hfr
  go_enter Try.func32, Try.ntmps32
  go_wp2_with fail
  go_loopg [] s.size (fun kq wr => ∃ (t : ByteArray) (v' : Value) (ys : List S54), Aside0 (FR bh bo base ok v w wr t v' ys) ∧ Aside0 (ys ++ flushN t.size t = xs ++ flushN s.size s) ∧ Aside0 (t.size ≤ kq) ∧ Aside0 (kq ≤ s.size) ∧ Aside0 (ys.length + t.size ≤ xs.length + s.size))
  case atStart => exact ⟨s, v, xs, HF, ⟨rfl⟩, ⟨Nat.le_refl _⟩, ⟨Nat.le_refl _⟩, ⟨Nat.le_refl _⟩⟩
  case round =>
    obtain ⟨t, v', ys, HF1, HE, HK, HKS, HL⟩ := hrel
    have hht : wr.cell? ⟨bh, 0, none⟩ = some (.string t) := (blk_cell HF1.out.hh 0).trans rfl
    have hhv : wr.cell? ⟨bo, 0, none⟩ = some v' := (blk_cell HF1.out.ho 0).trans rfl
    have hfh : wr.frozen? ⟨bh, 0, none⟩ = false := blk_frozen HF1.out.hh 0
    have hfo : wr.frozen? ⟨bo, 0, none⟩ = false := blk_frozen HF1.out.ho 0
    have htl : t.toList.length = t.size := by rw [ByteArray.toList_eq]; exact data_length t
    by_cases hz : t.size = 0
    · have hem : t.toList.isEmpty = true := by rw [List.isEmpty_iff, ← List.length_eq_zero_iff, htl]; exact hz
      go_wp2_with fail
      go_end0
      exact ⟨rfl, v', t, hz, by have := HE.out; rw [flushN_zero t hz, List.append_nil] at this; rw [← this]; exact HF1.out⟩
    · have hem : t.toList.isEmpty = false := by rw [Bool.eq_false_iff, Ne, List.isEmpty_iff, ← List.length_eq_zero_iff, htl]; exact hz
      have HFR1 : Aside0 (∀ k, wr.drew.heap.size ≤ k → ok k) := ⟨fun k hk => HFR.out k (Nat.le_trans HF1.out.kp.1 hk)⟩
      have HBW1 : Aside0 (base ≤ wr.drew.heap.size) := ⟨Nat.le_trans hbase HF1.out.kp.1⟩
      have HLY : Aside0 ((ys.length + 1) * 32 ≤ 140737488355328) := ⟨by have := HL.out; omega⟩
      have HGB : ∀ (w1 : World), wr.drew.grownBy w1 v'.ownBlock → Aside0 (w1.heap[bo]? = some (.cells #[v'] 22 (0, 0))) := fun w1 hG => ⟨(HF1.out.drew.grown HOK.out hG).2⟩
      have hca : ∀ X, (wr.alloc X).cell? ⟨bo, 0, none⟩ = some v' := fun X => (blk_cell (blk_alloc HF1.out.ho X) 0).trans rfl
      by_cases h4 : 4096 < t.size
      · have h4b : decide (4096 < t.size) = true := decide_eq_true h4
        have h4i : (4096 : Int) ≤ ↑t.size := by omega
        go_wp2_with fail
        go_region_law (refine Kd.R_append_step k54 (w0 := wr.drew) (W := wr.drew) base ?aW (.tmp 8) (.tmp 13) 22 54 (.agg #[(.int .i64 0), (.int .i64 0), (.string ⟨#[]⟩)]) 32 ?aO Try.underlying22 info54 (by decide) (by decide) (by decide) v' ys (⟨0, 0, t.extract 0 4096⟩ : S54) [.int .i64 0, .int .i64 0, .string (t.extract 0 4096)] ok (fun _ => False) ?aS ?aX (k54_mkM _ _ _ (⟨0, 0, t.extract 0 4096⟩ : S54)) (fun _ hk => hk.elim) HFR1.out (Kd.R_drew HF1.out.R) (Below.refl _ _) HBW1.out HLY.out ?_; (case aW => rfl); (case aO => rfl); (case aS => rfl); (case aX => rfl); intro v1 w1 hR1 hB1 hG1 hO1; have hc1 : w1.cell? ⟨bo, 0, none⟩ = some v' := (blk_cell (HGB w1 hG1).out 0).trans rfl; have hf1 : w1.frozen? ⟨bo, 0, none⟩ = false := blk_frozen (HGB w1 hG1).out 0; obtain ⟨A1, c1, hv1⟩ := Kd.R_slice hR1; rw [List.length_append, List.length_singleton] at hv1; subst hv1; have HF2 := Aside0.mk (FR.out HF1.out.drew HOK.out hne hbo hR1 hB1 hG1 hO1); clear hR1 hB1 hG1 hO1)
        all_goals
          generalize (World.setCell w1 ⟨bo, 0, none⟩ _) = W2 at HF2 ⊢
          clear hc1 hf1
          have hht2 : W2.cell? ⟨bh, 0, none⟩ = some (.string t) := (blk_cell HF2.out.hh 0).trans rfl
          have hfh2 : W2.frozen? ⟨bh, 0, none⟩ = false := blk_frozen HF2.out.hh 0
          go_wp2_with fail
          go_roundg (t.extract 4096 t.size).size
          case measure => have := HK.out; simp only [ByteArray.size_extract]; omega
          case rel =>
            refine ⟨t.extract 4096 t.size, _, _, ⟨FR.held HF2.out HOK.out hne hbh _⟩, ⟨?_⟩, ⟨Nat.le_refl _⟩, ⟨?_⟩, ⟨?_⟩⟩
            · rw [← HE.out, flushN_step t hz, show min t.size 4096 = 4096 from by omega, List.append_assoc, List.singleton_append]
            · have := HK.out; have := HKS.out; simp only [ByteArray.size_extract]; omega
            · have := HL.out; simp only [ByteArray.size_extract, List.length_append, List.length_singleton]; omega
      · have h4b : decide (4096 < t.size) = false := decide_eq_false h4
        have hex : t.extract t.size t.size = ByteArray.empty := by simp
        have hfull : t.extract 0 t.size = t := by simp
        go_wp2_with fail
        go_region_law (refine Kd.R_append_step k54 (w0 := wr.drew) (W := wr.drew) base ?aW (.tmp 8) (.tmp 13) 22 54 (.agg #[(.int .i64 0), (.int .i64 0), (.string ⟨#[]⟩)]) 32 ?aO Try.underlying22 info54 (by decide) (by decide) (by decide) v' ys (⟨0, 0, t⟩ : S54) [.int .i64 0, .int .i64 0, .string (t)] ok (fun _ => False) ?aS ?aX (k54_mkM _ _ _ (⟨0, 0, t⟩ : S54)) (fun _ hk => hk.elim) HFR1.out (Kd.R_drew HF1.out.R) (Below.refl _ _) HBW1.out HLY.out ?_; (case aW => rfl); (case aO => rfl); (case aS => rfl); (case aX => rfl); intro v1 w1 hR1 hB1 hG1 hO1; have hc1 : w1.cell? ⟨bo, 0, none⟩ = some v' := (blk_cell (HGB w1 hG1).out 0).trans rfl; have hf1 : w1.frozen? ⟨bo, 0, none⟩ = false := blk_frozen (HGB w1 hG1).out 0; obtain ⟨A1, c1, hv1⟩ := Kd.R_slice hR1; rw [List.length_append, List.length_singleton] at hv1; subst hv1; have HF2 := Aside0.mk (FR.out HF1.out.drew HOK.out hne hbo hR1 hB1 hG1 hO1); clear hR1 hB1 hG1 hO1)
        all_goals
          generalize (World.setCell w1 ⟨bo, 0, none⟩ _) = W2 at HF2 ⊢
          clear hc1 hf1
          have hht2 : W2.cell? ⟨bh, 0, none⟩ = some (.string t) := (blk_cell HF2.out.hh 0).trans rfl
          have hfh2 : W2.frozen? ⟨bh, 0, none⟩ = false := blk_frozen HF2.out.hh 0
          go_wp2_with fail
          go_roundg (ByteArray.empty).size
          case measure => have := HK.out; simp only [ByteArray.size_empty]; omega
          case rel =>
            refine ⟨ByteArray.empty, _, _, ⟨FR.held HF2.out HOK.out hne hbh _⟩, ⟨?_⟩, ⟨Nat.le_refl _⟩, ⟨?_⟩, ⟨?_⟩⟩
            · rw [← HE.out, flushN_step t hz, show min t.size 4096 = t.size from by omega, List.append_assoc, List.singleton_append, hex, hfull]
            · have := HK.out; have := HKS.out; simp only [ByteArray.size_empty]; omega
            · have := HL.out; simp only [ByteArray.size_empty, List.length_append, List.length_singleton]; omega

/-- A copy behind steps. -/
def tidyCopy (o : List S54) (x : S54) : List S54 :=
  if o.length ≠ 0 ∧ (rd_T54 o (o.length - 1 : Nat)).f2.size = 0 ∧ wrap64 ((rd_T54 o (o.length - 1 : Nat)).f0 + (rd_T54 o (o.length - 1 : Nat)).f1) = x.f0 then
    o.set (o.length - 1) ⟨(rd_T54 o (o.length - 1 : Nat)).f0, wrap64 ((rd_T54 o (o.length - 1 : Nat)).f1 + x.f1), (rd_T54 o (o.length - 1 : Nat)).f2⟩
  else o ++ [⟨x.f0, x.f1, ⟨#[]⟩⟩]
def tidyS (st : ByteArray × List S54) (x : S54) : ByteArray × List S54 :=
  if x.f2.size ≠ 0 then (st.1 ++ x.f2, st.2) else if x.f1 ≤ 0 then st else (⟨#[]⟩, tidyCopy (st.2 ++ flushN st.1.size st.1) x)
def tidyF (l : List S54) : ByteArray × List S54 := l.foldl tidyS (⟨#[]⟩, [])
def tidyV (l : List S54) : List S54 := (tidyF l).2 ++ flushN (tidyF l).1.size (tidyF l).1
def textSum (l : List S54) : Nat := (l.map (fun x => x.f2.size)).foldr (· + ·) 0
def TidyOk (l : List S54) : Prop := l.length ≤ 1000000 ∧ textSum l ≤ 500000000
instance (l : List S54) : Decidable (TidyOk l) := by unfold TidyOk; infer_instance

theorem tidyCopy_length (o : List S54) (x : S54) : (tidyCopy o x).length ≤ o.length + 1 := by
  unfold tidyCopy
  split <;> simp
theorem tidyF_length (l : List S54) : (tidyF l).1.size + (tidyF l).2.length ≤ textSum l + l.length := by
  have key : ∀ (l : List S54) (st : ByteArray × List S54), (l.foldl tidyS st).1.size + (l.foldl tidyS st).2.length ≤ textSum l + l.length + st.1.size + st.2.length := by
    intro l
    induction l with
    | nil => intro st; simp [textSum]
    | cons x l ih =>
      intro st
      rw [List.foldl_cons]
      refine Nat.le_trans (ih _) ?_
      have h1 : (tidyS st x).1.size + (tidyS st x).2.length ≤ x.f2.size + 1 + st.1.size + st.2.length := by
        unfold tidyS
        split
        · simp only [ByteArray.size_append]; omega
        · split
          · omega
          · have := tidyCopy_length (st.2 ++ flushN st.1.size st.1) x
            have h3 := flushN_length st.1.size st.1
            simp only [List.length_append] at this
            show 0 + (tidyCopy (st.2 ++ flushN st.1.size st.1) x).length ≤ _
            omega
      simp only [textSum, List.map_cons, List.foldr_cons, List.length_cons] at *
      omega
  have := key l (⟨#[]⟩, [])
  have h0 : (⟨#[]⟩ : ByteArray).size = 0 := rfl
  simp only [h0, List.length_nil, Nat.add_zero] at this
  exact this
theorem textSum_take (l : List S54) (k : Nat) : textSum (l.take k) ≤ textSum l := by
  induction l generalizing k with
  | nil => simp [textSum]
  | cons x l ih =>
    cases k with
    | zero => simp [textSum]
    | succ k => have := ih k; simp only [textSum, List.take_succ_cons, List.map_cons, List.foldr_cons] at *; omega
theorem text_le (l : List S54) (k : Nat) : (rd_T54 l (k : Int)).f2.size ≤ textSum l := by
  unfold rd_T54
  rw [Int.toNat_natCast]
  induction l generalizing k with
  | nil => show (0 : Nat) ≤ _; omega
  | cons x l ih =>
    cases k with
    | zero => simp only [textSum, List.map_cons, List.foldr_cons, List.getD_cons_zero]; omega
    | succ k => have := ih k; simp only [textSum, List.map_cons, List.foldr_cons, List.getD_cons_succ] at *; omega
theorem tidyF_succ (l : List S54) (k : Nat) (h : k < l.length) : tidyF (l.take (k + 1)) = tidyS (tidyF (l.take k)) (rd_T54 l k) := by
  unfold tidyF rd_T54
  rw [List.take_add_one, List.foldl_append, Int.toNat_natCast, List.getD_eq_getElem?_getD, List.getElem?_eq_getElem h]
  rfl

theorem FR.self {bh bo base : Nat} {ok : Nat → Prop} {v : Value} {w wr : World} {t : ByteArray} {v' : Value} {ys : List S54} (h : FR bh bo base ok v w wr t v' ys) : FR bh bo base ok v' wr wr t v' ys := ⟨h.hh, h.ho, h.R, Kept.refl _ _, Below.refl _ _, .inl rfl⟩

end Go.Proofs.Ytjgelmfkoefclaa.PAll

-- from YtjgelmfkoefclaaGivTidy
namespace Go.Proofs.Ytjgelmfkoefclaa.PAll
open Go.RowKit Go.Proofs.YtjgelmfkoefclaaW.PrintWords Go.Proofs.YtjgelmfkoefclaaW.PrintLast Go.Proofs.YtjgelmfkoefclaaW.PrintMore
set_option linter.unusedVariables false
set_option linter.unusedSimpArgs false
attribute [local go_sem] max2_int min2_int max_two min_two

theorem below_undrew {B : Nat} {w w1 : World} (h : Below B w w1) (n : Nat) : Below B (w.drewN n) w1 := ⟨h.os, h.tape, h.output, h.size, h.block⟩

theorem FR.merge {bh bo base : Nat} {ok : Nat → Prop} {v : Value} {w wr : World} {t : ByteArray} {g n cap : Nat} {ys : List S54} (h : FR bh bo base ok v w wr t (.slice (some ⟨g, 0, none⟩) n cap) ys) (hok : ∀ k, ok k → k ≠ bh ∧ k ≠ bo) (j : Nat) (hj : j < n) (m : Int) :
    FR bh bo base ok v w (wr.setCell ⟨g, j * 3 + 1, none⟩ (.int .i64 m)) t (.slice (some ⟨g, 0, none⟩) n cap) (ys.set j ⟨(rd_T54 ys (j : Int)).f0, m, (rd_T54 ys (j : Int)).f2⟩) := by
  have hown : (Value.slice (some ⟨g, 0, none⟩) n cap).ownBlock = some g := rfl
  have a1 := hok g (h.R.1 g hown)
  obtain ⟨c, hcl, hM, hcc, hfr⟩ := Kd.R_elem h.R z54 (j : Int) (by omega) (by omega)
  obtain rfl := k54_openM hM
  have HP := Kd.R_seg h.R (j : Int) (by omega) (by omega) (seg := [.int .i64 m]) (j := 1) hcl hcc (show 2 ≤ 3 from by decide) (x' := (⟨(rd_T54 ys (j : Int)).f0, m, (rd_T54 ys (j : Int)).f2⟩ : S54)) (k54_mkM _ _ _ (⟨(rd_T54 ys (j : Int)).f0, m, (rd_T54 ys (j : Int)).f2⟩ : S54)) (fun _ hk => hk)
  refine ⟨blk_far h.hh (Ne.symm a1.1) _, blk_far h.ho (Ne.symm a1.2) _, HP.1, ?_, h.bl.setCell (p := ⟨g, j * 3 + 1, none⟩) (Kd.R_base h.R g hown) _, h.ow⟩
  refine h.kp.setCell ?_ _
  rcases h.ow with e | ⟨b, e, hb⟩
  · exact .inl (.inr (.inr (hown.symm.trans e)))
  · rw [hown] at e; injection e with e; subst e; exact .inr hb
theorem empty_of_size (t : ByteArray) (h : t.size = 0) : t = ⟨#[]⟩ := by
  obtain ⟨d⟩ := t
  have : d.size = 0 := h
  rw [Array.eq_empty_of_size_eq_zero this]

set_option maxHeartbeats 2000000 in
set_option maxRecDepth 100000 in
theorem tidy_calls (A0 : Option Addr) (c0 : Nat) (l : List S54) (w : World) (hr0 : Kd.C k54 w A0 l.length l) (hc0 : l.length ≤ c0) (hok : TidyOk l) :
    Calls Try.prog 17 #[.slice A0 l.length c0] w fun e w' => ∃ v : Value, e = .returned v ∧ Kd.R k54 54 w' w.heap.size (fun _ => True) v (tidyV l) ∧ Below w.heap.size w w' := by
  have HR0 := Aside0.mk hr0
  have HC0 := Aside0.mk hc0
  have HOK := Aside0.mk hok
  have hln : l.length ≤ 1000000 := hok.1
  clear hr0 hc0 hok
  go_enter Try.func17, Try.ntmps17
  go_wp2_with fail
  go_loopw [12] (fun v12 wr => ∃ (k : Nat) (v' : Value), k ≤ l.length ∧ v12 = .int .i64 k ∧ Aside0 (FR (w.heap.size + 1) w.heap.size w.heap.size (fun b => w.heap.size + 2 ≤ b) v' wr wr (tidyF (l.take k)).1 v' (tidyF (l.take k)).2) ∧ Aside0 (Below w.heap.size w wr)) (fun v12 _ => l.length - (intOf v12).toNat)
  case atStart =>
    refine ⟨0, .slice none 0 0, Nat.zero_le _, rfl, ⟨⟨?_, ?_, ?_, Kept.refl _ _, Below.refl _ _, .inl rfl⟩⟩, ⟨below_alloc (below_alloc (Below.refl _ _) _) _⟩⟩
    · have := blk_new (w.alloc (Obj.cells #[Value.slice none 0 0] 22 (0, 0))) (Obj.cells #[Value.string { data := #[] }] 9 (0, 0))
      rw [show (w.alloc (Obj.cells #[Value.slice none 0 0] 22 (0, 0))).heap.size = w.heap.size + 1 from by simp] at this
      exact this
    · exact blk_alloc (blk_new w _) _
    · exact Kd.R_nil _ _ _ _ _
  case round =>
    obtain ⟨k, v', hk, rfl, HF, HB⟩ := hrel
    by_cases hlt : k < l.length
    · have hb1 : decide (k < l.length) = true := decide_eq_true hlt
      obtain ⟨ad, rfl, g0, g1, g2⟩ := at_T54 (Kd.C_below HR0.out HB.out) (k : Int) (by omega) (by omega)
      have HT := Aside0.mk (tidyF_succ l k hlt)
      obtain ⟨x, hx⟩ : ∃ x, x = rd_T54 l (k : Int) := ⟨_, rfl⟩
      rw [← hx] at g0 g1 g2 HT
      rw [Int.toNat_natCast] at g0 g1 g2
      obtain ⟨p, q, t⟩ := x
      have HX := Aside0.mk hx
      clear hx
      obtain ⟨st, hst⟩ : ∃ st, st = tidyF (l.take k) := ⟨_, rfl⟩
      rw [← hst] at HT HF
      have HLEN := Aside0.mk (tidyF_length (l.take k))
      rw [← hst] at HLEN
      have HST := Aside0.mk hst
      clear hst
      obtain ⟨held, out⟩ := st
      have htl : t.toList.length = t.size := by rw [ByteArray.toList_eq]; exact data_length t
      have hB2 : w.heap.size + 2 ≤ wr.heap.size := by have := blk_lt HF.out.hh; omega
      have HTL := Aside0.mk (text_le l k)
      rw [← HX.out] at HTL
      have HTS := Aside0.mk (textSum_take l k)
      by_cases hz : t.size = 0
      · have hem : t.toList.isEmpty = true := by rw [List.isEmpty_iff, ← List.length_eq_zero_iff, htl]; exact hz
        by_cases hq : q ≤ 0
        · have hqb : decide (q ≤ 0) = true := decide_eq_true hq
          go_wp2_with fail
          go_roundw
          case rel =>
            refine ⟨k + 1, v', by omega, by go_num, ⟨?_⟩, ⟨below_alloc HB.out _⟩⟩
            have e : tidyF (List.take (k + 1) l) = (held, out) := by rw [HT.out]; unfold tidyS; rw [if_neg (by simpa using hz), if_pos hq]
            rw [e]
            exact HF.out.alloc _
          case measure => simp [intOf]; omega
        · have hqb : decide (q ≤ 0) = false := decide_eq_false hq
          have HFA := Aside0.mk (HF.out.alloc (.cells #[.int .i64 p, .int .i64 q, .string t] 54 (0, 0))).self
          have HSL : Aside0 (held.size ≤ 1000000000 ∧ out.length ≤ 1000000000 ∧ held.size + out.length ≤ 501000000) := ⟨by have := HLEN.out; have := HTS.out; have h2 := HOK.out; unfold TidyOk at h2; rw [List.length_take] at *; simp only at *; omega⟩
          go_wp2_with (go_at_call 32; go_loud (refine (flush_calls (w.heap.size + 1) w.heap.size w.heap.size (fun b => w.heap.size + 2 ≤ b) v' out held _ HFA.out (by simp only [World.size_alloc]; omega) (by omega) (by omega) (by omega) (fun k hk => by omega) (fun k hk => by simp only [World.size_alloc] at hk; omega) HSL.out.1 HSL.out.2.1).mono ?_; rintro _ wa ⟨rfl, v2, t2, ht2, hf2⟩; have HF2 := Aside0.mk hf2; clear hf2; have hol : (out ++ flushN held.size held).length ≤ 501000000 := (by have := flushN_length held.size held; have := HSL.out.2.2; simp only [List.length_append]; omega); obtain ⟨o, hoe⟩ : ∃ o, o = out ++ flushN held.size held := ⟨_, rfl⟩; rw [← hoe] at HF2 hol; have HOE := Aside0.mk hoe; clear hoe; have hbo2 : wa.cell? ⟨w.heap.size, 0, none⟩ = some v2 := (blk_cell HF2.out.ho 0).trans rfl; have hbxn : some wr.heap.size ≠ v'.ownBlock := (fun e => absurd (Kd.R_lt HF.out.R _ e.symm) (Nat.lt_irrefl _)); have HBX : Aside0 (wa.heap[wr.heap.size]? = some (.cells #[.int .i64 p, .int .i64 q, .string t] 54 (0, 0))) := ⟨(HF2.out.kp.2 wr.heap.size (by simp only [World.size_alloc]; omega) (by rintro (h | h | h); omega; omega; exact hbxn h)).trans (blk_new _ _)⟩; have hx0 : wa.cell? ⟨wr.heap.size, 0, none⟩ = some (.int .i64 p) := (blk_cell HBX.out 0).trans rfl; have hx1 : wa.cell? ⟨wr.heap.size, 1, none⟩ = some (.int .i64 q) := (blk_cell HBX.out 1).trans rfl; have hx2 : wa.cell? ⟨wr.heap.size, 2, none⟩ = some (.string t) := (blk_cell HBX.out 2).trans rfl; obtain ⟨A2, c2, rfl⟩ := Kd.R_slice HF2.out.R; have hw1 : wrap64 ((o.length : Int) - 1) = (o.length : Int) - 1 := (by unfold wrap64; omega); have HBA := Aside0.mk ((below_alloc HB.out (.cells #[.int .i64 p, .int .i64 q, .string t] 54 (0, 0))).trans HF2.out.bl)))
          have htp : tidyF (List.take (k + 1) l) = (⟨#[]⟩, tidyCopy o ⟨p, q, t⟩) := by rw [HT.out]; unfold tidyS; rw [if_neg (by simpa using hz), if_neg (show ¬ q ≤ 0 by omega), HOE.out]
          have HTP := Aside0.mk htp
          clear htp HT
          obtain rfl := empty_of_size t2 ht2
          have HSA : Aside0 (w.heap.size + 2 ≤ wa.heap.size) := ⟨by have := blk_lt HF2.out.hh; omega⟩
          have HSB : Aside0 (w.heap.size ≤ wa.heap.size) := ⟨by have := HSA.out; omega⟩
          by_cases hn : o.length = 0
          · have hn1 : decide (1 ≤ (o.length : Int)) = false := decide_eq_false (by omega)
            have HN := Aside0.mk hn
            clear hn
            go_quiet (fail)
            go_wp2_with ((with_reducible refine gate_builtin (b := .append) (xs := #[.tmp 67, .tmp 73]) rfl ?_); at_builtin; go_loud (refine Kd.R_append k54 (w0 := wa) w.heap.size rfl (.tmp 67) (.tmp 73) 22 54 (.agg #[(.int .i64 0), (.int .i64 0), (.string ⟨#[]⟩)]) 32 rfl Try.underlying22 info54 rfl (by decide) (by omega) (.slice A2 o.length c2) o (⟨p, q, ⟨#[]⟩⟩ : S54) [.int .i64 p, .int .i64 q, .string ⟨#[]⟩] (fun b => w.heap.size + 2 ≤ b) (fun _ => False) rfl ?aX ?aP (fun _ hk => hk.elim) ?aF ?aO ?aB ?aS ?aL ?_; (case aX => (first | rfl | (simp; done))); (case aP => exact k54_mkM _ _ _ (⟨p, q, ⟨#[]⟩⟩ : S54)); (case aF => exact (fun k_ hk => Nat.le_trans HSA.out (by first | exact hk | simpa using hk))); (case aO => exact (by (with_reducible repeat (first | apply Kd.R_alloc | apply Kd.R_drewN | apply Kd.R_drew)); exact HF2.out.R)); (case aB => exact (by repeat (first | (with_reducible first | exact Below.refl _ _ | apply pw_below_drewN | apply below_drew1) | exact Below.refl _ _))); (case aS => exact HSB.out); (case aL => omega); intro v1 w1 hR1 hB1 hG1 hO1; have hgr := (HF2.out.drewN _).grown (fun k_ hk => by omega) hG1; have hc1 : w1.cell? ⟨w.heap.size, 0, none⟩ = some (.slice A2 o.length c2) := (blk_cell hgr.2 0).trans rfl; have hf1 : w1.frozen? ⟨w.heap.size, 0, none⟩ = false := blk_frozen hgr.2 0; clear hgr; obtain ⟨A1, c1, hv1⟩ := Kd.R_slice hR1; rw [List.length_append, List.length_singleton] at hv1; subst hv1; have HF3 := Aside0.mk (FR.out (HF2.out.drewN _) (fun k_ hk => by omega) (by omega) (Nat.le_refl _) hR1 (below_undrew hB1 _) hG1 hO1); clear hR1 hB1 hG1 hO1))
            go_roundw
            case rel =>
              have htc : tidyCopy o ⟨p, q, t⟩ = o ++ [⟨p, q, ⟨#[]⟩⟩] := by unfold tidyCopy; rw [if_neg (by rintro ⟨h, _⟩; exact h HN.out)]
              refine ⟨k + 1, .slice A1 (o.length + 1) c1, by omega, by go_num, ⟨?_⟩, ⟨?_⟩⟩
              · rw [HTP.out, htc]
                exact (by first | exact HF3.out.self | exact (HF3.out.drewN _).self)
              · exact (below_alloc HB.out _).trans (by first | exact HF3.out.bl | exact (HF3.out.drewN _).bl)
            case measure => simp [intOf]; omega
          · obtain ⟨jn, hjn⟩ : ∃ jn, o.length = jn + 1 := ⟨o.length - 1, by omega⟩
            have hji : (o.length : Int) - 1 = (jn : Int) := by omega
            have hjl : jn < o.length := by omega
            have hjb : decide (jn < o.length) = true := decide_eq_true (by omega)
            rw [hji]
            obtain ⟨g, cap, hv2, hgb, hgl, hgt⟩ := Kd.R_form HF2.out.R (by omega)
            obtain ⟨rfl, rfl⟩ : A2 = some ⟨g, 0, none⟩ ∧ c2 = cap := by injection hv2 with e1 _ e2; exact ⟨e1, e2⟩
            obtain ⟨cy, hcl, hM, hcc, hfr⟩ := Kd.R_elem HF2.out.R z54 (jn : Int) (by omega) (by omega)
            obtain rfl := k54_openM hM
            obtain ⟨y, hy⟩ : ∃ y, y = rd_T54 o (jn : Int) := ⟨_, rfl⟩
            have y0' : wa.cell? ⟨g, jn * 3, none⟩ = some (.int .i64 y.f0) := by rw [hy]; exact hcc 0 _ rfl
            have y1' : wa.cell? ⟨g, jn * 3 + 1, none⟩ = some (.int .i64 y.f1) := by rw [hy]; exact hcc 1 _ rfl
            have y2' : wa.cell? ⟨g, jn * 3 + 2, none⟩ = some (.string y.f2) := by rw [hy]; exact hcc 2 _ rfl
            clear hcl hM hcc hfr
            have HJN := Aside0.mk hjn
            clear hjn hji hn
            have HY := Aside0.mk hy
            clear hy hv2
            have hyl : y.f2.toList.length = y.f2.size := by rw [ByteArray.toList_eq]; exact data_length y.f2
            have hgf : ∀ i, wa.frozen? ⟨g, i, none⟩ = false := fun i => by obtain ⟨cells, hc⟩ := hgt; exact blk_frozen hc i
            have hgf1 := hgf (jn * 3 + 1)
            by_cases hy2 : y.f2.size = 0
            · have hye : y.f2.toList.isEmpty = true := by rw [List.isEmpty_iff, ← List.length_eq_zero_iff, hyl]; exact hy2
              by_cases hyp : wrap64 (y.f0 + y.f1) = p
              · have hpb : (wrap64 (y.f0 + y.f1) == p) = true := beq_iff_eq.mpr hyp
                have htc : tidyCopy o ⟨p, q, t⟩ = o.set jn ⟨y.f0, wrap64 (y.f1 + q), y.f2⟩ := by
                  have hjo : o.length - 1 = jn := by have := HJN.out; omega
                  unfold tidyCopy
                  rw [hjo, ← HY.out, if_pos ⟨by have := HJN.out; omega, hy2, hyp⟩]
                have HTC := Aside0.mk htc
                clear htc
                go_quiet (fail)
                go_wp2_with fail
                go_region
                go_wp2_with fail
                go_roundw
                case rel =>
                  refine ⟨k + 1, .slice (some ⟨g, 0, none⟩) o.length c2, by omega, by go_num, ⟨?_⟩, ⟨?_⟩⟩
                  · rw [HTP.out, HTC.out]
                    have := FR.merge HF2.out (fun k_ hk => by omega) jn hjl (wrap64 (y.f1 + q))
                    rw [← HY.out] at this
                    exact (by first | exact this.self | exact (this.drewN _).self)
                  · have := FR.merge HF2.out (fun k_ hk => by omega) jn hjl (wrap64 (y.f1 + q))
                    exact (below_alloc HB.out _).trans (by first | exact this.bl | exact (this.drewN _).bl)
                case measure => simp [intOf]; omega
              · have hpb : (wrap64 (y.f0 + y.f1) == p) = false := beq_eq_false_iff_ne.mpr hyp
                go_quiet (fail)
                go_wp2_with ((with_reducible refine gate_builtin (b := .append) (xs := #[.tmp 67, .tmp 73]) rfl ?_); at_builtin; go_loud (refine Kd.R_append k54 (w0 := wa) w.heap.size rfl (.tmp 67) (.tmp 73) 22 54 (.agg #[(.int .i64 0), (.int .i64 0), (.string ⟨#[]⟩)]) 32 rfl Try.underlying22 info54 rfl (by decide) (by omega) (.slice (some ⟨g, 0, none⟩) o.length c2) o (⟨p, q, ⟨#[]⟩⟩ : S54) [.int .i64 p, .int .i64 q, .string ⟨#[]⟩] (fun b => w.heap.size + 2 ≤ b) (fun _ => False) rfl ?aX ?aP (fun _ hk => hk.elim) ?aF ?aO ?aB ?aS ?aL ?_; (case aX => (first | rfl | (simp; done))); (case aP => exact k54_mkM _ _ _ (⟨p, q, ⟨#[]⟩⟩ : S54)); (case aF => exact (fun k_ hk => Nat.le_trans HSA.out (by first | exact hk | simpa using hk))); (case aO => exact (by (with_reducible repeat (first | apply Kd.R_alloc | apply Kd.R_drewN | apply Kd.R_drew)); exact HF2.out.R)); (case aB => exact (by repeat (first | (with_reducible first | exact Below.refl _ _ | apply pw_below_drewN | apply below_drew1) | exact Below.refl _ _))); (case aS => exact HSB.out); (case aL => omega); intro v1 w1 hR1 hB1 hG1 hO1; have hgr := (HF2.out.drewN _).grown (fun k_ hk => by omega) hG1; have hc1 : w1.cell? ⟨w.heap.size, 0, none⟩ = some (.slice (some ⟨g, 0, none⟩) o.length c2) := (blk_cell hgr.2 0).trans rfl; have hf1 : w1.frozen? ⟨w.heap.size, 0, none⟩ = false := blk_frozen hgr.2 0; clear hgr; obtain ⟨A1, c1, hv1⟩ := Kd.R_slice hR1; rw [List.length_append, List.length_singleton] at hv1; subst hv1; have HF3 := Aside0.mk (FR.out (HF2.out.drewN _) (fun k_ hk => by omega) (by omega) (Nat.le_refl _) hR1 (below_undrew hB1 _) hG1 hO1); clear hR1 hB1 hG1 hO1))
                go_roundw
                case rel =>
                  have htc : tidyCopy o ⟨p, q, t⟩ = o ++ [⟨p, q, ⟨#[]⟩⟩] := by unfold tidyCopy; rw [if_neg (by rintro ⟨_, _, h⟩; rw [show o.length - 1 = jn from (by have := HJN.out; omega), ← HY.out] at h; exact hyp h)]
                  refine ⟨k + 1, .slice A1 (o.length + 1) c1, by omega, by go_num, ⟨?_⟩, ⟨?_⟩⟩
                  · rw [HTP.out, htc]
                    exact (by first | exact HF3.out.self | exact (HF3.out.drewN _).self)
                  · exact (below_alloc HB.out _).trans (by first | exact HF3.out.bl | exact (HF3.out.drewN _).bl)
                case measure => simp [intOf]; omega
            · have hye : y.f2.toList.isEmpty = false := by rw [Bool.eq_false_iff, Ne, List.isEmpty_iff, ← List.length_eq_zero_iff, hyl]; exact hy2
              go_quiet (fail)
              go_wp2_with ((with_reducible refine gate_builtin (b := .append) (xs := #[.tmp 67, .tmp 73]) rfl ?_); at_builtin; go_loud (refine Kd.R_append k54 (w0 := wa) w.heap.size rfl (.tmp 67) (.tmp 73) 22 54 (.agg #[(.int .i64 0), (.int .i64 0), (.string ⟨#[]⟩)]) 32 rfl Try.underlying22 info54 rfl (by decide) (by omega) (.slice (some ⟨g, 0, none⟩) o.length c2) o (⟨p, q, ⟨#[]⟩⟩ : S54) [.int .i64 p, .int .i64 q, .string ⟨#[]⟩] (fun b => w.heap.size + 2 ≤ b) (fun _ => False) rfl ?aX ?aP (fun _ hk => hk.elim) ?aF ?aO ?aB ?aS ?aL ?_; (case aX => (first | rfl | (simp; done))); (case aP => exact k54_mkM _ _ _ (⟨p, q, ⟨#[]⟩⟩ : S54)); (case aF => exact (fun k_ hk => Nat.le_trans HSA.out (by first | exact hk | simpa using hk))); (case aO => exact (by (with_reducible repeat (first | apply Kd.R_alloc | apply Kd.R_drewN | apply Kd.R_drew)); exact HF2.out.R)); (case aB => exact (by repeat (first | (with_reducible first | exact Below.refl _ _ | apply pw_below_drewN | apply below_drew1) | exact Below.refl _ _))); (case aS => exact HSB.out); (case aL => omega); intro v1 w1 hR1 hB1 hG1 hO1; have hgr := (HF2.out.drewN _).grown (fun k_ hk => by omega) hG1; have hc1 : w1.cell? ⟨w.heap.size, 0, none⟩ = some (.slice (some ⟨g, 0, none⟩) o.length c2) := (blk_cell hgr.2 0).trans rfl; have hf1 : w1.frozen? ⟨w.heap.size, 0, none⟩ = false := blk_frozen hgr.2 0; clear hgr; obtain ⟨A1, c1, hv1⟩ := Kd.R_slice hR1; rw [List.length_append, List.length_singleton] at hv1; subst hv1; have HF3 := Aside0.mk (FR.out (HF2.out.drewN _) (fun k_ hk => by omega) (by omega) (Nat.le_refl _) hR1 (below_undrew hB1 _) hG1 hO1); clear hR1 hB1 hG1 hO1))
              go_roundw
              case rel =>
                have htc : tidyCopy o ⟨p, q, t⟩ = o ++ [⟨p, q, ⟨#[]⟩⟩] := by unfold tidyCopy; rw [if_neg (by rintro ⟨_, h, _⟩; rw [show o.length - 1 = jn from (by have := HJN.out; omega), ← HY.out] at h; exact hy2 h)]
                refine ⟨k + 1, .slice A1 (o.length + 1) c1, by omega, by go_num, ⟨?_⟩, ⟨?_⟩⟩
                · rw [HTP.out, htc]
                  exact (by first | exact HF3.out.self | exact (HF3.out.drewN _).self)
                · exact (below_alloc HB.out _).trans (by first | exact HF3.out.bl | exact (HF3.out.drewN _).bl)
              case measure => simp [intOf]; omega
      · have hem : t.toList.isEmpty = false := by rw [Bool.eq_false_iff, Ne, List.isEmpty_iff, ← List.length_eq_zero_iff, htl]; exact hz
        have hhh : (wr.alloc (.cells #[.int .i64 p, .int .i64 q, .string t] 54 (0, 0))).cell? ⟨w.heap.size + 1, 0, none⟩ = some (.string held) := (blk_cell (blk_alloc HF.out.hh _) 0).trans rfl
        have hhf : (wr.alloc (.cells #[.int .i64 p, .int .i64 q, .string t] 54 (0, 0))).frozen? ⟨w.heap.size + 1, 0, none⟩ = false := blk_frozen (blk_alloc HF.out.hh _) 0
        have hbig : ¬ (9223372036854775807 < held.size + t.size) := (by have := HLEN.out; have := HTS.out; have := HTL.out; have h2 := HOK.out; unfold TidyOk at h2; rw [List.length_take] at *; simp only at *; omega)
        go_wp2_with fail
        go_roundw
        case rel =>
          refine ⟨k + 1, v', by omega, by go_num, ⟨?_⟩, ⟨(below_alloc HB.out _).setCell (p := ⟨w.heap.size + 1, 0, none⟩) (Nat.le_succ _) _⟩⟩
          have e : tidyF (List.take (k + 1) l) = (held ++ t, out) := by rw [HT.out]; unfold tidyS; rw [if_pos hz]
          rw [e]
          exact ((HF.out.alloc _).held (fun b hb => by omega) (by omega) (by omega) _).self
        case measure => simp [intOf]; omega
    · have hke : k = l.length := by omega
      subst hke
      rw [List.take_length] at HF
      have HLEN := Aside0.mk (tidyF_length l)
      have hB2 : w.heap.size + 2 ≤ wr.heap.size := by have := blk_lt HF.out.hh; omega
      have HSL : Aside0 ((tidyF l).1.size ≤ 1000000000 ∧ (tidyF l).2.length ≤ 1000000000) := ⟨by have := HLEN.out; have h2 := HOK.out; unfold TidyOk at h2; omega⟩
      go_wp2_with (go_at_call 32; refine (flush_calls (w.heap.size + 1) w.heap.size w.heap.size (fun b => w.heap.size + 2 ≤ b) v' (tidyF l).2 (tidyF l).1 _ HF.out (by omega) (by omega) (by omega) (by omega) (fun k hk => by omega) (fun k hk => by omega) HSL.out.1 HSL.out.2).mono ?_; rintro _ wa ⟨rfl, v2, t2, ht2, hf2⟩; have HF2 := Aside0.mk hf2; clear hf2; have hbo2 : wa.cell? ⟨w.heap.size, 0, none⟩ = some v2 := (blk_cell HF2.out.ho 0).trans rfl)
      go_ret
      exact ⟨v2, rfl, Kd.R_mono HF2.out.R (fun _ _ => trivial), HB.out.trans HF2.out.bl⟩

def chain_Tidy.f (_k : Nat) (l0 : List S54) : Option (List S54) := if TidyOk l0 then some (tidyV l0) else none
theorem chain_Tidy.mono : ∀ a0 k, LeO (chain_Tidy.f k a0) (chain_Tidy.f (k + 1) a0) := fun _ _ => LeO.refl _
theorem chain_Tidy.calls (k : Nat) (A0 : Option Addr) (c0 : Nat) (l0 : List S54) (r : List S54) (w : World) (hr0 : Kd.C k54 w A0 l0.length l0) (hc0 : l0.length ≤ c0) (h : chain_Tidy.f k l0 = some r) :
    Calls Try.prog 17 #[.slice A0 l0.length c0] w fun e w' => ∃ v0_ : Value, e = .returned v0_ ∧ Kd.R k54 54 w' w.heap.size (fun _ => True) v0_ r ∧ Below w.heap.size w w' := by
  unfold chain_Tidy.f at h
  by_cases hok : TidyOk l0
  · rw [if_pos hok] at h
    obtain rfl := Option.some.inj h
    exact tidy_calls A0 c0 l0 w hr0 hc0 hok
  · rw [if_neg hok] at h
    cases h
end Go.Proofs.Ytjgelmfkoefclaa.PAll

-- from YtjgelmfkoefclaaPAllx1
-- Written by a program of this session (wip/tools/hookprint.py, over the print); Lean checks it.
namespace Go.Proofs.Ytjgelmfkoefclaa.PAll
open Go.RowKit Go.Proofs.YtjgelmfkoefclaaW.PrintWords Go.Proofs.YtjgelmfkoefclaaW.PrintLast Go.Proofs.YtjgelmfkoefclaaW.PrintMore
attribute [local go_sem] max2_int min2_int max_two min_two max_three min_three max_four min_four   -- for this text's walks alone
set_option linter.unusedVariables false
set_option linter.unusedSimpArgs false

theorem eqA54 (d : Nat) (w : World) (x0 y0 : Int) (x1 y1 : Int) (x2 y2 : ByteArray) :
    (Op.equalIn (d + 2) 54 (.agg #[.int .i64 x0, .int .i64 x1, .string x2]) (.agg #[.int .i64 y0, .int .i64 y1, .string y2])).run Try.prog w = .ok (x0 == y0 && (x1 == y1 && (x2.toList == y2.toList))) w := by
  refine eqA_of Try.underlying54 (by kernel_rfl) ?_
  refine eqf_cons (by rfl) (by go_simp; rfl) (by go_simp; rfl) (by go_simp) ?_
  refine eqf_cons (by rfl) (by go_simp; rfl) (by go_simp; rfl) (by go_simp) ?_
  exact eqf_last (by rfl) (by go_simp; rfl) (by go_simp; rfl) (by go_simp)
end Go.Proofs.Ytjgelmfkoefclaa.PAll

-- from YtjgelmfkoefclaaPAllx3
-- Written by a program of this session (wip/tools/hookprint.py, over the print); Lean checks it.
namespace Go.Proofs.Ytjgelmfkoefclaa.PAll
open Go.RowKit Go.Proofs.YtjgelmfkoefclaaW.PrintWords Go.Proofs.YtjgelmfkoefclaaW.PrintLast Go.Proofs.YtjgelmfkoefclaaW.PrintMore
attribute [local go_sem] max2_int min2_int max_two min_two max_three min_three max_four min_four   -- for this text's walks alone
set_option linter.unusedVariables false
set_option linter.unusedSimpArgs false

/- GIVEN: Derived.Test.YtjgelmfkoefclaaGivTidy
def chain_Tidy.f
theorem chain_Tidy.mono
theorem chain_Tidy.calls
-/
end Go.Proofs.Ytjgelmfkoefclaa.PAll

-- from YtjgelmfkoefclaaPAllx4
-- Written by a program of this session (wip/tools/hookprint.py, over the print); Lean checks it.
namespace Go.Proofs.Ytjgelmfkoefclaa.PAll
open Go.RowKit Go.Proofs.YtjgelmfkoefclaaW.PrintWords Go.Proofs.YtjgelmfkoefclaaW.PrintLast Go.Proofs.YtjgelmfkoefclaaW.PrintMore
attribute [local go_sem] max2_int min2_int max_two min_two max_three min_three max_four min_four   -- for this text's walks alone
set_option linter.unusedVariables false
set_option linter.unusedSimpArgs false

attribute [local go_sem high] eqA54
/-! ### barquelaw07_awake: function 11 -/
def barquelaw07_awake.f (k : Nat)  : Option (Bool) := (chain_Tidy.f k (([(⟨0, 0, (⟨#[97]⟩ : ByteArray)⟩ : S54), (⟨0, 0, (⟨#[98]⟩ : ByteArray)⟩ : S54), (⟨0, 4, (⟨#[]⟩ : ByteArray)⟩ : S54), (⟨4, 2, (⟨#[]⟩ : ByteArray)⟩ : S54)] : List (S54)))).bind fun t110 => (if (t110.length : Int) = 2 then (if 0 < (t110.length : Int) then (if ((rd_T54 t110 0).f2).toList = ([97, 98] : List UInt8) then (if 1 < (t110.length : Int) then (some (((rd_T54 t110 1).f0) == 0 && (((rd_T54 t110 1).f1) == 6 && ((((rd_T54 t110 1).f2).toList) == ([] : List UInt8))))) else (none)) else (some false)) else (none)) else (some false))
theorem barquelaw07_awake.mono : ∀ k, LeO (barquelaw07_awake.f k ) (barquelaw07_awake.f (k + 1) ) := by
  intro  k
  unfold barquelaw07_awake.f
  repeat' first
      | (with_reducible exact chain_Tidy.mono _ _)
      | (with_reducible exact LeO.refl _)
      | (with_reducible exact LeO.none _)
      | (with_reducible refine LeO.ite ?_ ?_)
      | (with_reducible refine LeO.bind ?_ (fun _ => ?_))
      | exact chain_Tidy.mono _ _
      | exact LeO.none _
      | refine LeO.ite ?_ ?_
      | refine LeO.bind ?_ (fun _ => ?_)
set_option maxHeartbeats 8000000 in
set_option maxRecDepth 100000 in
theorem barquelaw07_awake.calls (k : Nat)  (r : Bool) (w : World) (h : barquelaw07_awake.f k  = some r) :
    Calls Try.prog 11 #[] w fun e w' => e = .returned (.bool r) ∧ Below w.heap.size w w' := by
  have hu54 := Try.underlying54
  have HB := Aside0.mk (Below.refl w.heap.size w)
  have H : ((chain_Tidy.f k (([(⟨0, 0, (⟨#[97]⟩ : ByteArray)⟩ : S54), (⟨0, 0, (⟨#[98]⟩ : ByteArray)⟩ : S54), (⟨0, 4, (⟨#[]⟩ : ByteArray)⟩ : S54), (⟨4, 2, (⟨#[]⟩ : ByteArray)⟩ : S54)] : List (S54)))).bind fun t110 => (if (t110.length : Int) = 2 then (if 0 < (t110.length : Int) then (if ((rd_T54 t110 0).f2).toList = ([97, 98] : List UInt8) then (if 1 < (t110.length : Int) then (some (((rd_T54 t110 1).f0) == 0 && (((rd_T54 t110 1).f1) == 6 && ((((rd_T54 t110 1).f2).toList) == ([] : List UInt8))))) else (none)) else (some false)) else (none)) else (some false))) = some r := h
  clear h
  obtain ⟨y107, hy107⟩ : ∃ y_ : List (S54), y_ = (([(⟨0, 0, (⟨#[97]⟩ : ByteArray)⟩ : S54), (⟨0, 0, (⟨#[98]⟩ : ByteArray)⟩ : S54), (⟨0, 4, (⟨#[]⟩ : ByteArray)⟩ : S54), (⟨4, 2, (⟨#[]⟩ : ByteArray)⟩ : S54)] : List (S54))) := ⟨_, rfl⟩
  replace H : ((chain_Tidy.f k y107).bind fun t110 => (if (t110.length : Int) = 2 then (if 0 < (t110.length : Int) then (if ((rd_T54 t110 0).f2).toList = ([97, 98] : List UInt8) then (if 1 < (t110.length : Int) then (some (((rd_T54 t110 1).f0) == 0 && (((rd_T54 t110 1).f1) == 6 && ((((rd_T54 t110 1).f2).toList) == ([] : List UInt8))))) else (none)) else (some false)) else (none)) else (some false))) = some r := by first | (rw [hy107]; with_reducible exact H) | (have H2_ := (Option.bind_some _ _).symm.trans H; rw [hy107]; with_reducible exact H2_) | (have H2_ := (Option.bind_some _ _).symm.trans H; with_reducible exact H2_) | with_reducible exact H | (rw [hy107]; exact H) | exact H
  have Ny107 := Aside0.mk hy107
  clear hy107
  replace H := Option.bind_eq_some_iff.mp H
  obtain ⟨t110, A10, H⟩ := H
  replace H : (if (t110.length : Int) = 2 then (if 0 < (t110.length : Int) then (if ((rd_T54 t110 0).f2).toList = ([97, 98] : List UInt8) then (if 1 < (t110.length : Int) then (some (((rd_T54 t110 1).f0) == 0 && (((rd_T54 t110 1).f1) == 6 && ((((rd_T54 t110 1).f2).toList) == ([] : List UInt8))))) else (none)) else (some false)) else (none)) else (some false)) = some r := H
  have A1 := Aside0.mk A10
  clear A10
  by_cases c2 : (t110.length : Int) = 2
  · rw [if_pos c2] at H
    have c2b0 : ((t110.length : Int) == 2) = true := beq_iff_eq.mpr c2
    have c2b1 : ((t110.length : Int) != 2) = false := bne_eq_false_iff_eq.mpr c2
    clear c2
    by_cases c3 : 0 < (t110.length : Int)
    · rw [if_pos c3] at H
      have c3b0 : decide (0 < (t110.length : Int)) = true := decide_eq_true c3
      have c3b1 : decide (0 < t110.length) = true := decide_eq_true (by omega)
      clear c3
      by_cases c4 : ((rd_T54 t110 0).f2).toList = ([97, 98] : List UInt8)
      · rw [if_pos c4] at H
        have c4b0 : (((rd_T54 t110 0).f2).toList == ([97, 98] : List UInt8)) = true := beq_iff_eq.mpr c4
        have c4b1 : (((rd_T54 t110 0).f2).toList != ([97, 98] : List UInt8)) = false := bne_eq_false_iff_eq.mpr c4
        clear c4
        by_cases c5 : 1 < (t110.length : Int)
        · rw [if_pos c5] at H
          have c5b0 : decide (1 < (t110.length : Int)) = true := decide_eq_true c5
          have c5b1 : decide (1 < t110.length) = true := decide_eq_true (by omega)
          clear c5
          obtain rfl := Option.some.inj H
          go_enter Try.func11, Try.ntmps11
          go_wp2_with (first | ((with_reducible refine gate_dst (N := 6) rfl ?_); refine Kd.R_lit k54 _ 54 ?hg (N := 6) ?hd (xs := ([(⟨0, 0, (⟨#[97]⟩ : ByteArray)⟩ : S54), (⟨0, 0, (⟨#[98]⟩ : ByteArray)⟩ : S54), (⟨0, 4, (⟨#[]⟩ : ByteArray)⟩ : S54), (⟨4, 2, (⟨#[]⟩ : ByteArray)⟩ : S54)] : List (S54))) (inner := [.int .i64 0, .int .i64 0, .string (⟨#[97]⟩ : ByteArray), .int .i64 0, .int .i64 0, .string (⟨#[98]⟩ : ByteArray), .int .i64 0, .int .i64 4, .string (⟨#[]⟩ : ByteArray), .int .i64 4, .int .i64 2, .string (⟨#[]⟩ : ByteArray)]) (ok := fun _ => True) (okp := fun _ => True) ?hr ?hp (fun _ hk => hk) trivial (Below.refl _ _) (Nat.le_refl _) (by simp) ?_; (case hd => rfl); (case hg => rfl); (case hr => first | (go_simp; done) | (go_simp; rfl)); (case hp => exact (Reps.c3 (show Kd.M k54 _ _ _ (⟨0, 0, (⟨#[97]⟩ : ByteArray)⟩ : S54) [.int .i64 0, .int .i64 0, .string (⟨#[97]⟩ : ByteArray)] from (k54_mkM _ _ _ (⟨0, 0, (⟨#[97]⟩ : ByteArray)⟩ : S54) )) (Reps.c3 (show Kd.M k54 _ _ _ (⟨0, 0, (⟨#[98]⟩ : ByteArray)⟩ : S54) [.int .i64 0, .int .i64 0, .string (⟨#[98]⟩ : ByteArray)] from (k54_mkM _ _ _ (⟨0, 0, (⟨#[98]⟩ : ByteArray)⟩ : S54) )) (Reps.c3 (show Kd.M k54 _ _ _ (⟨0, 4, (⟨#[]⟩ : ByteArray)⟩ : S54) [.int .i64 0, .int .i64 4, .string (⟨#[]⟩ : ByteArray)] from (k54_mkM _ _ _ (⟨0, 4, (⟨#[]⟩ : ByteArray)⟩ : S54) )) (Reps.c3 (show Kd.M k54 _ _ _ (⟨4, 2, (⟨#[]⟩ : ByteArray)⟩ : S54) [.int .i64 4, .int .i64 2, .string (⟨#[]⟩ : ByteArray)] from (k54_mkM _ _ _ (⟨4, 2, (⟨#[]⟩ : ByteArray)⟩ : S54) )) (Reps.none _ _)))))); intro v108 w6 ho7 hb hg_ hnew_; clear hg_ hnew_; (first | rw [← Ny107.out] at ho7 | (simp only [Int.reduceToNat] at ho7; rw [← Ny107.out] at ho7)); have n0_ := Aside0.mk (Kd.R_lower ho7 (below_size (by repeat (first | (with_reducible first | exact HB.out | apply below_alloc | apply pw_below_drewN | apply below_drew1) | exact HB.out)))); have n1_ := Aside0.mk (below_step (by repeat (first | (with_reducible first | exact HB.out | apply below_alloc | apply pw_below_drewN | apply below_drew1) | exact HB.out)) hb); clear HB; have HO109 := n0_; have HB := n1_; clear n0_ n1_; clear hb ho7; obtain ⟨Ao8, co8, eo8⟩ := Kd.R_slice HO109.out; subst eo8) | ((with_reducible refine gate_callee (f := 17) rfl ?_); refine goesL_ (some 7) rfl rfl Try.func17 (by kernel_rfl) rfl #[.slice Ao8 y107.length co8] rfl (by (try simp only [List.map_toArray, List.map_cons, List.map_nil]); first | done | rfl | (simp only [List.length_drop, List.length_take]; rfl)) ?_; (with_reducible refine (chain_Tidy.calls k _ _ y107 t110 _ ?side1 ?side2 A1.out).mono ?_); (case side1 => repeat (first | exact (Kd.R_reads' HO109.out).2.2 | (with_reducible refine Kd.C_alloc ?_ _) | (with_reducible refine Kd.C_drewN ?_ _) | (with_reducible refine Kd.C_drew ?_))); (case side2 => exact (Kd.R_reads' HO109.out).2.1); rintro e w9 ⟨v111, rfl, ho0, hb⟩; refine ⟨_, rfl, ?_⟩; have n0_ := Aside0.mk (Kd.R_elder' (by (with_reducible repeat (first | apply Kd.R_alloc | apply Kd.R_drewN | apply Kd.R_drew)); exact HO109.out) (Kd.R_base ho0) hb); have n1_ := Aside0.mk (Kd.R_lower (Kd.R_new' ho0 (Kd.R_lt (by (with_reducible repeat (first | apply Kd.R_alloc | apply Kd.R_drewN | apply Kd.R_drew)); exact HO109.out))) (below_size (by repeat (first | (with_reducible first | exact HB.out | apply below_alloc | apply pw_below_drewN | apply below_drew1) | exact HB.out)))); have n2_ := Aside0.mk (below_step (by repeat (first | (with_reducible first | exact HB.out | apply below_alloc | apply pw_below_drewN | apply below_drew1) | exact HB.out)) hb); clear HO109; clear HB; have HO109 := n0_; have HO112 := n1_; have HB := n2_; clear n0_ n1_ n2_; (try clear hb); (try clear hb2); (try clear hk); (try clear hi); (try clear ho0); obtain ⟨Ao10, co10, eo10⟩ := Kd.R_slice HO112.out; subst eo10; have p113 : 0 ≤ (0 : Int) := (by omega); have q113 : 0 < (t110.length : Int) := of_decide_eq_true (by first | (with_reducible assumption) | assumption); obtain ⟨ad113, e113, hx113_0, hx113_1, hx113_2⟩ := at_T54 (Kd.R_reads' HO112.out).2.2 0 p113 q113; cases e113; have qi113 : (0 < t110.length) = True := eq_true (by omega); (try rw [show ((0 : Int)).toNat = 0 from rfl] at hx113_0); (try rw [show 0 * 3 = 0 from rfl] at hx113_0); (try rw [Addr.add_zero'] at hx113_0); (try rw [show ((0 : Int)).toNat = 0 from rfl] at hx113_1); (try rw [show 0 * 3 = 0 from rfl] at hx113_1); (try rw [Addr.add_zero'] at hx113_1); (try rw [show ((0 : Int)).toNat = 0 from rfl] at hx113_2); (try rw [show 0 * 3 = 0 from rfl] at hx113_2); (try rw [Addr.add_zero'] at hx113_2); replace p113 := eq_true p113; replace q113 := eq_true q113; have p114 : 0 ≤ (1 : Int) := (by omega); have q114 : 1 < (t110.length : Int) := of_decide_eq_true (by first | (with_reducible assumption) | assumption); obtain ⟨ad114, e114, hx114_0, hx114_1, hx114_2⟩ := at_T54 (Kd.R_reads' HO112.out).2.2 1 p114 q114; obtain rfl : ad113 = ad114 := (by injection e114); (try simp only [show (1 : Int).toNat = 1 from rfl, Nat.reduceMul, Nat.reduceEqDiff, Go.Addr.add, ↓reduceIte] at hx114_0); (try simp only [show (1 : Int).toNat = 1 from rfl, Nat.reduceMul, Nat.reduceEqDiff, Go.Addr.add, ↓reduceIte] at hx114_1); (try simp only [show (1 : Int).toNat = 1 from rfl, Nat.reduceMul, Nat.reduceEqDiff, Go.Addr.add, ↓reduceIte] at hx114_2); have qi114 : (1 < t110.length) = True := eq_true (by omega); (try rw [show ((1 : Int)).toNat = 1 from rfl] at hx114_0); (try rw [show 1 * 3 = 3 from rfl] at hx114_0); (try rw [show ((1 : Int)).toNat = 1 from rfl] at hx114_1); (try rw [show 1 * 3 = 3 from rfl] at hx114_1); (try rw [show ((1 : Int)).toNat = 1 from rfl] at hx114_2); (try rw [show 1 * 3 = 3 from rfl] at hx114_2); replace p114 := eq_true p114; replace q114 := eq_true q114))
          go_ret
          exact ⟨by first | rfl | (simp [errW_none, errW_some] <;> rfl) | (simp [*, errW_none, errW_some] <;> rfl), by repeat (first | (with_reducible first | exact HB.out | apply below_alloc | apply pw_below_drewN | apply below_drew1) | exact HB.out)⟩
        · rw [if_neg c5] at H
          exact absurd H (by simp)
      · rw [if_neg c4] at H
        have c4b0 : (((rd_T54 t110 0).f2).toList == ([97, 98] : List UInt8)) = false := beq_eq_false_iff_ne.mpr c4
        have c4b1 : (((rd_T54 t110 0).f2).toList != ([97, 98] : List UInt8)) = true := bne_iff_ne.mpr c4
        obtain rfl := Option.some.inj H
        go_enter Try.func11, Try.ntmps11
        go_wp2_with (first | ((with_reducible refine gate_dst (N := 6) rfl ?_); refine Kd.R_lit k54 _ 54 ?hg (N := 6) ?hd (xs := ([(⟨0, 0, (⟨#[97]⟩ : ByteArray)⟩ : S54), (⟨0, 0, (⟨#[98]⟩ : ByteArray)⟩ : S54), (⟨0, 4, (⟨#[]⟩ : ByteArray)⟩ : S54), (⟨4, 2, (⟨#[]⟩ : ByteArray)⟩ : S54)] : List (S54))) (inner := [.int .i64 0, .int .i64 0, .string (⟨#[97]⟩ : ByteArray), .int .i64 0, .int .i64 0, .string (⟨#[98]⟩ : ByteArray), .int .i64 0, .int .i64 4, .string (⟨#[]⟩ : ByteArray), .int .i64 4, .int .i64 2, .string (⟨#[]⟩ : ByteArray)]) (ok := fun _ => True) (okp := fun _ => True) ?hr ?hp (fun _ hk => hk) trivial (Below.refl _ _) (Nat.le_refl _) (by simp) ?_; (case hd => rfl); (case hg => rfl); (case hr => first | (go_simp; done) | (go_simp; rfl)); (case hp => exact (Reps.c3 (show Kd.M k54 _ _ _ (⟨0, 0, (⟨#[97]⟩ : ByteArray)⟩ : S54) [.int .i64 0, .int .i64 0, .string (⟨#[97]⟩ : ByteArray)] from (k54_mkM _ _ _ (⟨0, 0, (⟨#[97]⟩ : ByteArray)⟩ : S54) )) (Reps.c3 (show Kd.M k54 _ _ _ (⟨0, 0, (⟨#[98]⟩ : ByteArray)⟩ : S54) [.int .i64 0, .int .i64 0, .string (⟨#[98]⟩ : ByteArray)] from (k54_mkM _ _ _ (⟨0, 0, (⟨#[98]⟩ : ByteArray)⟩ : S54) )) (Reps.c3 (show Kd.M k54 _ _ _ (⟨0, 4, (⟨#[]⟩ : ByteArray)⟩ : S54) [.int .i64 0, .int .i64 4, .string (⟨#[]⟩ : ByteArray)] from (k54_mkM _ _ _ (⟨0, 4, (⟨#[]⟩ : ByteArray)⟩ : S54) )) (Reps.c3 (show Kd.M k54 _ _ _ (⟨4, 2, (⟨#[]⟩ : ByteArray)⟩ : S54) [.int .i64 4, .int .i64 2, .string (⟨#[]⟩ : ByteArray)] from (k54_mkM _ _ _ (⟨4, 2, (⟨#[]⟩ : ByteArray)⟩ : S54) )) (Reps.none _ _)))))); intro v108 w11 ho12 hb hg_ hnew_; clear hg_ hnew_; (first | rw [← Ny107.out] at ho12 | (simp only [Int.reduceToNat] at ho12; rw [← Ny107.out] at ho12)); have n0_ := Aside0.mk (Kd.R_lower ho12 (below_size (by repeat (first | (with_reducible first | exact HB.out | apply below_alloc | apply pw_below_drewN | apply below_drew1) | exact HB.out)))); have n1_ := Aside0.mk (below_step (by repeat (first | (with_reducible first | exact HB.out | apply below_alloc | apply pw_below_drewN | apply below_drew1) | exact HB.out)) hb); clear HB; have HO109 := n0_; have HB := n1_; clear n0_ n1_; clear hb ho12; obtain ⟨Ao13, co13, eo13⟩ := Kd.R_slice HO109.out; subst eo13) | ((with_reducible refine gate_callee (f := 17) rfl ?_); refine goesL_ (some 7) rfl rfl Try.func17 (by kernel_rfl) rfl #[.slice Ao13 y107.length co13] rfl (by (try simp only [List.map_toArray, List.map_cons, List.map_nil]); first | done | rfl | (simp only [List.length_drop, List.length_take]; rfl)) ?_; (with_reducible refine (chain_Tidy.calls k _ _ y107 t110 _ ?side1 ?side2 A1.out).mono ?_); (case side1 => repeat (first | exact (Kd.R_reads' HO109.out).2.2 | (with_reducible refine Kd.C_alloc ?_ _) | (with_reducible refine Kd.C_drewN ?_ _) | (with_reducible refine Kd.C_drew ?_))); (case side2 => exact (Kd.R_reads' HO109.out).2.1); rintro e w14 ⟨v111, rfl, ho0, hb⟩; refine ⟨_, rfl, ?_⟩; have n0_ := Aside0.mk (Kd.R_elder' (by (with_reducible repeat (first | apply Kd.R_alloc | apply Kd.R_drewN | apply Kd.R_drew)); exact HO109.out) (Kd.R_base ho0) hb); have n1_ := Aside0.mk (Kd.R_lower (Kd.R_new' ho0 (Kd.R_lt (by (with_reducible repeat (first | apply Kd.R_alloc | apply Kd.R_drewN | apply Kd.R_drew)); exact HO109.out))) (below_size (by repeat (first | (with_reducible first | exact HB.out | apply below_alloc | apply pw_below_drewN | apply below_drew1) | exact HB.out)))); have n2_ := Aside0.mk (below_step (by repeat (first | (with_reducible first | exact HB.out | apply below_alloc | apply pw_below_drewN | apply below_drew1) | exact HB.out)) hb); clear HO109; clear HB; have HO109 := n0_; have HO112 := n1_; have HB := n2_; clear n0_ n1_ n2_; (try clear hb); (try clear hb2); (try clear hk); (try clear hi); (try clear ho0); obtain ⟨Ao15, co15, eo15⟩ := Kd.R_slice HO112.out; subst eo15; have p113 : 0 ≤ (0 : Int) := (by omega); have q113 : 0 < (t110.length : Int) := of_decide_eq_true (by first | (with_reducible assumption) | assumption); obtain ⟨ad113, e113, hx113_0, hx113_1, hx113_2⟩ := at_T54 (Kd.R_reads' HO112.out).2.2 0 p113 q113; cases e113; have qi113 : (0 < t110.length) = True := eq_true (by omega); (try rw [show ((0 : Int)).toNat = 0 from rfl] at hx113_0); (try rw [show 0 * 3 = 0 from rfl] at hx113_0); (try rw [Addr.add_zero'] at hx113_0); (try rw [show ((0 : Int)).toNat = 0 from rfl] at hx113_1); (try rw [show 0 * 3 = 0 from rfl] at hx113_1); (try rw [Addr.add_zero'] at hx113_1); (try rw [show ((0 : Int)).toNat = 0 from rfl] at hx113_2); (try rw [show 0 * 3 = 0 from rfl] at hx113_2); (try rw [Addr.add_zero'] at hx113_2); replace p113 := eq_true p113; replace q113 := eq_true q113))
        go_ret
        exact ⟨by first | rfl | (simp [errW_none, errW_some] <;> rfl) | (simp [*, errW_none, errW_some] <;> rfl), by repeat (first | (with_reducible first | exact HB.out | apply below_alloc | apply pw_below_drewN | apply below_drew1) | exact HB.out)⟩
    · rw [if_neg c3] at H
      exact absurd H (by simp)
  · rw [if_neg c2] at H
    have c2b0 : ((t110.length : Int) == 2) = false := beq_eq_false_iff_ne.mpr c2
    have c2b1 : ((t110.length : Int) != 2) = true := bne_iff_ne.mpr c2
    obtain rfl := Option.some.inj H
    go_enter Try.func11, Try.ntmps11
    go_wp2_with (first | ((with_reducible refine gate_dst (N := 6) rfl ?_); refine Kd.R_lit k54 _ 54 ?hg (N := 6) ?hd (xs := ([(⟨0, 0, (⟨#[97]⟩ : ByteArray)⟩ : S54), (⟨0, 0, (⟨#[98]⟩ : ByteArray)⟩ : S54), (⟨0, 4, (⟨#[]⟩ : ByteArray)⟩ : S54), (⟨4, 2, (⟨#[]⟩ : ByteArray)⟩ : S54)] : List (S54))) (inner := [.int .i64 0, .int .i64 0, .string (⟨#[97]⟩ : ByteArray), .int .i64 0, .int .i64 0, .string (⟨#[98]⟩ : ByteArray), .int .i64 0, .int .i64 4, .string (⟨#[]⟩ : ByteArray), .int .i64 4, .int .i64 2, .string (⟨#[]⟩ : ByteArray)]) (ok := fun _ => True) (okp := fun _ => True) ?hr ?hp (fun _ hk => hk) trivial (Below.refl _ _) (Nat.le_refl _) (by simp) ?_; (case hd => rfl); (case hg => rfl); (case hr => first | (go_simp; done) | (go_simp; rfl)); (case hp => exact (Reps.c3 (show Kd.M k54 _ _ _ (⟨0, 0, (⟨#[97]⟩ : ByteArray)⟩ : S54) [.int .i64 0, .int .i64 0, .string (⟨#[97]⟩ : ByteArray)] from (k54_mkM _ _ _ (⟨0, 0, (⟨#[97]⟩ : ByteArray)⟩ : S54) )) (Reps.c3 (show Kd.M k54 _ _ _ (⟨0, 0, (⟨#[98]⟩ : ByteArray)⟩ : S54) [.int .i64 0, .int .i64 0, .string (⟨#[98]⟩ : ByteArray)] from (k54_mkM _ _ _ (⟨0, 0, (⟨#[98]⟩ : ByteArray)⟩ : S54) )) (Reps.c3 (show Kd.M k54 _ _ _ (⟨0, 4, (⟨#[]⟩ : ByteArray)⟩ : S54) [.int .i64 0, .int .i64 4, .string (⟨#[]⟩ : ByteArray)] from (k54_mkM _ _ _ (⟨0, 4, (⟨#[]⟩ : ByteArray)⟩ : S54) )) (Reps.c3 (show Kd.M k54 _ _ _ (⟨4, 2, (⟨#[]⟩ : ByteArray)⟩ : S54) [.int .i64 4, .int .i64 2, .string (⟨#[]⟩ : ByteArray)] from (k54_mkM _ _ _ (⟨4, 2, (⟨#[]⟩ : ByteArray)⟩ : S54) )) (Reps.none _ _)))))); intro v108 w16 ho17 hb hg_ hnew_; clear hg_ hnew_; (first | rw [← Ny107.out] at ho17 | (simp only [Int.reduceToNat] at ho17; rw [← Ny107.out] at ho17)); have n0_ := Aside0.mk (Kd.R_lower ho17 (below_size (by repeat (first | (with_reducible first | exact HB.out | apply below_alloc | apply pw_below_drewN | apply below_drew1) | exact HB.out)))); have n1_ := Aside0.mk (below_step (by repeat (first | (with_reducible first | exact HB.out | apply below_alloc | apply pw_below_drewN | apply below_drew1) | exact HB.out)) hb); clear HB; have HO109 := n0_; have HB := n1_; clear n0_ n1_; clear hb ho17; obtain ⟨Ao18, co18, eo18⟩ := Kd.R_slice HO109.out; subst eo18) | ((with_reducible refine gate_callee (f := 17) rfl ?_); refine goesL_ (some 7) rfl rfl Try.func17 (by kernel_rfl) rfl #[.slice Ao18 y107.length co18] rfl (by (try simp only [List.map_toArray, List.map_cons, List.map_nil]); first | done | rfl | (simp only [List.length_drop, List.length_take]; rfl)) ?_; (with_reducible refine (chain_Tidy.calls k _ _ y107 t110 _ ?side1 ?side2 A1.out).mono ?_); (case side1 => repeat (first | exact (Kd.R_reads' HO109.out).2.2 | (with_reducible refine Kd.C_alloc ?_ _) | (with_reducible refine Kd.C_drewN ?_ _) | (with_reducible refine Kd.C_drew ?_))); (case side2 => exact (Kd.R_reads' HO109.out).2.1); rintro e w19 ⟨v111, rfl, ho0, hb⟩; refine ⟨_, rfl, ?_⟩; have n0_ := Aside0.mk (Kd.R_elder' (by (with_reducible repeat (first | apply Kd.R_alloc | apply Kd.R_drewN | apply Kd.R_drew)); exact HO109.out) (Kd.R_base ho0) hb); have n1_ := Aside0.mk (Kd.R_lower (Kd.R_new' ho0 (Kd.R_lt (by (with_reducible repeat (first | apply Kd.R_alloc | apply Kd.R_drewN | apply Kd.R_drew)); exact HO109.out))) (below_size (by repeat (first | (with_reducible first | exact HB.out | apply below_alloc | apply pw_below_drewN | apply below_drew1) | exact HB.out)))); have n2_ := Aside0.mk (below_step (by repeat (first | (with_reducible first | exact HB.out | apply below_alloc | apply pw_below_drewN | apply below_drew1) | exact HB.out)) hb); clear HO109; clear HB; have HO109 := n0_; have HO112 := n1_; have HB := n2_; clear n0_ n1_ n2_; (try clear hb); (try clear hb2); (try clear hk); (try clear hi); (try clear ho0); obtain ⟨Ao20, co20, eo20⟩ := Kd.R_slice HO112.out; subst eo20))
    go_ret
    exact ⟨by first | rfl | (simp [errW_none, errW_some] <;> rfl) | (simp [*, errW_none, errW_some] <;> rfl), by repeat (first | (with_reducible first | exact HB.out | apply below_alloc | apply pw_below_drewN | apply below_drew1) | exact HB.out)⟩

end Go.Proofs.Ytjgelmfkoefclaa.PAll

-- from YtjgelmfkoefclaaAwakeLaw
/- Chapter 7's example. -/
namespace Go.Proofs.Ytjgelmfkoefclaa.Pure
open Go.RowKit Go.Proofs.YtjgelmfkoefclaaW.PrintWords Go.Proofs.YtjgelmfkoefclaaW.PrintLast Go.Proofs.YtjgelmfkoefclaaW.PrintMore Go.Proofs.Ytjgelmfkoefclaa.PAll
set_option linter.unusedVariables false
set_option linter.unusedSimpArgs false

theorem awake_tidy : tidyV [(⟨0, 0, (⟨#[97]⟩ : ByteArray)⟩ : S54), (⟨0, 0, (⟨#[98]⟩ : ByteArray)⟩ : S54), (⟨0, 4, (⟨#[]⟩ : ByteArray)⟩ : S54), (⟨4, 2, (⟨#[]⟩ : ByteArray)⟩ : S54)] = [⟨0, 0, ⟨#[97, 98]⟩⟩, ⟨0, 6, ⟨#[]⟩⟩] := by kernel_rfl
theorem awake07 (k : Nat) : barquelaw07_awake.f k = some true := by
  unfold barquelaw07_awake.f chain_Tidy.f
  rw [if_pos ⟨by decide, Nat.le_trans (Nat.le_of_eq (show textSum _ = 2 from rfl)) (by decide)⟩, Option.bind_some, awake_tidy]
  rw [if_pos (by rfl), if_pos (by decide), if_pos (by show (⟨#[97, 98]⟩ : ByteArray).toList = [97, 98]; rw [ByteArray.toList_eq]), if_pos (by decide)]
  show some ((0 : Int) == 0 && ((6 : Int) == 6 && ((⟨#[]⟩ : ByteArray).toList == []))) = some true
  rw [ByteArray.toList_eq]
  rfl
end Go.Proofs.Ytjgelmfkoefclaa.Pure

-- from YtjgelmfkoefclaaGivRow
/- The deltas between texts, one behind the other. -/
namespace Go.Proofs.Ytjgelmfkoefclaa.PAll
open Go.RowKit Go.Proofs.YtjgelmfkoefclaaW.PrintWords Go.Proofs.YtjgelmfkoefclaaW.PrintLast Go.Proofs.YtjgelmfkoefclaaW.PrintMore Go.Proofs.Ytjgelmfkoefclaa.Pure
set_option linter.unusedVariables false
set_option linter.unusedSimpArgs false
attribute [local go_sem] max2_int min2_int max_two min_two

theorem Oe.fin {w wr : World} {b M : Nat} {l : List ByteArray} {v : Value} {st : List S54} (h : Oe w wr b M l v st) : ∃ A c, v = .slice A st.length c ∧ st.length ≤ c ∧ Kd.C k54 wr A st.length st := Kd.R_reads h.r
set_option maxHeartbeats 4000000 in
set_option maxRecDepth 100000 in
theorem row_calls (b M : Nat) (bk : List ByteArray) (q c0 : Nat) (l : List ByteArray) (bl : Nat) (w : World) (hr0 : Kd.C Kd.string w (some ⟨q, 0, none⟩) l.length l) (hc0 : l.length ≤ c0) (hB : Bk w b M bk) (hbk : bk.length ≤ 1000000) (hln : l.length ≤ 100) (hls : ∀ x ∈ l, x.size ≤ 1000) (h0 : 16 ≤ bl) (h1 : bl ≤ 1024) :
    Calls Try.prog 21 #[.pointer (some ⟨b, 0, none⟩), .slice (some ⟨q, 0, none⟩) l.length c0, .int .i64 bl] w fun e w' => ∃ (A : Option Addr) (c : Nat) (ds : List S24) (bk' : List ByteArray), e = .returned (.slice A ds.length c) ∧ ds.length ≤ c ∧ Kd.C k24 w' A ds.length ds ∧ w.grownBy w' (some M) ∧ Bk w' b M bk' ∧ Ext bk bk' ∧ bk'.length ≤ bk.length + 300000 ∧ ds.length = l.length - 1 ∧ ∀ i s t d, l[i]? = some s → l[i + 1]? = some t → ds[i]? = some d → DeltaOf bk' s t d := by
  have HR0 := Aside0.mk hr0
  have HB := Aside0.mk hB
  have HBK := Aside0.mk hbk
  have HLS := Aside0.mk hls
  have HBL : Aside0 (b < w.heap.size ∧ M < w.heap.size) := ⟨hB.ltb, hB.lt⟩
  clear hr0 hB hbk hls
  go_enter Try.func21, Try.ntmps21
  go_wp2_with fail
  go_loopw [8, 7] (fun v8 v7 wr => ∃ (k : Nat) (fs : List FD) (ds : List S24) (bk' : List ByteArray) (A : Option Addr) (c : Nat), v8 = .int .i64 ((k : Int) + 1) ∧ v7 = .slice A fs.length c ∧ (k + 1 ≤ l.length ∨ k = 0) ∧ ds.length = k ∧ Aside0 (Kd.R kF 24 wr w.heap.size (fun _ => True) (.slice A fs.length c) fs) ∧ Aside0 (Fd wr fs ds) ∧ Aside0 (w.grownBy wr (some M)) ∧ Aside0 (Bk wr b M bk') ∧ Aside0 (Ext bk bk') ∧ Aside0 (bk'.length ≤ bk.length + 3000 * k) ∧ Aside0 (∀ i s t d, l[i]? = some s → l[i + 1]? = some t → ds[i]? = some d → DeltaOf bk' s t d)) (fun v8 _ _ => l.length + 1 - (intOf v8).toNat)
  case atStart => exact ⟨0, [], [], bk, none, 0, rfl, rfl, .inr rfl, rfl, ⟨Kd.R_nil _ _ _ _ _⟩, ⟨Fd.nil _⟩, ⟨gb_refl _ _⟩, HB, ⟨Ext.refl _⟩, ⟨Nat.le_refl _⟩, ⟨fun i s t d _ _ h => by simp at h⟩⟩
  case round =>
    obtain ⟨k, fs, ds, bk', A, c, rfl, rfl, hk, hdk, HRF, HFD, HG, HBR, HX, HL, HD⟩ := hrel
    by_cases hlt : k + 1 < l.length
    · have hb1 : decide ((k : Int) + 1 < (l.length : Int)) = true := decide_eq_true (by omega)
      have hC := C_gbS HR0.out HB.out HG.out
      obtain ⟨ad, hA0, g0⟩ := Kd.at_string hC (k : Int) (by omega) (by omega)
      obtain ⟨ad', hA0', g1⟩ := Kd.at_string hC ((k : Int) + 1) (by omega) (by omega)
      injection hA0 with hA0
      injection hA0' with hA0'
      subst hA0 hA0'
      have hk1 : ((k : Int) + 1).toNat = k + 1 := by omega
      have hkm : (k : Int) + 1 - 1 = (k : Int) := by omega
      rw [Int.toNat_natCast, Addr.add_lit, Nat.zero_add] at g0
      rw [hk1, Addr.add_lit, Nat.zero_add] at g1
      have hs : l[k]? = some (rdOf ByteArray.empty l (k : Int)) := by unfold rdOf; rw [Int.toNat_natCast, List.getD_eq_getElem?_getD, List.getElem?_eq_getElem (by omega : k < l.length)]; rfl
      have ht : l[k + 1]? = some (rdOf ByteArray.empty l ((k : Int) + 1)) := by unfold rdOf; rw [hk1, List.getD_eq_getElem?_getD, List.getElem?_eq_getElem hlt]; rfl
      obtain ⟨s, hsd⟩ : ∃ s, s = rdOf ByteArray.empty l (k : Int) := ⟨_, rfl⟩
      obtain ⟨t, htd⟩ : ∃ t, t = rdOf ByteArray.empty l ((k : Int) + 1) := ⟨_, rfl⟩
      rw [← hsd] at g0 hs
      rw [← htd] at g1 ht
      have hss : s.size ≤ 1000 := HLS.out s (List.mem_of_getElem? hs)
      have hts : t.size ≤ 1000 := HLS.out t (List.mem_of_getElem? ht)
      have HS := Aside0.mk hs
      have HT := Aside0.mk ht
      have HNS : Aside0 (nB s.size bl ≤ 1000) := ⟨by have := nB_le s.size bl (by omega); omega⟩
      have HBB : Aside0 (bk'.length ≤ 1300000) := ⟨by have := HL.out; have := HBK.out; omega⟩
      have HOF := Aside0.mk (fun wx (h : Bk wx b M bk') => of_calls b M bk' s t bl wx h (by have := HNS.out; have := HBB.out; omega) (by omega) (by omega) h0 h1)
      clear hs ht hsd htd hC
      have hwr : IntKind.i64.wrap (k : Int) = (k : Int) := IntWalk.i64_in _ (by omega)
      have q0 : (0 : Int) ≤ (k : Int) := by omega
      have q1 : (k : Int) < (l.length : Int) := by omega
      have q2 : (0 : Int) ≤ (k : Int) + 1 := by omega
      have q3 : (k : Int) + 1 < (l.length : Int) := by omega
      have n0 := World.new_ne wr _ g0
      have n1 := World.new_ne wr _ g1
      go_upto_region 5 with fail
      go_cut [9, 10] (fun v9 v10 wz => ∃ (g : Nat) (A3 : Option Addr) (c3 : Nat) (st : List S54) (bk2 : List ByteArray), v9 = .pointer (some ⟨g, 0, none⟩) ∧ v10 = .int .i64 0 ∧ Aside0 (wz.heap[g]? = some (.cells #[.string (markV bk2 s), .string (markV bk2 t), .int .i64 t.size, .slice A3 st.length c3] 24 (0, 0))) ∧ Aside0 (wr.grownBy wz (some M)) ∧ Aside0 (Bk wz b M bk2) ∧ Aside0 (Ext bk' bk2) ∧ Aside0 (bk2.length ≤ bk'.length + 2500) ∧ Aside0 (s ∈ bk2 ∧ t ∈ bk2) ∧ Aside0 (st.length ≤ c3) ∧ Aside0 (CT wz A3 st.length st) ∧ Aside0 ((∀ x ∈ st, okB s.size x) ∧ runL (L8 s) st = L8 t))
      case first =>
        go_region_held3 (fun w' => w'.cell? ⟨q, k, none⟩ = some (.string s) ∧ w'.cell? ⟨q, k + 1, none⟩ = some (.string t)) (go_keep) (first | (go_at_call 25; ((with_reducible refine (HOF.out _ ?hbk).mono ?_); (case hbk => exact HBR.out.below (by repeat (first | (with_reducible first | exact Below.refl _ _ | apply pw_below_drewN | apply below_drew1 | apply below_alloc) | exact Below.refl _ _))); rintro _ wa ⟨v, st, bk2, rfl, hr, hg, hbk, hx, hl2, hm1, hm2, hok, hrun⟩; have HRA := Aside0.mk hr; have HGA := Aside0.mk hg; have HBA := Aside0.mk hbk; have HXA := Aside0.mk hx; have HLA := Aside0.mk hl2; have HMA := Aside0.mk (And.intro hm1 hm2); have HOA := Aside0.mk (And.intro hok hrun); obtain ⟨A3, c3, hv3⟩ := Kd.R_slice hr; subst hv3; have e1 := cell_gbM (cell_bw g0 (by repeat (first | (with_reducible first | exact Below.refl _ _ | apply pw_below_drewN | apply below_drew1 | apply below_alloc) | exact Below.refl _ _))) (HBR.out.below (by repeat (first | (with_reducible first | exact Below.refl _ _ | apply pw_below_drewN | apply below_drew1 | apply below_alloc) | exact Below.refl _ _))) hg; have e2 := cell_gbM (cell_bw g1 (by repeat (first | (with_reducible first | exact Below.refl _ _ | apply pw_below_drewN | apply below_drew1 | apply below_alloc) | exact Below.refl _ _))) (HBR.out.below (by repeat (first | (with_reducible first | exact Below.refl _ _ | apply pw_below_drewN | apply below_drew1 | apply below_alloc) | exact Below.refl _ _))) hg; have n2 := World.new_ne wa _ e1; have n3 := World.new_ne wa _ e2; (try (have hz := blk_gb hg (show ((wr.alloc (.cells #[.string ⟨#[]⟩, .string ⟨#[]⟩, .int .i64 0, .slice none 0 0] 24 (0, 0))).drew).heap[wr.heap.size]? = some (.cells #[.string ⟨#[]⟩, .string ⟨#[]⟩, .int .i64 0, .slice none 0 0] 24 (0, 0)) from blk_new wr _) (by have := HBR.out.lt; omega); have HZA := Aside0.mk hz; obtain ⟨y0, y1, y2, y3⟩ := blk4 hz; obtain ⟨z0, z1, z2, z3⟩ := blk4f hz; clear hz)); clear hr hg hbk hx hl2 hm1 hm2 hok hrun)))
        all_goals
          have HLA2 : Aside0 (bk2.length ≤ bk'.length + 2500) := ⟨by have := HLA.out; have := HNS.out; omega⟩
          obtain ⟨_, k1, k2⟩ := CT.of HRA.out
          have HK1 := Aside0.mk k1
          have HK2 := Aside0.mk k2
          have HGW : Aside0 (wr.grownBy wa (some M)) := ⟨gb_trans (gb_of (by repeat (first | (with_reducible first | exact Below.refl _ _ | apply pw_below_drewN | apply below_drew1 | apply below_alloc) | exact Below.refl _ _)) (some M)) HGA.out⟩
          clear k1 k2
          go_wp2_with fail
          go_meet
        case rel =>
          exact ⟨_, A3, c3, st, bk2, rfl, rfl, ⟨blk_new wa _⟩, ⟨gb_below HGW.out (below_alloc (Below.refl _ _) _)⟩, ⟨HBA.out.below (below_alloc (Below.refl _ _) _)⟩, HXA, HLA2, HMA, HK1, ⟨HK2.out.below (below_alloc (Below.refl _ _) _)⟩, HOA⟩
        case rel =>
          have hoe : Oe wr wa b M bk2 (.slice A3 st.length c3) st := ⟨HGW.out, HBA.out, ⟨HBR.out.ltb, HBR.out.lt⟩, Kd.R_lower HRA.out (by show wr.heap.size + 1 ≤ _; simp)⟩
          have hof := (((hoe.set 0 (.string (markV bk2 s))).set 1 (.string (markV bk2 t))).set 2 (.int .i64 t.size)).set 3 (.slice A3 st.length c3)
          obtain ⟨_, k1, k2⟩ := CT.of hof.r
          refine ⟨wr.heap.size, A3, c3, st, bk2, rfl, rfl, ⟨?_⟩, ⟨hof.gb⟩, ⟨hof.bk⟩, HXA, HLA2, HMA, ⟨k1⟩, ⟨k2⟩, HOA⟩
          refine blk_put (cs := #[.string (markV bk2 s), .string (markV bk2 t), .int .i64 t.size, .slice none 0 0]) ?_ 3 _ rfl
          refine blk_put (cs := #[.string (markV bk2 s), .string (markV bk2 t), .int .i64 0, .slice none 0 0]) ?_ 2 _ rfl
          refine blk_put (cs := #[.string (markV bk2 s), .string ⟨#[]⟩, .int .i64 0, .slice none 0 0]) ?_ 1 _ rfl
          exact blk_put (cs := #[.string ⟨#[]⟩, .string ⟨#[]⟩, .int .i64 0, .slice none 0 0]) HZA.out 0 _ rfl
      case rest =>
        obtain ⟨g, A3, c3, st, bk2, rfl, rfl, HZ, HGZ, HBZ, HXZ, HLZ, HMZ, HK1, HK2, HOZ⟩ := hcut
        obtain ⟨y0, y1, y2, y3⟩ := blk4 HZ.out
        have HRZ := Aside0.mk (Kd.R_grown2 HRF.out rfl HGZ.out (fun k hk e => by injection hk with hk; have := Kd.R_base HRF.out k e.symm; have := HBL.out; omega))
        have HFZ := Aside0.mk (HFD.out.gb HGZ.out (map_nostep HBR.out))
        obtain ⟨k1, hk1⟩ : ∃ k1, k1 = markV bk2 s := ⟨_, rfl⟩
        obtain ⟨k2, hk2⟩ : ∃ k2, k2 = markV bk2 t := ⟨_, rfl⟩
        have HKK := Aside0.mk (And.intro hk1 hk2)
        have HBZZ : Aside0 (w.heap.size ≤ wc.heap.size) := ⟨Nat.le_trans HG.out.size HGZ.out.size⟩
        rw [← hk1] at y0
        rw [← hk2] at y1
        clear hk1 hk2
        go_wp2_with ((with_reducible refine gate_builtin (b := .append) (xs := #[.tmp 34, .tmp 36]) rfl ?_); at_builtin; go_loud (refine Kd.R_append kF (w0 := wc) w.heap.size rfl (.tmp 34) (.tmp 36) 31 24 (.agg #[(.string ⟨#[]⟩), (.string ⟨#[]⟩), (.int .i64 0), (.slice none 0 0)]) 64 rfl Try.underlying31 info24 rfl (by decide) (by omega) (.slice A fs.length c) fs ⟨k1, k2, t.size, A3, st.length, c3⟩ [.string k1, .string k2, .int .i64 t.size, .slice A3 st.length c3] (fun _ => True) (fun _ => False) rfl ?aX rfl (fun _ hk => hk.elim) (fun _ _ => trivial) HRZ.out (Below.refl _ _) HBZZ.out ?aL ?_; (case aX => (first | rfl | (simp; done))); (case aL => have := HFZ.out.1; omega); intro v1 w1 hR1 hB1 hG1 hO1; have hns : ∀ (g : Nat) (cells : Array Value), (Value.slice A fs.length c).ownBlock = some g → wc.heap[g]? ≠ some (.cells cells 54 (0, 0)) := (fun g cells e hc => by obtain ⟨cs, h⟩ := Kd.R_typed HRZ.out g e; rw [h] at hc; injection hc with hc; injection hc with _ hc; exact absurd hc (by decide)); have HFN := Aside0.mk (Fd.snoc (f := ⟨k1, k2, t.size, A3, st.length, c3⟩) (d := ⟨k1, k2, t.size, st⟩) (HFZ.out.gb hG1 hns) ⟨rfl, rfl, rfl, rfl, HK1.out, HK2.out.gb hG1 hns⟩); have HGN := Aside0.mk (gb_own (gb_trans HG.out HGZ.out) hG1 (fun g hg => Kd.R_base HRZ.out g hg)); have HBN := Aside0.mk (HBZ.out.grown hG1 (fun e => by have := Kd.R_base HRZ.out b e.symm; have := HBL.out; omega) (fun e => by have := Kd.R_base HRZ.out M e.symm; have := HBL.out; omega)); obtain ⟨A1, c1, hv1⟩ := Kd.R_slice hR1; subst hv1; have HRN := Aside0.mk hR1; clear hR1 hB1 hG1 hO1 hns))
        go_roundw
        case rel =>
          obtain ⟨e1, e2⟩ := HKK.out
          refine ⟨k + 1, fs ++ [⟨k1, k2, t.size, A3, st.length, c3⟩], ds ++ [⟨k1, k2, t.size, st⟩], bk2, A1, c1, by go_num, by simp, .inl (by omega), by rw [List.length_append, hdk]; rfl, HRN, HFN, HGN, HBN, ⟨HX.out.trans HXZ.out⟩, ⟨by have := HL.out; have := HLZ.out; omega⟩, ⟨fun i s' t' d' h1' h2' h3' => ?_⟩⟩
          rcases Nat.lt_or_ge i ds.length with hi | hi
          · rw [List.getElem?_append_left hi] at h3'
            exact (HD.out i s' t' d' h1' h2' h3').ext HXZ.out
          · rw [List.getElem?_append_right hi] at h3'
            have hik : i = k := by
              have := (List.getElem?_eq_some_iff.1 h3').1
              simp at this
              omega
            subst hik
            rw [hdk, Nat.sub_self] at h3'
            injection h3' with h3'
            rw [HS.out] at h1'
            rw [HT.out] at h2'
            injection h1' with h1'
            injection h2' with h2'
            subst h1' h2' h3'
            exact ⟨e1, e2, HMZ.out.1, HMZ.out.2, rfl, HOZ.out.1, HOZ.out.2⟩
        case measure => simp [intOf]; omega
    · have hb1 : decide ((k : Int) + 1 < (l.length : Int)) = false := decide_eq_false (by omega)
      obtain ⟨_, k1, k2⟩ := Kd.R_reads' HRF.out
      have HK1 := Aside0.mk k1
      have HK2 := Aside0.mk (C_flat k2 HFD.out)
      have HFL := Aside0.mk HFD.out.1
      clear k1 k2
      go_wp2_with fail
      go_ret
      have e := HFL.out
      have hC := HK2.out
      have hc := HK1.out
      rw [e] at hC hc
      exact ⟨A, c, ds, (by rw [e]; rfl), hc, hC, HG.out, bk', HBR.out, HX.out, by have := HL.out; omega, by omega, HD.out⟩
end Go.Proofs.Ytjgelmfkoefclaa.PAll

-- from YtjgelmfkoefclaaFlatCut
/- A row of deltas as its own cells, and back: cuts of it laid end to end. -/
namespace Go.Proofs.Ytjgelmfkoefclaa.PAll
open Go.RowKit Go.Proofs.YtjgelmfkoefclaaW.PrintWords Go.Proofs.YtjgelmfkoefclaaW.PrintLast Go.Proofs.YtjgelmfkoefclaaW.PrintMore Go.Proofs.Ytjgelmfkoefclaa.Pure
set_option linter.unusedVariables false

theorem ex_row {α : Type} (P : Nat → α → Prop) : ∀ n, (∀ j, j < n → ∃ f, P j f) → ∃ fs : List α, fs.length = n ∧ ∀ (j : Nat) f, fs[j]? = some f → P j f
  | 0, _ => ⟨[], rfl, fun j f h => by simp at h⟩
  | n + 1, h => by
    obtain ⟨fs, e, hf⟩ := ex_row P n (fun j hj => h j (by omega))
    obtain ⟨f, hp⟩ := h n (by omega)
    refine ⟨fs ++ [f], by simp [e], fun j g hj => ?_⟩
    rcases Nat.lt_or_ge j n with h1 | h1
    · rw [List.getElem?_append_left (by omega)] at hj
      exact hf j g hj
    · rw [List.getElem?_append_right (by omega)] at hj
      have hjn : j = n := by
        have := (List.getElem?_eq_some_iff.1 hj).1
        simp at this
        omega
      subst hjn
      rw [e, Nat.sub_self] at hj
      injection hj with hj
      subst hj
      exact hp
/-- What cells stand for, read only. -/
def DC (w : World) (f : FD) (d : S24) : Prop := f.f0 = d.f0 ∧ f.f1 = d.f1 ∧ f.f2 = d.f2 ∧ f.n = d.f3.length ∧ d.f3.length ≤ f.c ∧ Kd.C k54 w f.A d.f3.length d.f3
def Fc (w : World) (fs : List FD) (ds : List S24) : Prop := fs.length = ds.length ∧ ∀ (i : Nat) f d, fs[i]? = some f → ds[i]? = some d → DC w f d
theorem Fc.below {w w' : World} {fs : List FD} {ds : List S24} (h : Fc w fs ds) (hb : Below w.heap.size w w') : Fc w' fs ds :=
  ⟨h.1, fun i f d hf hd => by
    obtain ⟨h1, h2, h3, h4, h5, h6⟩ := h.2 i f d hf hd
    exact ⟨h1, h2, h3, h4, h5, Kd.C_below h6 hb⟩⟩
theorem Fc.append {w : World} {fs gs : List FD} {ds es : List S24} (h : Fc w fs ds) (h' : Fc w gs es) : Fc w (fs ++ gs) (ds ++ es) := by
  refine ⟨by rw [List.length_append, List.length_append, h.1, h'.1], fun i f d hf hd => ?_⟩
  rcases Nat.lt_or_ge i fs.length with hi | hi
  · rw [List.getElem?_append_left hi] at hf
    rw [List.getElem?_append_left (by rw [← h.1]; exact hi)] at hd
    exact h.2 i f d hf hd
  · rw [List.getElem?_append_right hi] at hf
    rw [List.getElem?_append_right (by rw [← h.1]; exact hi), ← h.1] at hd
    exact h'.2 _ f d hf hd
theorem Fc.take {w : World} {fs : List FD} {ds : List S24} (h : Fc w fs ds) (n : Nat) : Fc w (fs.take n) (ds.take n) := by
  refine ⟨by rw [List.length_take, List.length_take, h.1], fun i f d hf hd => ?_⟩
  rw [List.getElem?_take] at hf hd
  split at hf
  · rw [if_pos (by assumption)] at hd
    exact h.2 i f d hf hd
  · cases hf
theorem Fc.drop {w : World} {fs : List FD} {ds : List S24} (h : Fc w fs ds) (n : Nat) : Fc w (fs.drop n) (ds.drop n) := by
  refine ⟨by rw [List.length_drop, List.length_drop, h.1], fun i f d hf hd => ?_⟩
  rw [List.getElem?_drop] at hf hd
  exact h.2 _ f d hf hd
theorem flat_of {w : World} {A : Option Addr} {n : Nat} {ds : List S24} (h : Kd.C k24 w A n ds) : ∃ fs, Kd.C kF w A n fs ∧ Fc w fs ds := by
  obtain ⟨h1, h2, h3⟩ := h
  rcases Nat.eq_zero_or_pos n with h0 | h0
  · subst h0
    have : ds = [] := List.eq_nil_of_length_eq_zero h1
    subst this
    exact ⟨[], ⟨rfl, Nat.zero_le _, fun hn => absurd hn (Nat.lt_irrefl 0)⟩, rfl, fun i f d hf _ => by simp at hf⟩
  · obtain ⟨ad, e, hc⟩ := h3 h0
    obtain ⟨fs, e1, hf⟩ := ex_row (fun j f => (∃ d, ds[j]? = some d ∧ DC w f d) ∧ ∀ (i : Nat) u, (FD.cells f)[i]? = some u → w.cell? (ad.add (j * 4 + i)) = some u) ds.length (fun j hj => by
      obtain ⟨c, c1, c2, c3⟩ := hc j _ (List.getElem?_eq_getElem hj)
      obtain ⟨A3, c3', rfl, k1, k2⟩ := k24_open c2
      exact ⟨⟨(ds[j]).f0, (ds[j]).f1, (ds[j]).f2, A3, (ds[j]).f3.length, c3'⟩, ⟨_, List.getElem?_eq_getElem hj, rfl, rfl, rfl, rfl, k1, k2⟩, c3⟩)
    refine ⟨fs, ⟨e1.trans h1, h2, fun _ => ⟨ad, e, fun j p hp => ⟨p.cells, rfl, rfl, (hf j p hp).2⟩⟩⟩, e1, fun i f d hfi hdi => ?_⟩
    obtain ⟨⟨d', hd', hdc⟩, _⟩ := hf i f hfi
    rw [hdi] at hd'
    injection hd' with hd'
    subst hd'
    exact hdc
theorem C_flatc {w : World} {A : Option Addr} {n : Nat} {fs : List FD} {ds : List S24} (h : Kd.C kF w A n fs) (hd : Fc w fs ds) : Kd.C k24 w A n ds := by
  obtain ⟨h1, h2, h3⟩ := h
  refine ⟨hd.1.symm.trans h1, h2, fun hn => ?_⟩
  obtain ⟨ad, e, hc⟩ := h3 hn
  refine ⟨ad, e, fun j p hp => ?_⟩
  have hj : j < ds.length := (List.getElem?_eq_some_iff.1 hp).1
  have hf : fs[j]? = some (fs[j]'(by rw [hd.1]; exact hj)) := List.getElem?_eq_getElem _
  obtain ⟨c, c1, c2, c3⟩ := hc j _ hf
  obtain ⟨d1, d2, d3, d4, d5, d6⟩ := hd.2 j _ p hf hp
  refine ⟨c, c1, ?_, c3⟩
  have c2' : c = FD.cells (fs[j]'(by rw [hd.1]; exact hj)) := c2
  rw [c2']
  unfold FD.cells
  rw [d1, d2, d3, d4]
  exact k24_mk w p d5 d6
theorem kF_MK (w w' : World) (base : Nat) (ok : Nat → Prop) : ∀ (x : FD) (cs : List Value), kF.K w x cs → kF.M w' base ok x cs := fun _ _ h => h
theorem okB_pos {n : Nat} {x : S54} (h : okB n x) : 0 < lenN x ∧ (-9223372036854775808 ≤ x.f0 ∧ x.f0 ≤ 9223372036854775807) ∧ x.f2.size ≤ maxLen := by
  obtain ⟨h1, _⟩ := h
  unfold stepOk at h1
  unfold lenN maxLen
  split at h1 <;> omega
theorem len_sum {n : Nat} : ∀ (l : List S54), (∀ x ∈ l, okB n x) → l.length ≤ sumN l
  | [], _ => Nat.le_refl _
  | x :: l, h => by
    have h1 := (okB_pos (h x (List.mem_cons_self ..))).1
    have h2 := len_sum l (fun y hy => h y (List.mem_cons_of_mem _ hy))
    rw [sumN_cons, List.length_cons]
    omega
theorem DeltaOf.good {bk : List ByteArray} {s t : ByteArray} {d : S24} (h : DeltaOf bk s t d) (ht : t.size ≤ 1000000) : GoodD d := by
  obtain ⟨h1, h2, _, _, h3, h4, h5⟩ := h
  have e := run_len (L8 s) d.f3 (by rw [L8_len]; exact h4)
  rw [h5, L8_len] at e
  have := len_sum d.f3 h4
  exact ⟨fun x hx => (okB_pos (h4 x hx)).2.1, by omega, fun x hx => (okB_pos (h4 x hx)).2.2⟩
end Go.Proofs.Ytjgelmfkoefclaa.PAll

-- from YtjgelmfkoefclaaWalkChainStops
namespace Go.Proofs.Ytjgelmfkoefclaa.chainStops
open Go.RowKit Go.Proofs.YtjgelmfkoefclaaW.PrintWords Go.Proofs.YtjgelmfkoefclaaW.PrintLast Go.Proofs.YtjgelmfkoefclaaW.PrintMore Go.Proofs.Ytjgelmfkoefclaa.PAll Go.Proofs.Ytjgelmfkoefclaa Go.Proofs.Ytjgelmfkoefclaa.Pure
set_option linter.unusedVariables false
set_option linter.unusedSimpArgs false
set_option maxHeartbeats 4000000 in
set_option maxRecDepth 100000 in
theorem walked0 (A0 : Option Addr) (c0 : Nat) (l : List ByteArray) (bl o : Int) (w : World) (hc0 : l.length ≤ c0) (hr0 : Kd.C Kd.string w A0 l.length l) (hbl : -9223372036854775808 ≤ bl ∧ bl ≤ 9223372036854775807) (ho : -9223372036854775808 ≤ o ∧ o ≤ 9223372036854775807) :
    Calls Try.prog 6 #[.slice A0 l.length c0, .int .i64 bl, .int .i64 o] w fun e w' => e = .returned (.bool true) ∧ Below w.heap.size w w' := by
  obtain ⟨r, hr, hr6, hr1⟩ := few_f l
  have HFW := Aside0.mk (barquelaw07_few.calls 20 A0 c0 l r w hr0 hc0 hr)
  have HAW := Aside0.mk (fun wx => barquelaw07_awake.calls 0 true wx (awake07 0))
  have HR1 := Aside0.mk hr1
  clear hr hr0 hr1
  go_enter Try.func6, Try.ntmps6
  go_upto_region 2 with (go_at_call 19; go_loud ((with_reducible refine HFW.out.mono ?_); rintro _ wa ⟨vf, rfl, hrr, hbb⟩; have HRF := Aside0.mk hrr; have HBA := Aside0.mk hbb; obtain ⟨Af, cf, hvf⟩ := Kd.R_slice hrr; subst hvf; clear hrr hbb))
  go_cut [36] (fun v36 wz => ∃ tb : Bool, v36 = .bool tb ∧ wa = wz ∧ Aside0 (tb = false → 3 ≤ r.length ∧ 16 ≤ bl ∧ bl ≤ 1024 ∧ 0 ≤ o ∧ o < (r.length : Int) - 2))
  case first =>
    by_cases b1 : r.length < 3
    · have d1 : decide (r.length < 3) = true := decide_eq_true b1
      have d2 : decide ((r.length : Int) < 3) = true := decide_eq_true (by omega)
      go_wp2_with fail
      go_meet
      case rel => exact ⟨true, rfl, rfl, ⟨fun h => by cases h⟩⟩
    · have d1 : decide (r.length < 3) = false := decide_eq_false b1
      have d2 : decide ((r.length : Int) < 3) = false := decide_eq_false (by omega)
      by_cases b2 : bl < 16
      · have e1 : decide (bl < 16) = true := decide_eq_true b2
        go_wp2_with fail
        go_meet
        case rel => exact ⟨true, rfl, rfl, ⟨fun h => by cases h⟩⟩
      · have e1 : decide (bl < 16) = false := decide_eq_false b2
        by_cases b3 : 1024 < bl
        · have e2 : decide (1024 < bl) = true := decide_eq_true b3
          go_wp2_with fail
          go_meet
          case rel => exact ⟨true, rfl, rfl, ⟨fun h => by cases h⟩⟩
        · have e2 : decide (1024 < bl) = false := decide_eq_false b3
          by_cases b4 : o < 0
          · have e3 : decide (o < 0) = true := decide_eq_true b4
            go_wp2_with fail
            go_meet
            case rel => exact ⟨true, rfl, rfl, ⟨fun h => by cases h⟩⟩
          · have e3 : decide (o < 0) = false := decide_eq_false b4
            by_cases b5 : (r.length : Int) - 2 ≤ o
            · have e4 : decide ((r.length : Int) - 2 ≤ o) = true := decide_eq_true b5
              go_wp2_with fail
              go_meet
              case rel => exact ⟨true, rfl, rfl, ⟨fun h => by cases h⟩⟩
            · have e4 : decide ((r.length : Int) - 2 ≤ o) = false := decide_eq_false b5
              go_wp2_with fail
              go_meet
              case rel => exact ⟨false, rfl, rfl, ⟨fun _ => ⟨by omega, by omega, by omega, by omega, by omega⟩⟩⟩
  case rest =>
    obtain ⟨tb, rfl, rfl, HC⟩ := hcut
    cases tb with
    | true =>
      go_wp2_with (go_at_call 11; go_loud ((with_reducible refine (HAW.out _).mono ?_); rintro _ wx ⟨rfl, hbb⟩; have HBX := Aside0.mk (below_step HBA.out hbb); clear hbb))
      go_ret
      exact ⟨rfl, HBX.out⟩
    | false =>
      obtain ⟨k1, k2, k3, k4, k5⟩ := HC.out rfl
      obtain ⟨bn, rfl⟩ := Int.eq_ofNat_of_zero_le (by omega : 0 ≤ bl)
      obtain ⟨on, rfl⟩ := Int.eq_ofNat_of_zero_le k4
      obtain ⟨q, cq, hvq, _, _, _⟩ := Kd.R_form HRF.out (by omega)
      injection hvq with hvq _ hvc
      subst hvq hvc
      obtain ⟨_, hcl, hCl⟩ := Kd.R_reads' HRF.out
      have HCL := Aside0.mk hCl
      have HCC := Aside0.mk hcl
      clear hcl hCl
      go_upto_region 5 with (go_at_call 20; go_loud ((with_reducible refine (ideal_calls _).mono ?_); rintro _ wb ⟨b, M, rfl, hbk, hb1, hb2, hbb⟩; have HBKB := Aside0.mk hbk; have HBM := Aside0.mk (And.intro hb1 hb2); have HBB := Aside0.mk hbb; clear hbk hb1 hb2 hbb))
      have HCLB := Aside0.mk (Kd.C_below HCL.out HBB.out)
      have HRW := Aside0.mk (row_calls b M [] q _ r bn wb HCLB.out HCC.out HBKB.out (by decide) (by omega) HR1.out (by omega) (by omega))
      go_upto_region 6 with (go_at_call 21; go_loud ((with_reducible refine HRW.out.mono ?_); rintro _ wc ⟨Ad, cd, ds, bk1, rfl, hcd, hCd, hg, hbk, hx, hl1, hdl, hD⟩; have HCD := Aside0.mk hCd; have HG1 := Aside0.mk hg; have HBKC := Aside0.mk hbk; have HL1 := Aside0.mk hl1; have HDL := Aside0.mk hdl; have HD := Aside0.mk hD; have HCDC := Aside0.mk hcd; clear hCd hg hbk hx hl1 hdl hD hcd))
      have hdb : ((ds.length : Int) != (r.length : Int) - 1) = false := bne_eq_false_iff_eq.mpr (by have := HDL.out; omega)
      have hds : on + 1 < ds.length := by have := HDL.out; omega
      obtain ⟨fs, hfs, hfd⟩ := flat_of HCD.out
      have HFS := Aside0.mk hfs
      have HFC := Aside0.mk hfd
      have hfl : fs.length = ds.length := hfd.1
      clear hfs hfd
      have hi24 : Try.prog.info? 24 = some _ := rfl
      have q0 : (0 : Int) ≤ (on : Int) := by omega
      have q1 : (on : Int) ≤ (ds.length : Int) := by omega
      have q2 : IntKind.i64.wrap ((on : Int) + 1) = (on : Int) + 1 := IntWalk.i64_in _ (by have := HDL.out; have := HR1.out; omega)
      have q3 : (0 : Int) ≤ (on : Int) + 1 := by omega
      have q4 : (on : Int) + 1 ≤ (ds.length : Int) := by omega
      have hcut1 := cut_to (P := Try.prog) 31 24 .i64 Try.underlying31 hi24 Ad ds.length cd (on : Int) q0 q1 HCDC.out
      have hcut2 := cut_from (P := Try.prog) 31 24 .i64 Try.underlying31 hi24 4 rfl Ad ds.length cd ((on : Int) + 1) q3 q4
      rw [Int.toNat_natCast] at hcut1
      rw [show ((on : Int) + 1).toNat = on + 1 by omega] at hcut2
      obtain ⟨Aq, hAq⟩ : ∃ Aq, Aq = (if cd = on + 1 then Ad else Option.map (fun x => x.add ((on + 1) * 4)) Ad) := ⟨_, rfl⟩
      rw [← hAq] at hcut2
      have HTK : Aside0 (∀ W, Below wc.heap.size wc W → ReadsRow (kF.K wc) kF.sz W Ad on (fs.take on)) := ⟨fun W hW => by
        have h := Kd.C_take (k := kF) (xs := fs) (m := on) (by rw [hfl]; exact Kd.C_below HFS.out hW) (by omega)
        rw [List.length_take, Nat.min_eq_left (by omega)] at h
        exact h⟩
      have HDR : Aside0 (∀ W, Below wc.heap.size wc W → ReadsRow (kF.K wc) kF.sz W Aq (ds.length - (on + 1)) (fs.drop (on + 1))) := ⟨fun W hW => by
        have h := Kd.C_drop (k := kF) (xs := fs) (m := on + 1) (c := cd) (by rw [hfl]; exact Kd.C_below HFS.out hW) (by omega) (by have := HCDC.out; omega)
        rw [List.length_drop, hfl] at h
        rw [hAq]
        exact h⟩
      clear hAq
      obtain ⟨cut, hcut⟩ : ∃ cut, cut = ds.take on ++ ds.drop (on + 1) := ⟨_, rfl⟩
      have HCUT := Aside0.mk hcut
      have HLC : Aside0 ((fs.take on ++ fs.drop (on + 1)).length = cut.length) := ⟨by rw [hcut, List.length_append, List.length_append, List.length_take, List.length_take, List.length_drop, List.length_drop, hfl]⟩
      have HLN : Aside0 (cut.length = ds.length - 1) := ⟨by rw [hcut, List.length_append, List.length_take, List.length_drop]; omega⟩
      clear hcut
      have HLT : Aside0 ((fs.take on).length = on) := ⟨by rw [List.length_take]; omega⟩
      go_upto_region 8 with fail
      go_region_held3 (fun _ => True) (trivial) (first | (refine Kd.R_append_rows_step kF (Rr := kF.K wc) (w0 := wc) (W := (wc.drew.alloc (.cells #[] 24 (0, 0)))) wc.heap.size ?aW (.tmp 49) (.tmp 52) 31 24 (.agg #[(.string ⟨#[]⟩), (.string ⟨#[]⟩), (.int .i64 0), (.slice none 0 0)]) 64 ?aO Try.underlying31 info24 rfl (by decide) (by omega) (.slice (some ⟨wc.heap.size, 0, none⟩) 0 0) [] (fs.take on) Ad on cd (fun _ => True) (fun _ => False) ?aS ?aX ?aR ?aC (kF_MK _ _ _ _) (fun _ hk => hk.elim) (fun _ _ => trivial) ?aB ?aZ ?aL ?_; (case aW => rfl); (case aO => rfl); (case aS => rfl); (case aX => rfl); (case aR => exact R_new0 kF _ wc.heap.size wc.drew (Nat.le_refl _) _ trivial); (case aC => exact HTK.out _ (below_alloc (below_drew1 (Below.refl _ _)) _)); (case aB => exact below_alloc (below_drew1 (Below.refl _ _)) _); (case aZ => simp); (case aL => simp only [List.length_nil]; have := HDL.out; omega); intro v1 w1 hR1 hB1 hG1 hO1; rw [List.nil_append] at hR1; obtain ⟨A1, c1, hv1⟩ := Kd.R_slice hR1; subst hv1; have HRA := Aside0.mk hR1; have HBA1 := Aside0.mk hB1; clear hR1 hB1 hG1 hO1) | (refine Kd.R_append_rows_step kF (Rr := kF.K wc) (w0 := wc) (W := w1) wc.heap.size ?aW (.tmp 53) (.tmp 57) 31 24 (.agg #[(.string ⟨#[]⟩), (.string ⟨#[]⟩), (.int .i64 0), (.slice none 0 0)]) 64 ?aO Try.underlying31 info24 rfl (by decide) (by omega) (.slice A1 (fs.take on).length c1) (fs.take on) (fs.drop (on + 1)) Aq (ds.length - (on + 1)) (cd - (on + 1)) (fun _ => True) (fun _ => False) ?aS ?aX ?aR ?aC (kF_MK _ _ _ _) (fun _ hk => hk.elim) (fun _ _ => trivial) ?aB ?aZ ?aL ?_; (case aW => rfl); (case aO => rfl); (case aS => rfl); (case aX => rfl); (case aR => exact HRA.out); (case aC => exact HDR.out _ HBA1.out); (case aB => exact HBA1.out); (case aZ => exact HBA1.out.size); (case aL => rw [HLT.out]; have := HDL.out; omega); intro v1 w1 hR1 hB1 hG1 hO1; obtain ⟨A2, c2, hv1⟩ := Kd.R_slice hR1; rw [HLC.out] at hv1; subst hv1; have HRB := Aside0.mk hR1; have HBB1 := Aside0.mk hB1; clear hR1 hB1 hG1 hO1))
      have HC8 : Aside0 (cut.length ≤ c2 ∧ Kd.C k24 w1 A2 cut.length cut) := ⟨by
        obtain ⟨e1, e2, e3⟩ := Kd.R_reads' HRB.out
        have hf := ((HFC.out.take on).append (HFC.out.drop (on + 1))).below HBB1.out
        rw [← HCUT.out] at hf
        rw [HLC.out] at e3
        exact ⟨by omega, C_flatc e3 hf⟩⟩
      have HBK8 := Aside0.mk (HBKC.out.below HBB1.out)
      have HS8 := Aside0.mk (Kd.C_below (C_gbS HCLB.out HBKB.out HG1.out) HBB1.out)
      have hL : ∀ i, i < r.length → ∃ x, r[i]? = some x := fun i hi => ⟨_, List.getElem?_eq_getElem hi⟩
      obtain ⟨s0, hs0⟩ := hL 0 (by omega)
      obtain ⟨so, hso⟩ := hL on (by omega)
      obtain ⟨so1, hso1⟩ := hL (on + 1) (by omega)
      obtain ⟨sl, hsl⟩ := hL (r.length - 1) (by omega)
      have hcell : ∀ (wx : World), Kd.C Kd.string wx (some ⟨q, 0, none⟩) r.length r → ∀ (i : Nat) x, r[i]? = some x → wx.cell? ⟨q, i, none⟩ = some (.string x) := fun wx hC i x hx => by
        obtain ⟨ad, hA, g⟩ := Kd.at_string hC (i : Int) (by omega) (by have := (List.getElem?_eq_some_iff.1 hx).1; omega)
        injection hA with hA
        subst hA
        rw [Int.toNat_natCast, Addr.add_lit, Nat.zero_add] at g
        unfold rdOf at g
        rw [Int.toNat_natCast, List.getD_eq_getElem?_getD, hx] at g
        exact g
      have HCE := Aside0.mk hcell
      have HST := Aside0.mk (fun (bk' : List ByteArray) (s' : ByteArray) (n er : Int) (h : ChainR bk1 bk' s0 (ds.take on ++ ds.drop (on + 1)) 0 s' n er) => stops HDL.out HR1.out HD.out (show on + 2 < r.length by omega) hs0 hso hso1 hsl (by have := HL1.out; rw [List.length_nil] at this; omega) h)
      have HGD : Aside0 (∀ d ∈ cut, GoodD d) := ⟨fun d hd => by
        rw [HCUT.out] at hd
        have hd2 : d ∈ ds := by
          rcases List.mem_append.1 hd with h | h
          · exact List.mem_of_mem_take h
          · exact List.mem_of_mem_drop h
        obtain ⟨i, hi, he⟩ := List.mem_iff_getElem.1 hd2
        have hle : i + 1 < r.length := by have := HDL.out; omega
        have h3 := HD.out i _ _ _ (List.getElem?_eq_getElem (by omega)) (List.getElem?_eq_getElem hle) (List.getElem?_eq_getElem hi)
        rw [he] at h3
        exact h3.good (Nat.le_trans (HR1.out _ (List.getElem_mem _)) (by decide))⟩
      have HRUN := Aside0.mk (crun_calls b M bk1 s0 A2 c2 cut w1 HC8.out.2 HC8.out.1 HBK8.out (by have := HL1.out; have := HLN.out; have := HDL.out; rw [List.length_nil] at *; omega) (by have := HLN.out; have := HDL.out; omega) HGD.out (Nat.le_trans (HR1.out _ (List.mem_of_getElem? hs0)) (by decide)))
      have HSS := Aside0.mk (And.intro hs0 (And.intro hso (And.intro hso1 hsl)))
      have hld0 := hcell _ HS8.out 0 s0 hs0
      clear hL hs0 hso hso1 hsl hcell
      go_upto_region 10 with (go_at_call 22; go_loud ((with_reducible refine HRUN.out.mono ?_); rintro _ wd ⟨s', n, er, bk2, rfl, hch, hgd, hbd, hxd, hlb⟩; have HCH := Aside0.mk hch; have HGD2 := Aside0.mk hgd; clear hch hgd hbd hxd hlb))
      have hst := HST.out _ _ _ _ (by rw [← HCUT.out]; exact HCH.out)
      have HST2 := Aside0.mk hst
      have HSD := Aside0.mk (C_gbS HS8.out HBK8.out HGD2.out)
      obtain ⟨e0, e1, e2, e3⟩ := HSS.out
      have g1 := HCE.out _ HSD.out _ _ e1
      have g2 := HCE.out _ HSD.out _ _ e2
      have g3 := HCE.out _ HSD.out _ _ e3
      have HW : Aside0 (Below w.heap.size w wd) := ⟨below_gb (gb_trans (gb_trans (gb_trans (gb_trans (gb_of HBA.out (some M)) (gb_of HBB.out (some M))) HG1.out) (gb_of HBB1.out (some M))) HGD2.out) (by have := HBM.out.2; have := HBA.out.size; omega) (Nat.le_refl _)⟩
      have n1 := World.new_ne wd _ g1
      have n2 := World.new_ne wd _ g2
      have n3 := World.new_ne wd _ g3
      clear hst e0 e1 e2 e3 hld0
      have m1 : (0 : Int) ≤ (r.length : Int) - 1 := by omega
      have m2 : (r.length : Int) - 1 < (r.length : Int) := by omega
      have m3 : ((r.length : Int) - 1).toNat = r.length - 1 := by omega
      have m4 : ((on : Int) + 1).toNat = on + 1 := by omega
      have m5 : (on : Int) < (r.length : Int) := by omega
      have m6 : (on : Int) + 1 < (r.length : Int) := by omega
      by_cases he : so = so1
      · obtain ⟨f1, f2, f3⟩ := HST2.out.1 he
        rw [← HCUT.out] at f2
        subst f1 f2 f3 he
        go_quiet (fail)
        go_wp2_with (go_at_call 11; go_loud ((with_reducible refine (HAW.out _).mono ?_); rintro _ wx ⟨rfl, hbb⟩; have HBX := Aside0.mk (below_step (by apply pw_below_drewN; exact HW.out) hbb); clear hbb))
        go_ret
        exact ⟨rfl, HBX.out⟩
      · obtain ⟨f1, f2, f3⟩ := HST2.out.2 he
        have he1 : (so == so1) = false := beq_eq_false_iff_ne.mpr he
        have he2 : (so.toList == so1.toList) = false := beq_eq_false_iff_ne.mpr (fun e => he (toL_inj e))
        subst f1 f2 f3
        go_quiet (fail)
        go_wp2_with (go_at_call 11; go_loud ((with_reducible refine (HAW.out _).mono ?_); rintro _ wx ⟨rfl, hbb⟩; have HBX := Aside0.mk (below_step (by apply pw_below_drewN; exact HW.out) hbb); clear hbb))
        go_ret
        exact ⟨rfl, HBX.out⟩
theorem walked (a0 : Option Addr) (c0 : Nat) (z0 : List ByteArray) (a1 : Int) (a2 : Int) (W : World) (hc0 : z0.length ≤ c0) (hC0 : Kd.C Kd.string W a0 z0.length z0) (hg0 : ∀ y ∈ z0, good9 y) (hs0 : z0.length * 16 ≤ 140737488351232) (w1 : (Lit.int .i64 a1).wf = true) (w2 : (Lit.int .i64 a2).wf = true) :
    Calls Try.prog 6 #[.slice a0 z0.length c0, .int .i64 a1, .int .i64 a2] W fun e w' => e = .returned (.bool true) ∧ Below W.heap.size W w' :=
  walked0 a0 c0 z0 a1 a2 W hc0 hC0 (bounds_i64 w1) (bounds_i64 w2)
end Go.Proofs.Ytjgelmfkoefclaa.chainStops

-- from YtjgelmfkoefclaaLawChainStops
/- The law ChainStops of the given program: every call of it answers true, and what it was handed reads behind the call as it did before. No condition. (The row, out of the walk; laid by wip/tools/rows.py.) -/
namespace Go.Proofs.Ytjgelmfkoefclaa.chainStops
open Go.ChangeShapes Go.WideShapes Go.ChangeAt Go.RowKit
open Go.ChangeMaps (open_string shut_string)
open Go.Proofs.YtjgelmfkoefclaaW.PrintWords
open Go.Proofs.YtjgelmfkoefclaaW.PrintLast
open Go.Proofs.YtjgelmfkoefclaaW.PrintMore
open Go.Proofs.Ytjgelmfkoefclaa.PAll
open Go.Proofs.Ytjgelmfkoefclaa
set_option linter.unusedVariables false
set_option linter.unusedSimpArgs false
theorem own : ownKnob Try.prog.godebug = none := by kernel_rfl
theorem laidOut : laidOutB Try.prog = true := by kernel_rfl
set_option maxRecDepth 100000 in
set_option maxHeartbeats 1000000 in
theorem lifted (os : Os) (started : os.Started) (H : Type) (enc : TypeId × Value → H) :
    ReturnsInHanded {} Try.checked os 6 .any (Rows.chainStopsSpec.pre6 enc Try.prog Try.f6 Rows.chainStopsRow.domain false) (Rows.chainStopsSpec.post enc Try.prog Try.f6 false true false false) := by
  refine returnsInHanded_of_change_sized (C := Try.checked) own started (by kernel_rfl) Try.func6
    (ChangeSpec.witness6 (enc := enc) (C := Try.checked) false ⟨#[], #[.slice none 0 0, .int .i64 0, .int .i64 0], []⟩ 8 (by kernel_rfl) (by kernel_rfl) (by kernel_rfl) (by kernel_rfl)) ?_
  intro W base args ds gs before hval0 hW hcnd hsz0 _
  have hsz : (DataW.weightsEach Try.prog (Try.f6.params.toList ++ Rows.chainStopsSpec.plain.varTypes Try.prog) (ds ++ gs)).all (· ≤ reachBytes) = true := hsz0
  have hval : ∀ (j : Nat) t v, Try.f6.params[j]? = some t → args[j]? = some v → Value.okWide Try.prog W .any base t v := hval0
  have hW' := hW
  obtain ⟨p, q, hA0, hV, rfl, hfz, hnd⟩ := hW
  have hA : DataW.TrodAll enc Try.prog W 0 (fun _ => true) true Try.f6.params.toList args.toList ds p := hA0
  rw [Try.params6] at hA hval hsz
  obtain ⟨v0, vs0, d0, ds0, p0, q0, hargs, rfl, rfl, h0, r0⟩ := trodAll_cons hA
  obtain ⟨v1, vs1, d1, ds1, p1, q1, rfl, rfl, rfl, h1, r1⟩ := trodAll_cons r0
  obtain ⟨v2, vs2, d2, ds2, p2, q2, rfl, rfl, rfl, h2, r2⟩ := trodAll_cons r1
  obtain ⟨rfl, rfl, rfl⟩ := trodAll_nil r2
  obtain rfl : args = #[v0, v1, v2] := by cases args; simp_all
  obtain ⟨rfl, rfl⟩ := trodVars_none hV
  obtain ⟨a0, len0, c0, rfl⟩ := okWide_slice Try.underlying36 (hval 0 36 v0 rfl rfl)
  have k0 := h0
  have lt0 : ∀ x ∈ p0, x.block < W.heap.size := by obtain ⟨m, hm⟩ := k0; exact DataW.trod_lt m _ _ _ hm
  have hs0 := Opens.sized_arg hsz (j := 0) (t := 36) rfl rfl Try.underlying36 (B := 16) (by kernel_rfl) h0
  obtain ⟨z0, rfl, hc0, hC0, hg0⟩ := Opens.opens_arg Try.underlying36 (d := Kd.string) (good := good9) (by kernel_rfl) opens9 h0
  obtain ⟨a1, rfl, rfl, rfl, w1⟩ := open_int Try.underlying3 (hval 1 3 v1 rfl rfl) h1
  obtain ⟨a2, rfl, rfl, rfl, w2⟩ := open_int Try.underlying3 (hval 2 3 v2 rfl rfl) h2
  clear hA0 hval0 hsz0 hsz
  refine (walked a0 c0 z0 a1 a2 W hc0 hC0 hg0 hs0 w1 w2).mono fun e W' ⟨he, bel⟩ => ?_
  subst he
  exact ⟨_, rfl, _, _, _, [], _, [], hW', trodAll_mk1 (shut_bool Try.underlying4 _), (trodAll_cons_mk (Below.trod laidOut (by kernel_rfl) (of_decide_eq_true (by kernel_rfl)) k0 bel lt0) (trodAll_cons_mk (shut_int Try.underlying3 w1) (trodAll_cons_mk (shut_int Try.underlying3 w2) trodAll_mk0))), rfl, bel.frame _, fun h => by cases h⟩
theorem over : Rows.chainStopsRow.holds Try.pinned (OpenSpec.ofChange Rows.chainStopsSpec) :=
  OpenClaim.holds_of_wide 6 Try.f6 rfl rfl rfl rfl rfl rfl rfl ⟨rfl, rfl, rfl, rfl, rfl⟩ rfl rfl rfl rfl rfl (by kernel_rfl) Try.func6 (by kernel_rfl)
    (of_decide_eq_true (by kernel_rfl)) (by unfold Func.isWrapper; first | (rw [if_pos (by decide +kernel)]; kernel_rfl) | (rw [if_neg (by decide +kernel)]; exact ⟨rfl, rfl⟩))
    (fun os started H enc _ => lifted os started H enc)
theorem proved : Rows.ChainStopsSaid := over
#print axioms proved
end Go.Proofs.Ytjgelmfkoefclaa.chainStops
namespace Go.Proofs.Ytjgelmfkoefclaa
/-- The row, under a short name, for the claim. -/
theorem chainStops_holds : Rows.ChainStopsSaid := chainStops.proved
end Go.Proofs.Ytjgelmfkoefclaa

