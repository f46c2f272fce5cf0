/- What gathers steps: a text's end. -/
import Derived.BigQuiet
import Derived.Deep.DeepMust
import Derived.RegionTactic
import Derived.IntWalk
import Derived.Test.YtjgelmfkoefclaaMakeLaw
namespace Go.Proofs.Ytjgelmfkoefclaa.PAll
open Go.RowKit Go.Proofs.YtjgelmfkoefclaaW.PrintWords Go.Proofs.YtjgelmfkoefclaaW.PrintLast Go.Proofs.YtjgelmfkoefclaaW.PrintMore
set_option linter.unusedVariables false
set_option linter.unusedSimpArgs false
attribute [local go_sem] max2_int min2_int max_two min_two

set_option maxHeartbeats 4000000 in
set_option maxRecDepth 100000 in
theorem mend_calls (w0 w1 : World) (T b M m : Nat) (bl n : Nat) (ws : List Int) (ss : List ByteArray) (nb : Nat) (l : List ByteArray) (s : ByteArray) (vs vt : Value) (st : List S54) (tx : ByteArray) (h0 : 16 ≤ bl) (h1 : bl ≤ 1024) (hn : n ≤ 524288) (hws : ws.length = nB n bl) (hss : ss.length = ws.length) (w : World)
    (hT : Tb w0 w1 T bl n ws ss nb) (hM0 : M < w0.heap.size) (hw0 : w0.heap.size ≤ w1.heap.size) (hbw : b < w1.heap.size) (hG : w1.grownBy w (some M)) (hB : Bk w b M l) (hMk : Mk w w1.heap.size m vs vt st tx) (hl : l.length < 10000000) (hs : s.size ≤ 1000000) (htx : tx.size ≤ 1000000) (hst : st.length ≤ 1000000) :
    Calls Try.prog 56 #[.pointer (some ⟨m, 0, none⟩), .pointer (some ⟨b, 0, none⟩), .pointer (some ⟨T, 0, none⟩), .string s] w fun e w' => ∃ (vs' vt' : Value) (st' : List S54) (l' : List ByteArray), e = .returned (.tuple #[]) ∧ Mk w' w1.heap.size m vs' vt' st' ⟨#[]⟩ ∧ w1.grownBy w' (some M) ∧ Bk w' b M l' ∧ Ext l l' ∧ l'.length ≤ l.length + 1 ∧ EndR st tx s n bl ws ss l' st' := by
  have HSZ : Aside0 (∀ wx, w1.grownBy wx (some M) → Calls Try.prog 72 #[.pointer (some ⟨T, 0, none⟩)] wx fun e w' => e = .returned (.int .i64 n) ∧ Drawn0 wx w') := ⟨fun wx hg => tsize_blk hT hM0 hg⟩
  have HBZ : Aside0 (∀ wx, w1.grownBy wx (some M) → Calls Try.prog 50 #[.pointer (some ⟨T, 0, none⟩)] wx fun e w' => e = .returned (.int .i64 bl) ∧ Drawn0 wx w') := ⟨fun wx hg => tblock_blk hT hM0 hg⟩
  have HTB := Aside0.mk hT
  have HM0 := Aside0.mk hM0
  have HMB : Aside0 (M < w1.heap.size) := ⟨by omega⟩
  have HBB := Aside0.mk hbw
  have HG := Aside0.mk hG
  have HBK := Aside0.mk hB
  have HMK := Aside0.mk hMk
  have HL := Aside0.mk hl
  have HWS := Aside0.mk hws
  have HSS := Aside0.mk hss
  obtain ⟨k, hk⟩ : ∃ k : Nat, k = n % bl := ⟨_, rfl⟩
  have hrem : (n : Int) % (bl : Int) = (k : Int) := by rw [hk]; rfl
  have HK := Aside0.mk hk
  have HREM := Aside0.mk hrem
  have hkl : k ≤ 1024 := by have := Nat.mod_lt n (show 0 < bl by omega); omega
  have hb0 : ¬ (bl : Int) = 0 := by omega
  clear hT hM0 hw0 hbw hG hB hMk hl hws hss hk hrem
  go_enter Try.func56, Try.ntmps56
  go_upto_region 1 with (first | (go_at_call 72; go_loud ((with_reducible refine (HSZ.out _ HG.out).mono ?_); rintro _ wa ⟨rfl, hdr⟩; have HGA := Aside0.mk (gb_below HG.out hdr.below); have HBKA := Aside0.mk (HBK.out.below hdr.below); have HMKA := Aside0.mk (HMK.out.below hdr.below); clear hdr)) | (go_at_call 50; go_loud ((with_reducible refine (HBZ.out _ HGA.out).mono ?_); rintro _ wb ⟨rfl, hdr⟩; have HGB := Aside0.mk (gb_below HGA.out hdr.below); have HBKB := Aside0.mk (HBKA.out.below hdr.below); have HMKB := Aside0.mk (HMKA.out.below hdr.below); clear hdr)))
  rw [HREM.out]
  go_cut [28] (fun v28 wz => ∃ (tb : Bool) (l' : List ByteArray), v28 = .bool tb ∧ Aside0 (Mk wz w1.heap.size m vs vt st tx) ∧ Aside0 (w1.grownBy wz (some M)) ∧ Aside0 (Bk wz b M l') ∧ Aside0 (Ext l l') ∧ Aside0 (l'.length ≤ l.length + 1) ∧ Aside0 (tb = true → 0 < k ∧ k ≤ s.size ∧ rdOf ByteArray.empty ss ((ws.length - 1 : Nat) : Int) = markV l' (s.extract (s.size - k) s.size) ∧ s.extract (s.size - k) s.size ∈ l'))
  case first =>
    by_cases hks : k ≤ s.size
    · have hkb : decide (k ≤ s.size) = true := decide_eq_true hks
      obtain ⟨sk, hsk⟩ : ∃ sk : Nat, sk = s.size - k := ⟨_, rfl⟩
      have hsi : (s.size : Int) - (k : Int) = (sk : Int) := by omega
      have q1 : (0 : Int) ≤ (sk : Int) := by omega
      have q2 : (sk : Int) ≤ (s.size : Int) := by omega
      have HSI := Aside0.mk hsi
      have hpe : (s.extract sk s.size).size = k := by rw [ByteArray.size_extract]; omega
      have HTL := Aside0.mk (fun wx (hg : w1.grownBy wx (some M)) (hb : Bk wx b M l) => tail_calls w0 T b M bl n ws ss nb l (s.extract sk s.size) h0 h1 hn (by rw [hpe]; exact HK.out) HWS.out HSS.out wx (HTB.out.mark hg HM0.out) hb HM0.out HL.out)
      have HSK := Aside0.mk hsk
      have HKS := Aside0.mk hks
      have HPE := Aside0.mk hpe
      clear hsk hks hpe
      go_wp2_with (go_at_call 73; go_loud ((with_reducible refine (HTL.out _ HGB.out HBKB.out).mono ?_); rintro _ wc ⟨tb, l', rfl, hx, hxl, hbk, hgb, htt⟩; have HGC := Aside0.mk (gb_trans HGB.out hgb); have HBC := Aside0.mk hbk; have HMC := Aside0.mk (HMKB.out.gbM hgb HMB.out); have HX := Aside0.mk hx; have HXL := Aside0.mk hxl; have HTT := Aside0.mk htt; clear hx hxl hbk hgb htt))
      go_meet
      case rel =>
        refine ⟨tb, l', rfl, HMC, HGC, HBC, HX, HXL, ⟨fun h => ?_⟩⟩
        obtain ⟨e1, e2, e3⟩ := HTT.out h
        rw [HPE.out] at e1
        rw [← HSK.out]
        exact ⟨e1, HKS.out, e2, e3⟩
    · have hkb : decide (k ≤ s.size) = false := decide_eq_false hks
      have HKS := Aside0.mk hks
      clear hks
      go_wp2_with fail
      go_meet
      case rel => exact ⟨false, l, rfl, HMKB, HGB, HBKB, ⟨Ext.refl _⟩, ⟨by omega⟩, ⟨fun h => by cases h⟩⟩
  case rest =>
    obtain ⟨tb, l', rfl, HMC, HGC, HBC, HX, HXL, HTT⟩ := hcut
    obtain ⟨A1, c1, hv1, hc1⟩ := HMC.out.t.slice
    subst hv1
    obtain ⟨t0, t1, f0, f1⟩ := blk2 HMC.out.b
    have HBS : Aside0 (w1.heap.size ≤ wc.heap.size) := ⟨HGC.out.size⟩
    cases tb with
    | true =>
      as_aux_lemma =>
        obtain ⟨k0, ks, he, hmm⟩ := HTT.out rfl
        obtain ⟨sk, hsk⟩ : ∃ sk : Nat, sk = s.size - k := ⟨_, rfl⟩
        have hsi : (s.size : Int) - (k : Int) = (sk : Int) := by omega
        have q1 : (0 : Int) ≤ (sk : Int) := by omega
        have q2 : (sk : Int) ≤ (s.size : Int) := by omega
        have hwr : IntKind.i64.wrap (sk : Int) = (sk : Int) := IntWalk.i64_in _ (by omega)
        have HSK := Aside0.mk hsk
        have HEE := Aside0.mk (And.intro he hmm)
        have hys : (s.extract 0 sk).size ≤ 1000000 := by rw [ByteArray.size_extract]; omega
        have HYS := Aside0.mk hys
        clear hsk he hmm hys t0
        have HMD := Aside0.mk (HMC.out.below (below_drew1 (Below.refl _ _)))
        go_upto_region 2 with fail
        refine wp_region_held_tail 11 1 (fun w' => w'.cell? ⟨m, 1, none⟩ = some (.slice A1 tx.size c1)) (by kernel_rfl) (by kernel_rfl) (by intro d c v a w; cases d <;> exact fun h => h) t1 ?_
        simp only [List.take_succ_cons, List.take_zero, List.drop_succ_cons, List.drop_zero]
        repeat (refine wpHeld_step (v := ?_) (by rfl) ?_ ?_; rotate_left; (· intro wS hSw; (go_simp <;> with_reducible rfl)); (simp only [Act.put, List.setIfInBounds_toArray, List.set_cons_zero, List.set_cons_succ]))
        refine wpHeld_nil ?_
        clear hwr
        refine wpListS_step (fun K hK => ?_)
        refine step_append_tx _ w1.heap.size ?aW (.tmp 33) (.tmp 39) 77 9 5 ?aO Try.underlying77 info5 (.slice A1 tx.size c1) tx ?aS HMD.out.t (.string (s.extract 0 sk)) (s.extract 0 sk) ?aX (Src.ofString _ Try.underlying9 _) ?aL HBS.out ?_
        case aW => rfl
        case aO => rfl
        case aS => rfl
        case aX => rfl
        case aL => have := HYS.out; omega
        intro v1 wd hT1 hG1 hO1
        obtain ⟨ty, hty⟩ : ∃ ty, ty = tx ++ s.extract 0 sk := ⟨_, rfl⟩
        rw [← hty] at hT1
        have HTY := Aside0.mk hty
        clear hty
        obtain ⟨A2, c2, hv2, hc2⟩ := hT1.slice
        subst hv2
        have HPT := Aside0.mk (HMD.out.putT hT1 hG1)
        obtain ⟨e0, e1, e2, e3⟩ := blk2 (blk_grown HMD.out.b hG1 (fun e => HMD.out.t.ne HMD.out.b (by decide) m e.symm rfl))
        refine hK.out _ _ e1 ?_
        have HGD := Aside0.mk (gb_fm (gb_drew HGC.out) HPT.out.2)
        have HBD := Aside0.mk (Bk.fm (HBC.out.below (below_drew1 (Below.refl _ _))) HPT.out.2 HBB.out HMB.out)
        clear hT1 hG1 hO1 hK K t1 f0 f1
        refine wpListS_zero ?_
        have HZZ : Aside0 (st.length + ty.size ≤ 4000000) := ⟨by rw [HTY.out, ByteArray.size_append]; have := HYS.out; omega⟩
        go_wp2_with (first | (go_at_call 72; go_loud ((with_reducible refine (HSZ.out _ HGD.out).mono ?_); rintro _ wf ⟨rfl, hdr⟩; have HGF := Aside0.mk (gb_below HGD.out hdr.below); have HBKF := Aside0.mk (HBD.out.below hdr.below); have HMKF := Aside0.mk (HPT.out.1.below hdr.below); clear hdr)) | (go_at_call 54; go_loud ((with_reducible refine (mcopy_calls w1.heap.size m vs _ st ty ((n : Int) - (k : Int)) (k : Int) _ HMKF.out HGF.out.size HZZ.out).mono ?_); rintro _ wg ⟨vs', vt', rfl, hmk, hfm⟩; have HMG := Aside0.mk hmk; have HFG := Aside0.mk hfm; clear hmk hfm)))
        ((try simp only [Exit.inBlock, Exit.then]); refine bodyPost_ret (results_none rfl _ _ _) rfl ?_)
        exact ⟨vs', vt', _, l', rfl, HMG.out, gb_fm HGF.out HFG.out, HBKF.out.fm HFG.out HBB.out HMB.out, HX.out, HXL.out, .inr ⟨k, HK.out, k0, ks, HEE.out.1, HEE.out.2, by rw [← HSK.out, ← HTY.out]⟩⟩
    | false =>
      as_aux_lemma =>
        have HSZ2 : Aside0 (st.length + (tx ++ s).size ≤ 4000000) := ⟨by rw [ByteArray.size_append]; omega⟩
        go_wp2_with (first | (at_builtin; go_loud (refine wpList_append_tx _ w1.heap.size rfl (.tmp 54) (.tmp 55) 77 9 5 rfl Try.underlying77 info5 (.slice A1 tx.size c1) tx rfl HMC.out.t (.string s) s rfl (Src.ofString _ Try.underlying9 _) (by omega) HBS.out ?_; intro v1 wd hT1 hG1 hO1; obtain ⟨ty, hty⟩ : ∃ ty, ty = tx ++ s := ⟨_, rfl⟩; rw [← hty] at hT1; have HTY := Aside0.mk hty; clear hty; obtain ⟨A2, c2, hv2, hc2⟩ := hT1.slice; subst hv2; have HPT := Aside0.mk (HMC.out.putT hT1 hG1); obtain ⟨e0, e1, e2, e3⟩ := blk2 (blk_grown HMC.out.b hG1 (fun e => HMC.out.t.ne HMC.out.b (by decide) m e.symm rfl)); have HGD := Aside0.mk (gb_fm HGC.out HPT.out.2); have HBD := Aside0.mk (Bk.fm HBC.out HPT.out.2 HBB.out HMB.out); clear hT1 hG1 hO1 t0 t1 f0 f1)) | (go_at_call 71; go_loud ((with_reducible refine (mflush_calls w1.heap.size m vs _ st ty _ HPT.out.1 HGD.out.size (by rw [HTY.out]; exact HSZ2.out)).mono ?_); rintro _ wg ⟨vs', vt', rfl, hmk, hfm⟩; have HMG := Aside0.mk hmk; have HFG := Aside0.mk hfm; clear hmk hfm)))
        go_end0
        exact ⟨vs', vt', _, l', rfl, HMG.out, gb_fm HGD.out HFG.out, HBD.out.fm HFG.out HBB.out HMB.out, HX.out, HXL.out, .inl (by rw [← HTY.out])⟩
end Go.Proofs.Ytjgelmfkoefclaa.PAll
