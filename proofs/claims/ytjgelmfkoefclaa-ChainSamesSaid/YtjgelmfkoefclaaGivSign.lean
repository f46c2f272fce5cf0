/- A text's signature. -/
import Derived.BigQuiet
import Derived.Deep.DeepMust
import Derived.RegionTactic
import Derived.Deep.RegionHeld3
import Derived.Deep.RegionLaw
import Derived.Test.YtjgelmfkoefclaaGivMarks
import Derived.Test.YtjgelmfkoefclaaBase
import Derived.Test.YtjgelmfkoefclaaBasd
namespace Go.Proofs.Ytjgelmfkoefclaa.PAll
open Go.RowKit Go.Proofs.YtjgelmfkoefclaaW.PrintWords Go.Proofs.YtjgelmfkoefclaaW.PrintLast Go.Proofs.YtjgelmfkoefclaaW.PrintMore
set_option linter.unusedVariables false
set_option linter.unusedSimpArgs false
attribute [local go_sem] max2_int min2_int max_two min_two

set_option maxHeartbeats 2000000 in
set_option maxRecDepth 100000 in
theorem sign_bad (bp : Value) (s : ByteArray) (bl : Int) (w : World) (h : bl < 16 ∨ 1024 < bl) :
    Calls Try.prog 34 #[bp, .string s, .int .i64 bl] w fun e w' => e = .returned (.tuple #[.agg #[.int .i64 0, .int .i64 0, .slice none 0 0, .slice none 0 0], .int .i64 1]) ∧ Below w.heap.size w w' := by
  have HF := Aside0.mk (fun wx => sign_fits.calls bl false wx (fits_no bl h))
  clear h
  obtain ⟨W1, hW1⟩ : ∃ W1, W1 = w.alloc (.cells #[.int .i64 0, .int .i64 0, .slice none 0 0, .slice none 0 0] 71 (0, 0)) := ⟨_, rfl⟩
  have HZ : Aside0 (W1.heap[w.heap.size]? = some (.cells #[.int .i64 0, .int .i64 0, .slice none 0 0, .slice none 0 0] 71 (0, 0))) := ⟨by rw [hW1]; exact blk_new _ _⟩
  have HBW : Aside0 (Below w.heap.size w W1) := ⟨by rw [hW1]; exact below_alloc (Below.refl _ _) _⟩
  have HW1 := Aside0.mk hW1
  have HW1S : Aside0 (W1.heap.size = w.heap.size + 1) := ⟨by rw [hW1]; simp⟩
  clear hW1
  go_enter Try.func34, Try.ntmps34
  go_upto_region 1 with fail
  rw [← HW1.out]
  go_wp2_with (go_at_call 44; go_loud (refine (HF.out _).mono ?_; rintro _ wa ⟨rfl, hbb⟩; have HBB := Aside0.mk (below_step HBW.out hbb.below); have HZA := Aside0.mk (blk_below HZ.out hbb.below); clear hbb; obtain ⟨y0, y1, y2, y3⟩ := blk4 HZA.out; obtain ⟨z0, z1, z2, z3⟩ := blk4f HZA.out))
  refine bodyPost_ret (results_ct rfl _ _ w.heap.size 71 #[.int .i64 0, .int .i64 0, .slice none 0 0, .slice none 0 0] (0, 0) _ rfl ?blk Try.underlying71 rfl (by kernel_rfl)) rfl ⟨rfl, ?bel⟩
  case blk => exact blk_put (cs := #[.int .i64 0, .int .i64 0, .slice none 0 0, .slice none 0 0]) (blk_put (cs := #[.int .i64 0, .int .i64 0, .slice none 0 0, .slice none 0 0]) (blk_put (cs := #[.int .i64 0, .int .i64 0, .slice none 0 0, .slice none 0 0]) (blk_put (cs := #[.int .i64 0, .int .i64 0, .slice none 0 0, .slice none 0 0]) HZA.out 0 _ rfl) 1 _ rfl) 2 _ rfl) 3 _ rfl
  case bel => exact (((HBB.out.setCell (p := ⟨w.heap.size, 0, none⟩) (Nat.le_refl _) _).setCell (p := ⟨w.heap.size, 1, none⟩) (Nat.le_refl _) _).setCell (p := ⟨w.heap.size, 2, none⟩) (Nat.le_refl _) _).setCell (p := ⟨w.heap.size, 3, none⟩) (Nat.le_refl _) _

set_option maxHeartbeats 2000000 in
set_option maxRecDepth 100000 in
theorem sign_calls (b M : Nat) (l : List ByteArray) (s : ByteArray) (bl : Nat) (w : World) (hb : Bk w b M l) (hl : l.length + nB s.size bl ≤ 9000000) (hs : s.size ≤ 524288) (h0 : 16 ≤ bl) (h1 : bl ≤ 1024) :
    Calls Try.prog 34 #[.pointer (some ⟨b, 0, none⟩), .string s, .int .i64 bl] w fun e w' => ∃ (l' : List ByteArray) (vW vS : Value) (ws : List Int), e = .returned (.tuple #[.agg #[.int .i64 bl, .int .i64 s.size, vW, vS], .int .i64 0]) ∧ Ext l l' ∧ l'.length ≤ l.length + nB s.size bl ∧ (ws.length = nB s.size bl ∧ ∀ x ∈ ws, 0 ≤ x ∧ x ≤ 4294967295) ∧ (∀ j, j < nB s.size bl → blockV s bl j ∈ l') ∧ Sd w w' b M l' vW vS ws ((blocksV s bl).map (markV l')) := by
  have HF := Aside0.mk (fun wx => sign_fits.calls bl true wx (fits_yes bl (by omega) (by omega)))
  have HC := Aside0.mk (fun wx => sign_count.calls s.size bl _ wx (count_f s.size bl (by omega) (by omega) (by omega)))
  have HB := Aside0.mk hb
  clear hb
  obtain ⟨W1, hW1⟩ : ∃ W1, W1 = w.alloc (.cells #[.int .i64 0, .int .i64 0, .slice none 0 0, .slice none 0 0] 71 (0, 0)) := ⟨_, rfl⟩
  have HZ : Aside0 (W1.heap[w.heap.size]? = some (.cells #[.int .i64 0, .int .i64 0, .slice none 0 0, .slice none 0 0] 71 (0, 0))) := ⟨by rw [hW1]; exact blk_new _ _⟩
  have HBW : Aside0 (Below w.heap.size w W1) := ⟨by rw [hW1]; exact below_alloc (Below.refl _ _) _⟩
  have HW1 := Aside0.mk hW1
  have HW1S : Aside0 (W1.heap.size = w.heap.size + 1) := ⟨by rw [hW1]; simp⟩
  clear hW1
  go_enter Try.func34, Try.ntmps34
  go_upto_region 1 with fail
  rw [← HW1.out]
  go_upto_region 6 with (go_at_call 44; go_loud (refine (HF.out _).mono ?_; rintro _ wa ⟨rfl, hbb⟩; have HBB := Aside0.mk (below_step HBW.out hbb.below); have HZA := Aside0.mk (blk_below HZ.out hbb.below); have HSA := Aside0.mk hbb; clear hbb))
  have hsz : wa.heap.size = w.heap.size + 1 := by
    obtain ⟨q, hq⟩ := HSA.out.out
    rw [hq, ← HW1S.out]; rfl
  rw [hsz]
  obtain ⟨W2, hW2⟩ : ∃ W2, W2 = wa.alloc (.cells #[.int .i64 bl, .int .i64 s.size, .slice none 0 0, .slice none 0 0] 71 (0, 0)) := ⟨_, rfl⟩
  have HS2 : Aside0 (Sg w W2 b M l bl s.size (.slice none 0 0) (.slice none 0 0) [] []) := ⟨by
    have hn := blk_new wa (.cells #[.int .i64 bl, .int .i64 s.size, .slice none 0 0, .slice none 0 0] 71 (0, 0))
    rw [hsz] at hn
    rw [hW2]
    exact ⟨gb_of (below_alloc HBB.out _) _, HB.out.below (below_alloc HBB.out _), ⟨HB.out.ltb, HB.out.lt⟩, blk_alloc HZA.out _, hn, Kd.R_nil _ _ _ _ _, Kd.R_nil _ _ _ _ _⟩⟩
  rw [← hW2]
  clear hW2 hsz
  go_wp2_with (go_at_call 45; go_loud (refine (HC.out _).mono ?_; rintro _ wb ⟨rfl, hbb⟩; have HSB := Aside0.mk (HS2.out.below hbb.below); clear hbb))
  go_loopw [27] (fun v27 wr => ∃ (i : Nat) (l' : List ByteArray) (vW vS : Value) (ws : List Int), v27 = .int .i64 i ∧ i ≤ nB s.size bl ∧ Aside0 (l'.length ≤ l.length + i) ∧ Aside0 (Ext l l') ∧ Aside0 (ws.length = i ∧ ∀ x ∈ ws, 0 ≤ x ∧ x ≤ 4294967295) ∧ Aside0 (∀ j, j < i → blockV s bl j ∈ l') ∧ Aside0 (Sg w wr b M l' bl s.size vW vS ws ((List.range i).map (fun j => markV l' (blockV s bl j))))) (fun v27 _ => nB s.size bl - (intOf v27).toNat)
  case atStart => exact ⟨0, l, _, _, [], rfl, Nat.zero_le _, ⟨by omega⟩, ⟨Ext.refl _⟩, ⟨rfl, fun x hx => by cases hx⟩, ⟨fun j hj => by omega⟩, HSB⟩
  case round =>
    obtain ⟨i, l', vW, vS, ws, rfl, hi, HLL, HEX, HWS, HMEM, HSG⟩ := hrel
    by_cases hlt : i < nB s.size bl
    · have hb1 : decide (i < nB s.size bl) = true := decide_eq_true hlt
      have hib : i * bl ≤ s.size := Nat.le_of_lt (nB_lt (by omega) hlt)
      have hn9 : i ≤ 1000000 := by have := nB_le s.size bl (by omega); omega
      have HPC := Aside0.mk (fun wx => sign_piece.calls s i bl _ wx (piece_f s bl i (by omega) (by omega) hib hn9))
      obtain ⟨p, hp⟩ : ∃ p, p = blockV s bl i := ⟨_, rfl⟩
      have hp1 : p.size ≤ 1024 := by rw [hp]; exact Nat.le_trans (blockV_size s bl i) h1
      rw [← hp] at HPC
      obtain ⟨r, hr, hr0, hr1⟩ := roll_f p (by omega) 2000000 (by omega)
      have HRC := Aside0.mk (fun wx => roll_Sum.calls 2000000 p r wx hr)
      have HP := Aside0.mk hp
      have HR := Aside0.mk (And.intro hr0 hr1)
      clear hp hr hr0 hr1 hib
      go_upto_region 10 with (go_at_call 46; go_loud (refine (HPC.out _).mono ?_; rintro _ wc ⟨rfl, hbb⟩; have HSC := Aside0.mk (HSG.out.below hbb); clear hbb))
      obtain ⟨ss, hss⟩ : ∃ ss, ss = (List.range i).map (fun j => markV l' (blockV s bl j)) := ⟨_, rfl⟩
      rw [← hss] at HSC
      have HSS := Aside0.mk hss
      have HSL : Aside0 (ss.length ≤ 1000000) := ⟨by rw [hss]; simp; omega⟩
      have HPM : Aside0 (p.size ≤ maxLen) := ⟨by unfold maxLen; omega⟩
      clear hss
      have HHL : Aside0 (w.heap.size + 2 ≤ wc.heap.size) := ⟨blk_lt HSC.out.g⟩
      have HWL : Aside0 (ws.length ≤ 1000000) := ⟨by have := HWS.out.1; omega⟩
      go_cut [9] (fun v9 wz => ∃ (v1 : Value), v9 = .int .i64 i ∧ Aside0 (Sg w wz b M l' bl s.size v1 vS (ws ++ [r]) ss))
      case first =>
        obtain ⟨g0, g1, g2, g3⟩ := blk4 HSC.out.g
        go_region_law (first | (go_simp; go_at_call 47; (with_reducible refine (HRC.out _).mono ?_); rintro _ wd ⟨rfl, hbb⟩; have HSD := Aside0.mk (HSC.out.below (below_step (below_drew1 (Below.refl _ _)) hbb.below)); clear hbb; obtain ⟨d0, d1, d2, d3⟩ := blk4 HSD.out.g; have dx2 : ∀ X, (wd.alloc X).cell? ⟨w.heap.size + 1, 2, none⟩ = some vW := fun X => (blk4 (blk_alloc HSD.out.g X)).2.2.1) | (refine Kd.R_append_step (Kd.int .i64) (w0 := wd) (W := wd) (w.heap.size + 2) ?aW (.tmp 35) (.tmp 38) 69 3 (.int .i64 0) 8 ?aO Try.underlying69 info3 (by decide) (by decide) (by decide) vW ws r [.int .i64 r] (fun _ => True) (fun _ => False) ?aS ?aX rfl (fun _ hk => hk.elim) (fun _ _ => trivial) HSD.out.rw_ (Below.refl _ _) (blk_lt HSD.out.g) ?aL ?_; (case aW => rfl); (case aO => rfl); (case aS => rfl); (case aX => rfl); (case aL => have := HWL.out; omega); intro v1 w1 hR1 hB1 hG1 hO1; obtain ⟨A1, c1, hv1⟩ := Kd.R_slice hR1; rw [List.length_append, List.length_singleton] at hv1; subst hv1; have HPUT := Aside0.mk (HSD.out.putW hR1 hG1 hO1); obtain ⟨e0, e1, e2, e3⟩ := blk4 (blk_grown HSD.out.g hG1 (fun e => by have := Kd.R_base HSD.out.rw_ _ e.symm; omega)); obtain ⟨f0, f1, f2, f3⟩ := blk4f (blk_grown HSD.out.g hG1 (fun e => by have := Kd.R_base HSD.out.rw_ _ e.symm; omega)); clear hR1 hB1 hG1 hO1))
        all_goals
          go_wp2_with fail
          go_meet
          case rel => exact ⟨_, rfl, by first | exact HPUT | exact ⟨HPUT.out.below (below_drew1 (Below.refl _ _))⟩⟩
      case rest =>
        obtain ⟨v1, rfl, HSE⟩ := hcut
        go_upto_region 11 with fail
        obtain ⟨g0, g1, g2, g3⟩ := blk4 HSE.out.g
        go_region_law (first | (go_simp; go_at_call 36; (with_reducible refine (mark_calls b M l' p _ (HSE.out.bk.below (below_drew1 (Below.refl _ _))) (by have := HLL.out; have := hi; omega) HPM.out).mono ?_); rintro _ wf ⟨rfl, hbk, hgb⟩; have HSF := Aside0.mk ((HSE.out.below (below_drew1 (Below.refl _ _))).mark hgb hbk); clear hbk hgb; obtain ⟨d0, d1, d2, d3⟩ := blk4 HSF.out.g; have dx3 : ∀ X, (wf.alloc X).cell? ⟨w.heap.size + 1, 3, none⟩ = some vS := fun X => (blk4 (blk_alloc HSF.out.g X)).2.2.2) | (refine Kd.R_append_step Kd.string (w0 := wf) (W := wf) (w.heap.size + 2) ?aW (.tmp 42) (.tmp 46) 36 9 (.string ⟨#[]⟩) 16 ?aO Try.underlying36 info9 (by decide) (by decide) (by decide) vS ss (markV (addT l' p) p) [.string (markV (addT l' p) p)] (fun _ => True) (fun _ => False) ?aS ?aX rfl (fun _ hk => hk.elim) (fun _ _ => trivial) HSF.out.rs (Below.refl _ _) (blk_lt HSF.out.g) ?aL ?_; (case aW => rfl); (case aO => rfl); (case aS => rfl); (case aX => rfl); (case aL => have := HSL.out; omega); intro v1 w1 hR1 hB1 hG1 hO1; obtain ⟨A1, c1, hv1⟩ := Kd.R_slice hR1; rw [List.length_append, List.length_singleton] at hv1; subst hv1; have HPUT := Aside0.mk (HSF.out.putS hR1 hG1 hO1); obtain ⟨e0, e1, e2, e3⟩ := blk4 (blk_grown HSF.out.g hG1 (fun e => by have := Kd.R_base HSF.out.rs _ e.symm; omega)); obtain ⟨f0, f1, f2, f3⟩ := blk4f (blk_grown HSF.out.g hG1 (fun e => by have := Kd.R_base HSF.out.rs _ e.symm; omega)); clear hR1 hB1 hG1 hO1))
        all_goals
          go_wp2_with fail
          go_roundw
          case rel =>
            have hadd := addT_length l' p
            have hll := HLL.out
            refine ⟨i + 1, addT l' p, v1, .slice A1 (ss.length + 1) c1, ws ++ [r], by go_num, by omega, ⟨by omega⟩, ⟨HEX.out.trans (Ext.add _ _)⟩, ⟨?_⟩, ⟨?_⟩, ⟨?_⟩⟩
            · obtain ⟨h1, h2⟩ := HWS.out
              refine ⟨by rw [List.length_append, List.length_singleton, h1], fun x hx => ?_⟩
              rcases List.mem_append.mp hx with hx | hx
              · exact h2 x hx
              · rw [List.mem_singleton.mp hx]; exact HR.out
            · intro j hj
              rcases Nat.lt_or_ge j i with h | h
              · exact addT_keep _ _ _ (HMEM.out j h)
              · obtain rfl : j = i := by omega
                rw [← HP.out]; exact addT_mem _ _
            · have e : (List.range (i + 1)).map (fun j => markV (addT l' p) (blockV s bl j)) = ss ++ [markV (addT l' p) p] := by
                rw [List.range_succ, List.map_append, HSS.out]
                congr 1
                · apply List.map_congr_left
                  intro j hj
                  exact Ext.mark (Ext.add _ _) (HMEM.out j (List.mem_range.mp hj))
                · rw [HP.out]; rfl
              rw [e]; exact (by first | exact HPUT.out | exact HPUT.out.below (below_drew1 (Below.refl _ _)))
          case measure => simp [intOf]; omega
    · have hie : i = nB s.size bl := by omega
      subst hie
      obtain ⟨A1, c1, rfl⟩ := Kd.R_slice HSG.out.rw_
      obtain ⟨A2, c2, hv2⟩ := Kd.R_slice HSG.out.rs
      rw [List.length_map, List.length_range] at hv2
      subst hv2
      obtain ⟨g0, g1, g2, g3⟩ := blk4 HSG.out.g
      obtain ⟨y0, y1, y2, y3⟩ := blk4 HSG.out.z
      obtain ⟨z0, z1, z2, z3⟩ := blk4f HSG.out.z
      go_wp2_with fail
      refine bodyPost_ret (results_ct rfl _ _ w.heap.size 71 #[.int .i64 bl, .int .i64 s.size, .slice A1 ws.length c1, .slice A2 (nB s.size bl) c2] (0, 0) _ rfl ?blk Try.underlying71 rfl (by kernel_rfl)) rfl ⟨l', _, _, ws, rfl, HEX.out, HLL.out, HWS.out, HMEM.out, ?bel⟩
      case blk =>
        refine blk_put (cs := #[.int .i64 bl, .int .i64 s.size, .slice A1 ws.length c1, .slice none 0 0]) ?_ 3 _ rfl
        refine blk_put (cs := #[.int .i64 bl, .int .i64 s.size, .slice none 0 0, .slice none 0 0]) ?_ 2 _ rfl
        refine blk_put (cs := #[.int .i64 bl, .int .i64 0, .slice none 0 0, .slice none 0 0]) ?_ 1 _ rfl
        exact blk_put (cs := #[.int .i64 0, .int .i64 0, .slice none 0 0, .slice none 0 0]) HSG.out.z 0 _ rfl
      case bel =>
        have e : (blocksV s bl).map (markV l') = (List.range (nB s.size bl)).map (fun j => markV l' (blockV s bl j)) := by unfold blocksV; rw [List.map_map]; rfl
        rw [e]
        exact (((HSG.out.done.set 0 _).set 1 _).set 2 _).set 3 _
end Go.Proofs.Ytjgelmfkoefclaa.PAll
