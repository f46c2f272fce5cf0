/- The steps that make a text of the text that was signed. -/
import Derived.BigQuiet
import Derived.Deep.DeepMust
import Derived.Deep.CutBlock
import Derived.RegionTactic
import Derived.IntWalk
import Derived.WalkMore
import Derived.Deep.LoopGhost
import Derived.Test.YtjgelmfkoefclaaRunLaw
import Derived.Test.YtjgelmfkoefclaaGivEnd
import Derived.Test.YtjgelmfkoefclaaGivTable
import Derived.Test.YtjgelmfkoefclaaBase
import Derived.Test.YtjgelmfkoefclaaBasd
namespace Go.Proofs.Ytjgelmfkoefclaa.PAll
open Go.RowKit Go.Proofs.YtjgelmfkoefclaaW.PrintWords Go.Proofs.YtjgelmfkoefclaaW.PrintLast Go.Proofs.YtjgelmfkoefclaaW.PrintMore Go.Proofs.Ytjgelmfkoefclaa.Pure
set_option linter.unusedVariables false
set_option linter.unusedSimpArgs false
attribute [local go_sem] max2_int min2_int max_two min_two

set_option maxHeartbeats 4000000 in
set_option maxRecDepth 100000 in
theorem make_calls (b M : Nat) (l0 : List ByteArray) (bs s : ByteArray) (bl : Nat) (ws : List Int) (vW vS : Value) (base : Nat) (okW okS : Nat → Prop) (w : World) (hW : Kd.R (Kd.int .i64) 3 w base okW vW ws) (hS : Kd.R Kd.string 9 w base okS vS ((blocksV bs bl).map (markV l0))) (h0 : 16 ≤ bl) (h1 : bl ≤ 1024) (hn : bs.size ≤ 524288) (hl : ws.length = nB bs.size bl) (hw : ∀ x ∈ ws, 0 ≤ x ∧ x ≤ 4294967295) (hm : ∀ j, j < nB bs.size bl → blockV bs bl j ∈ l0) (hB : Bk w b M l0) (hll : l0.length + s.size ≤ 9000000) (hs : s.size ≤ 524288) :
    Calls Try.prog 35 #[.pointer (some ⟨b, 0, none⟩), .agg #[.int .i64 bl, .int .i64 bs.size, vW, vS], .string s] w fun e w' => ∃ (v : Value) (st : List S54) (l' : List ByteArray), e = .returned (.tuple #[v, .int .i64 0]) ∧ Kd.R k54 54 w' w.heap.size (fun _ => True) v st ∧ w.grownBy w' (some M) ∧ Bk w' b M l' ∧ Ext l0 l' ∧ l'.length ≤ l0.length + s.size + 1 ∧ (∀ x ∈ st, okB bs.size x) ∧ runL (L8 bs) st = L8 s := by
  have hls : ((blocksV bs bl).map (markV l0)).length = ws.length := by rw [hl, List.length_map]; unfold blocksV; simp
  have hs32 : ∀ x ∈ (blocksV bs bl).map (markV l0), x.size = 32 := fun x hx => by
    obtain ⟨y, _, rfl⟩ := List.mem_map.mp hx
    exact markV_size _ _
  obtain ⟨ss, hss⟩ : ∃ ss, ss = (blocksV bs bl).map (markV l0) := ⟨_, rfl⟩
  rw [← hss] at hS hls hs32
  obtain ⟨W1, hW1⟩ : ∃ W1, W1 = w.alloc (.cells #[.int .i64 bl, .int .i64 bs.size, vW, vS] 71 (0, 0)) := ⟨_, rfl⟩
  have HNT : Aside0 (Calls Try.prog 48 #[.agg #[.int .i64 bl, .int .i64 bs.size, vW, vS]] W1 fun e w' => ∃ T, e = .returned (.tuple #[.pointer (some ⟨T, 0, none⟩), .int .i64 0]) ∧ Below W1.heap.size W1 w' ∧ Tb W1 w' T bl bs.size ws ss (bs.size / bl)) := ⟨by
    rw [hW1]
    exact newtable_calls bl bs.size ws ss vW vS base okW okS _ (Kd.R_alloc hW _) (Kd.R_alloc hS _) h0 h1 hn hl hls hw hs32⟩
  have HZ : Aside0 (W1.heap[w.heap.size]? = some (.cells #[.int .i64 bl, .int .i64 bs.size, vW, vS] 71 (0, 0))) := ⟨by rw [hW1]; exact blk_new _ _⟩
  have HBW : Aside0 (Below w.heap.size w W1) := ⟨by rw [hW1]; exact below_alloc (Below.refl _ _) _⟩
  have HB1 : Aside0 (Bk W1 b M l0) := ⟨hB.below (by rw [hW1]; exact below_alloc (Below.refl _ _) _)⟩
  have HBL : Aside0 (b < w.heap.size ∧ M < w.heap.size) := ⟨hB.ltb, hB.lt⟩
  have HW1 := Aside0.mk hW1
  have HW1S : Aside0 (w.heap.size < W1.heap.size) := ⟨by rw [hW1]; simp⟩
  have HSS := Aside0.mk hss
  have HLS := Aside0.mk hls
  have HWS := Aside0.mk hl
  have HMM := Aside0.mk hm
  have HLL := Aside0.mk hll
  clear hW1 hW hS hls hs32 hss hl hw hm hB hll
  obtain ⟨y0, y1, y2, y3⟩ := blk4 HZ.out
  go_enter Try.func35, Try.ntmps35
  go_upto_region 1 with fail
  rw [← HW1.out]
  go_step3
  go_upto_region 6 with (go_at_call 48; go_loud ((with_reducible refine HNT.out.mono ?_); rintro _ wa ⟨T, rfl, hbb, htb⟩; have HBA := Aside0.mk hbb; have HTB := Aside0.mk htb; have HBKA := Aside0.mk (HB1.out.below hbb); clear hbb htb))
  obtain ⟨W2, hW2⟩ : ∃ W2, W2 = wa.alloc (.cells #[.slice none 0 0, .slice none 0 0] 96 (0, 0)) := ⟨_, rfl⟩
  have HMK : Aside0 (Mk W2 wa.heap.size wa.heap.size (.slice none 0 0) (.slice none 0 0) [] ⟨#[]⟩) := ⟨by rw [hW2]; exact ⟨Nat.le_refl _, blk_new _ _, Kd.R_nil _ _ _ _ _, .inl ⟨rfl, rfl⟩⟩⟩
  have HG2 : Aside0 (wa.grownBy W2 (some M)) := ⟨by rw [hW2]; exact gb_of (below_alloc (Below.refl _ _) _) _⟩
  have HBK2 : Aside0 (Bk W2 b M l0) := ⟨by rw [hW2]; exact HBKA.out.below (below_alloc (Below.refl _ _) _)⟩
  have HMB : Aside0 (M < W1.heap.size ∧ W1.heap.size ≤ wa.heap.size ∧ b < wa.heap.size) := ⟨by have := HBL.out; have := HW1S.out; have := HBA.out.size; omega⟩
  have HBL2 : Aside0 (∀ wx, wa.grownBy wx (some M) → Calls Try.prog 50 #[.pointer (some ⟨T, 0, none⟩)] wx fun e w' => e = .returned (.int .i64 bl) ∧ Drawn0 wx w') := ⟨fun wx hg => tblock_blk HTB.out HMB.out.1 hg⟩
  go_upto_region 7 with fail
  rw [← hW2]
  clear hW2 y0 y1 y2 y3
  by_cases hsh : s.size < bl
  · have HNW := Aside0.mk (fun wx => rnew_short s bl wx h0 h1 hsh)
    go_upto_block 0 with (first | (go_at_call 50; go_loud ((with_reducible refine (HBL2.out _ HG2.out).mono ?_); rintro _ wb ⟨rfl, hdr⟩; have HGB := Aside0.mk (gb_below HG2.out hdr.below); have HBKB := Aside0.mk (HBK2.out.below hdr.below); have HMKB := Aside0.mk (HMK.out.below hdr.below); clear hdr)) | (go_at_call 49; go_loud ((with_reducible refine (HNW.out _).mono ?_); rintro _ wc ⟨rfl, rfl⟩)))
    go_step3
    go_upto_block 0 with fail
    go_cut [11] (fun v11 wz => ∃ (a : Nat) (vs vt : Value) (st : List S54) (tx : ByteArray) (l' : List ByteArray), v11 = .int .i64 a ∧ a ≤ s.size ∧ Aside0 (Mk wz wa.heap.size wa.heap.size vs vt st tx) ∧ Aside0 (wa.grownBy wz (some M)) ∧ Aside0 (Bk wz b M l') ∧ Aside0 (Ext l0 l') ∧ Aside0 (l'.length ≤ l0.length + a) ∧ Aside0 (Jm (L8 bs) (L8 s) st tx a))
    case first =>
      go_wp2_with fail
      go_loopw [11] (fun v11 wr => v11 = .int .i64 ((0 : Nat) : Int) ∧ wb = wr) (fun _ _ => 0)
      case atStart => exact ⟨rfl, rfl⟩
      case round =>
        obtain ⟨rfl, rfl⟩ := hrel
        go_wp2_with fail
        go_meet
        case rel => exact ⟨0, _, _, [], ⟨#[]⟩, l0, rfl, Nat.zero_le _, HMKB, HGB, HBKB, ⟨Ext.refl _⟩, ⟨Nat.le_refl _⟩, ⟨Jm.nil _ _⟩⟩
    case rest =>
      obtain ⟨a, vs, vt, st, tx, l', rfl, ha, HMR, HGR, HBR, HXR, HLR, HJR⟩ := hcut
      have q1 : (0 : Int) ≤ (a : Int) := by omega
      have q2 : (a : Int) ≤ (s.size : Int) := by omega
      have HJB := Aside0.mk HJR.out.bound
      have HEN := Aside0.mk (fun wx (hg : wa.grownBy wx (some M)) (hb : Bk wx b M l') (hk : Mk wx wa.heap.size wa.heap.size vs vt st tx) => mend_calls W1 wa T b M wa.heap.size bl bs.size ws ss (bs.size / bl) l' (s.extract a s.size) vs vt st tx h0 h1 hn HWS.out HLS.out wx HTB.out HMB.out.1 HMB.out.2.1 HMB.out.2.2 hg hb hk (by have := HLR.out; have := HLL.out; omega) (by rw [ByteArray.size_extract]; omega) (by have := HJB.out; omega) (by have := HJB.out; omega))
      go_wp2_with (go_at_call 56; go_loud ((with_reducible refine (HEN.out _ HGR.out HBR.out HMR.out).mono ?_); rintro _ wy ⟨vs', vt', st', l2, rfl, hmk, hg, hb, hx, hl2, he⟩; have HMY := Aside0.mk hmk; have HGY := Aside0.mk hg; have HBY := Aside0.mk hb; have HXY := Aside0.mk (HXR.out.trans hx); have HLY := Aside0.mk hl2; have HEY := Aside0.mk he; clear hmk hg hb hx hl2 he; obtain ⟨A', c', hv'⟩ := Kd.R_slice HMY.out.r; subst hv'; obtain ⟨t0, t1, f0, f1⟩ := blk2 HMY.out.b))
      rw [Exit.noGoto_ret]
      go_ret2
      have hl3 : l2.length ≤ l0.length + s.size + 1 := by have := HLY.out; have := HLR.out; omega
      have hee := HEY.out
      rw [HSS.out] at hee
      obtain ⟨k1, k2⟩ := HJR.out.fin (l0 := l0) (bl := bl) hn (by omega) HWS.out HXY.out HMM.out (by have := HLL.out; omega) hee
      exact ⟨_, st', l2, rfl, Kd.R_lower HMY.out.r (Nat.le_trans (Nat.le_of_lt HW1S.out) HBA.out.size), gb_trans (gb_of (below_step HBW.out HBA.out) (some M)) HGY.out, HBY.out, HXY.out, hl3, k1, k2⟩
  · have HNW := Aside0.mk (fun wx => rnew_calls s bl wx h0 h1 (by omega))
    go_upto_block 0 with (first | (go_at_call 50; go_loud ((with_reducible refine (HBL2.out _ HG2.out).mono ?_); rintro _ wb ⟨rfl, hdr⟩; have HGB := Aside0.mk (gb_below HG2.out hdr.below); have HBKB := Aside0.mk (HBK2.out.below hdr.below); have HMKB := Aside0.mk (HMK.out.below hdr.below); clear hdr)) | (go_at_call 49; go_loud ((with_reducible refine (HNW.out _).mono ?_); rintro _ wc ⟨R, rfl, hrl, hr2, hbb⟩; have HGC := Aside0.mk (gb_below HGB.out hbb); have HBKC := Aside0.mk (HBKB.out.below hbb); have HMKC := Aside0.mk (HMKB.out.below hbb); have HRL := Aside0.mk hrl; have HR2 := Aside0.mk hr2; clear hbb hrl hr2)))
    go_step3
    go_upto_block 0 with fail
    have HWC : Aside0 (wa.heap.size ≤ wc.heap.size) := ⟨HGC.out.size⟩
    have HBLC : Aside0 (∀ wx, wa.grownBy wx (some M) → Calls Try.prog 50 #[.pointer (some ⟨T, 0, none⟩)] wx fun e w' => e = .returned (.int .i64 bl) ∧ Drawn0 wx w') := HBL2
    go_cut [11] (fun v11 wz => ∃ (a : Nat) (vs vt : Value) (st : List S54) (tx : ByteArray) (l' : List ByteArray), v11 = .int .i64 a ∧ a ≤ s.size ∧ Aside0 (Mk wz wa.heap.size wa.heap.size vs vt st tx) ∧ Aside0 (wa.grownBy wz (some M)) ∧ Aside0 (Bk wz b M l') ∧ Aside0 (Ext l0 l') ∧ Aside0 (l'.length ≤ l0.length + a) ∧ Aside0 (Jm (L8 bs) (L8 s) st tx a))
    case first =>
      go_wp2_with fail
      go_loopw [11, 12] (fun v11 v12 wr => ∃ (a : Nat) (wn : Int) (vs vt : Value) (st : List S54) (tx : ByteArray) (l' : List ByteArray), v11 = .int .i64 a ∧ v12 = .int .i64 wn ∧ a + bl ≤ s.size ∧ Aside0 (Rl wr R s bl a) ∧ Aside0 (Mk wr wa.heap.size wa.heap.size vs vt st tx) ∧ Aside0 (wa.grownBy wr (some M)) ∧ Aside0 (Bk wr b M l') ∧ Aside0 (Ext l0 l') ∧ Aside0 (l'.length ≤ l0.length + a) ∧ Aside0 (Jm (L8 bs) (L8 s) st tx a)) (fun v11 _ _ => s.size + 1 - (intOf v11).toNat)
      case atStart => exact ⟨0, 0, _, _, [], ⟨#[]⟩, l0, rfl, rfl, by omega, HRL, HMKC, HGC, HBKC, ⟨Ext.refl _⟩, ⟨Nat.le_refl _⟩, ⟨Jm.nil _ _⟩⟩
      case round =>
        obtain ⟨a, wn, vs, vt, st, tx, l', rfl, rfl, hab, HRR, HMR, HGR, HBR, HXR, HLR, HJR⟩ := hrel
        have HSM := Aside0.mk (fun wx (h : Rl wx R s bl a) => rsum_calls R s bl a wx h)
        have q1 : (0 : Int) ≤ (a : Int) := by omega
        have q2 : (a : Int) ≤ (a : Int) + (bl : Int) := by omega
        have q3 : (a : Int) + (bl : Int) ≤ (s.size : Int) := by omega
        obtain ⟨p, hp⟩ : ∃ p, p = s.extract a (a + bl) := ⟨_, rfl⟩
        have hps : p.size = bl := by rw [hp, ByteArray.size_extract]; omega
        have HP := Aside0.mk hp
        have hsl : ∀ W, (Instr.slice 9 (.string s) (some (.int .i64 (a : Int))) (some (.int .i64 ((a : Int) + (bl : Int)))) none).run Try.prog W = .ok (.string p) W := fun W => by
          rw [hp, run_slice_string W 9 s .i64 .i64 (a : Int) ((a : Int) + (bl : Int)) Try.underlying9 q1 q2 q3]
          congr 2
        have HSL := Aside0.mk hsl
        have HPS := Aside0.mk hps
        clear hsl q1 q2 q3 hp hps
        go_wp2_with (first | (go_at_call 52; go_loud ((with_reducible refine (HSM.out _ HRR.out).mono ?_); rintro _ wd ⟨⟨r, rfl⟩, ⟨nd, hnd⟩⟩; have HBD := Aside0.mk (show Below wr.heap.size wr wd by rw [hnd]; exact pw_below_drewN (Below.refl _ _) _); clear hnd; have HGD := Aside0.mk (gb_below HGR.out HBD.out))) | (go_at_call 50; go_loud ((with_reducible refine (HBLC.out _ HGD.out).mono ?_); rintro _ wf ⟨rfl, hdr⟩; have HBF := Aside0.mk (below_step HBD.out hdr.below); clear hdr)))
        have hsl := HSL.out wf
        simp only [hsl]
        clear hsl
        have HGF := Aside0.mk (gb_below HGR.out HBF.out)
        have HNB : Aside0 (bs.size / bl ≤ ss.length ∧ ss.length ≤ 1000000) := ⟨by
          rw [HLS.out, HWS.out]
          have h2 : bs.size / bl ≤ nB bs.size bl := by unfold nB; exact Nat.div_le_div_right (by omega)
          have := nB_le bs.size bl (by omega)
          exact ⟨h2, by omega⟩⟩
        have HMT := Aside0.mk (match_calls W1 T b M bl bs.size ws ss (bs.size / bl) HNB.out.1 HNB.out.2 r wn l' p HPS.out (by rw [HPS.out]; unfold maxLen; omega) wf (HTB.out.mark HGF.out HMB.out.1) (HBR.out.below HBF.out) HMB.out.1 (by have := HLR.out; have := HLL.out; omega) (by have := HGF.out.size; have := HMB.out; omega))
        go_upto_region 11 with (go_at_call 51; go_loud ((with_reducible refine HMT.out.mono ?_); rintro _ wg ⟨r2, l2, rfl, hx2, hl2, hb2, hg2, hr2⟩; have HX2 := Aside0.mk (HXR.out.trans hx2); have HL2 := Aside0.mk hl2; have HB2 := Aside0.mk hb2; have HG2' := Aside0.mk (gb_trans HGF.out hg2); have HRR2 := Aside0.mk hr2; have HM2 := Aside0.mk ((HMR.out.below HBF.out).gbM hg2 (by have := HMB.out; omega)); have HRW : Aside0 (Rl wg R s bl a) := ⟨by obtain ⟨e1, c1, c2, e2⟩ := HRR.out; exact ⟨e1, c1, c2, blk_gb hg2 (blk_below e2 HBF.out) (by have := HR2.out; have := HGB.out.size; have := HMB.out; omega)⟩⟩; clear hx2 hl2 hb2 hg2 hr2))
        rcases HRR2.out with h | ⟨i, h, hi, hri, hpi⟩
        · subst h
          obtain ⟨A1, c1, hv1, hc1⟩ := HM2.out.t.slice
          subst hv1
          obtain ⟨t0, t1, f0, f1⟩ := blk2 HM2.out.b
          have q1 : (0 : Int) ≤ (a : Int) := by omega
          have q2 : (a : Int) < (s.size : Int) := by omega
          have q3 : a < s.size := by omega
          have HMD := Aside0.mk (HM2.out.below (below_drew1 (Below.refl _ _)))
          clear t0
          go_upto_region 12 with fail
          refine wp_region_held_tail 8 2 (fun w' => w'.cell? ⟨wa.heap.size, 1, none⟩ = some (.slice A1 tx.size c1)) (by kernel_rfl) (by kernel_rfl) (by intro d c v a w; cases d <;> exact fun h => h) t1 ?_
          simp only [List.take_succ_cons, List.take_zero, List.drop_succ_cons, List.drop_zero]
          repeat (refine wpHeld_step (v := ?_) (by rfl) ?_ ?_; rotate_left; (· intro wS hSw; (go_simp <;> with_reducible rfl)); (simp only [Act.put, List.setIfInBounds_toArray, List.set_cons_zero, List.set_cons_succ]))
          refine wpHeld_nil ?_
          refine wpListS_step (fun K hK => ?_)
          go_simp
          have HMA : Aside0 (Mk (wg.alloc (Obj.cells #[Value.int IntKind.u8 (s[a].toNat : Int)] 5)).drew wa.heap.size wa.heap.size vs (.slice A1 tx.size c1) st tx) := ⟨HM2.out.below (below_drew1 (below_alloc (Below.refl _ _) _))⟩
          have HGA := Aside0.mk (gb_below HG2'.out (below_drew1 (below_alloc (Below.refl wg.heap.size wg) (Obj.cells #[Value.int IntKind.u8 (s[a].toNat : Int)] 5))))
          have HBA2 := Aside0.mk (HB2.out.below (below_drew1 (below_alloc (Below.refl wg.heap.size wg) (Obj.cells #[Value.int IntKind.u8 (s[a].toNat : Int)] 5))))
          have HRA : Aside0 (Rl (wg.alloc (Obj.cells #[Value.int IntKind.u8 (s[a].toNat : Int)] 5)).drew R s bl a) := ⟨by obtain ⟨e1, c1, c2, e2⟩ := HRW.out; exact ⟨e1, c1, c2, blk_below e2 (below_drew1 (below_alloc (Below.refl _ _) _))⟩⟩
          refine hK.out _ _ (blk2 HMA.out.b).2.1 ?_
          clear hK K
          refine wpListS_step (fun K hK => ?_)
          refine step_append_tx _ wa.heap.size ?aW (.tmp 56) (.tmp 60) 77 77 5 ?aO Try.underlying77 info5 (.slice A1 tx.size c1) tx ?aS HMA.out.t (.slice (some ⟨wg.heap.size, 0, none⟩) 1 1) (b1 s[a]) ?aX (src_byte wg.drew Try.underlying77 s[a]) ?aL HGA.out.size ?_
          case aW => rfl
          case aO => rfl
          case aS => rfl
          case aX => rfl
          case aL => have := HJR.out.bound; show tx.size + 1 ≤ _; omega
          intro v1 wd1 hT1 hG1 hO1
          obtain ⟨ty, hty⟩ : ∃ ty, ty = tx ++ b1 s[a] := ⟨_, rfl⟩
          rw [← hty] at hT1
          have HTY := Aside0.mk hty
          clear hty
          obtain ⟨A2, c2, hv2, hc2⟩ := hT1.slice
          subst hv2
          have HPT := Aside0.mk (HMA.out.putT hT1 hG1)
          obtain ⟨e0, e1, e2, e3⟩ := blk2 (blk_grown HMA.out.b hG1 (fun e => HMA.out.t.ne HMA.out.b (by decide) wa.heap.size e.symm rfl))
          refine hK.out _ _ e1 ?_
          have HGD1 := Aside0.mk (gb_fm HGA.out HPT.out.2)
          have HBD1 := Aside0.mk (HBA2.out.fm HPT.out.2 HMB.out.2.2 (by have := HMB.out; omega))
          have HRD1 : Aside0 (Rl (wd1.setCell ⟨wa.heap.size, 1, none⟩ (.slice A2 ty.size c2)) R s bl a) := ⟨by obtain ⟨e1, c1, c2, e2⟩ := HRA.out; exact ⟨e1, c1, c2, HPT.out.2.win _ _ e2⟩⟩
          have HJN : Aside0 (Jm (L8 bs) (L8 s) st ty (a + 1)) := ⟨by rw [HTY.out]; exact HJR.out.byte (by omega)⟩
          clear hT1 hG1 hO1 hK K t1 f0 f1
          refine wpListS_zero ?_
          by_cases hend : a + bl = s.size
          · as_aux_lemma =>
              have HNX := Aside0.mk (fun wx (h : Rl wx R s bl a) => rnext_end R s bl a wx h h0 h1 (by omega) hend)
              clear hend
              go_wp2_with (go_at_call 53; go_loud ((with_reducible refine (HNX.out _ HRD1.out).mono ?_); rintro _ we ⟨rfl, ⟨ne, hne⟩⟩; have HBE : Aside0 (Below (wd1.setCell ⟨wa.heap.size, 1, none⟩ (.slice A2 ty.size c2)).heap.size (wd1.setCell ⟨wa.heap.size, 1, none⟩ (.slice A2 ty.size c2)) we) := ⟨by rw [hne]; exact pw_below_drewN (Below.refl _ _) _⟩; clear hne))
              go_meet
              case rel => exact ⟨a + 1, vs, _, st, ty, l2, by go_num, by omega, ⟨HPT.out.1.below HBE.out⟩, ⟨gb_below HGD1.out HBE.out⟩, ⟨HBD1.out.below HBE.out⟩, HX2, ⟨by have := HL2.out; have := HLR.out; omega⟩, HJN⟩
          · as_aux_lemma =>
              have HNX := Aside0.mk (fun wx (h : Rl wx R s bl a) => rnext_calls R s bl a wx h h0 h1 (by omega) (by omega))
              go_wp2_with (go_at_call 53; go_loud ((with_reducible refine (HNX.out _ HRD1.out).mono ?_); rintro _ we ⟨rfl, hrl, hgr⟩; have HRE := Aside0.mk hrl; have HGE := Aside0.mk hgr; clear hrl hgr))
              go_roundw
              case rel =>
                have hRw : wa.heap.size ≤ R := by have := HR2.out; have := HGB.out.size; omega
                have hRb := HRD1.out
                obtain ⟨_, _, _, hRb⟩ := hRb
                refine ⟨a + 1, wn, vs, _, st, ty, l2, by go_num, rfl, by omega, HRE, ⟨HPT.out.1.gbR HGE.out hRb⟩, ⟨gb_own HGD1.out HGE.out (fun g hg => by injection hg with hg; omega)⟩, ⟨HBD1.out.grown HGE.out (fun e => by injection e with e; have := HMB.out; omega) (fun e => by injection e with e; have := HMB.out; omega)⟩, HX2, ⟨by have := HL2.out; have := HLR.out; omega⟩, HJN⟩
              case measure => simp [intOf]; omega
        · subst h
          have HIB := Aside0.mk (block_full hi (by omega))
          have hpb := match_block (l0 := l0) (l' := l2) (p := p) HX2.out HMM.out HIB.out.1 (by rw [← HSS.out]; exact hri) hpi (by have := HL2.out; have := HLR.out; have := HLL.out; omega)
          obtain ⟨ib, hib⟩ : ∃ ib : Nat, ib = i * bl := ⟨_, rfl⟩
          have hmul : (i : Int) * (bl : Int) = (ib : Int) := by rw [hib, Int.natCast_mul]
          have hib2 : ib + bl ≤ bs.size := by rw [hib]; exact HIB.out.2.1
          have HJN : Aside0 (Jm (L8 bs) (L8 s) (copyD (st ++ flushN tx.size tx) ib bl) ⟨#[]⟩ (a + bl)) := ⟨by
            refine HJR.out.copy (by rw [L8_len]; exact hn) ib bl (by omega) (by rw [L8_len]; exact hib2) (by rw [L8_len]; exact hab) ?_
            rw [hib, ← HIB.out.2.2, ← hpb, HP.out, L8_ext, Nat.add_sub_cancel_left]⟩
          have HI : Aside0 (Mq wa wg b M R s bl a vs vt st tx l2) := ⟨⟨HM2.out, HG2'.out, HB2.out, HRW.out⟩⟩
          have HBD2 : Aside0 (st.length + tx.size ≤ 4000000) := ⟨by have := HJR.out.bound; omega⟩
          have hil : i ≤ 524288 := by have := nB_le bs.size bl (by omega); have := HIB.out.1; omega
          have hrb : decide ((i : Int) < 0) = false := decide_eq_false (by omega)
          have HIBE := Aside0.mk hib
          clear hri hpi hpb hib hi HRW HM2 HG2' HB2
          by_cases hend : s.size < a + bl + bl
          · as_aux_lemma =>
              have HSK := Aside0.mk (fun wx (h : Rl wx R s bl a) => (rskip_end R s bl a wx h h0 h1 (by omega) hend).mono (fun e w' hh => (⟨hh.1, by obtain ⟨n, rfl⟩ := hh.2; exact pw_below_drewN (Below.refl _ _) _⟩ : e = .returned (.bool false) ∧ Below wx.heap.size wx w')))
              clear hend
              go_wp2_with (first | (go_at_call 50; go_loud ((with_reducible refine (HBLC.out _ HI.out.gb).mono ?_); rintro _ wy ⟨rfl, hdr⟩; have HI' := Aside0.mk (HI.out.below hdr.below); clear hdr HI; have HI := HI'; clear HI')) | (go_at_call 54; go_loud ((with_reducible refine (mcopy_calls wa.heap.size wa.heap.size vs vt st tx ib bl _ HI.out.mm HI.out.gb.size HBD2.out).mono ?_); rintro _ wy ⟨vs', vt', rfl, hmk, hfm⟩; have HI' := Aside0.mk (HI.out.fm hfm hmk HMB.out.2.2 (by have := HMB.out; omega)); clear hmk hfm HI; have HI := HI'; clear HI')) | (go_at_call 55; go_loud ((with_reducible refine (HSK.out _ HI.out.rl).mono ?_); rintro _ wy ⟨rfl, hbb⟩; have HI' := Aside0.mk (HI.out.below hbb); clear hbb; clear HI; have HI := HI'; clear HI')))
              go_meet
              case rel => exact ⟨a + bl, _, _, _, _, l2, by go_num, hab, ⟨HI.out.mm⟩, ⟨HI.out.gb⟩, ⟨HI.out.bk⟩, HX2, ⟨by have := HL2.out; have := HLR.out; omega⟩, HJN⟩
          · as_aux_lemma =>
              have HSK := Aside0.mk (fun wx (h : Rl wx R s bl a) => rskip_calls R s bl a wx h h0 h1 (by omega) (by omega))
              have HRW : Aside0 (wa.heap.size ≤ R) := ⟨by have := HR2.out; have := HGB.out.size; omega⟩
              go_wp2_with (first | (go_at_call 50; go_loud ((with_reducible refine (HBLC.out _ HI.out.gb).mono ?_); rintro _ wy ⟨rfl, hdr⟩; have HI' := Aside0.mk (HI.out.below hdr.below); clear hdr HI; have HI := HI'; clear HI')) | (go_at_call 54; go_loud ((with_reducible refine (mcopy_calls wa.heap.size wa.heap.size vs vt st tx ib bl _ HI.out.mm HI.out.gb.size HBD2.out).mono ?_); rintro _ wy ⟨vs', vt', rfl, hmk, hfm⟩; have HI' := Aside0.mk (HI.out.fm hfm hmk HMB.out.2.2 (by have := HMB.out; omega)); clear hmk hfm HI; have HI := HI'; clear HI')) | (go_at_call 55; go_loud ((with_reducible refine (HSK.out _ HI.out.rl).mono ?_); rintro _ wy ⟨rfl, hrl, hgr⟩; have HI' := Aside0.mk (HI.out.gbR hgr hrl HRW.out HMB.out.2.2 (by have := HMB.out; omega)); clear hgr hrl; clear HI; have HI := HI'; clear HI')))
              go_roundw
              case rel => exact ⟨a + bl, (i : Int) + 1, _, _, _, _, l2, by go_num, rfl, by omega, ⟨HI.out.rl⟩, ⟨HI.out.mm⟩, ⟨HI.out.gb⟩, ⟨HI.out.bk⟩, HX2, ⟨by have := HL2.out; have := HLR.out; omega⟩, HJN⟩
              case measure => simp [intOf]; omega
    case rest =>
      obtain ⟨a, vs, vt, st, tx, l', rfl, ha, HMR, HGR, HBR, HXR, HLR, HJR⟩ := hcut
      have q1 : (0 : Int) ≤ (a : Int) := by omega
      have q2 : (a : Int) ≤ (s.size : Int) := by omega
      have HJB := Aside0.mk HJR.out.bound
      have HEN := Aside0.mk (fun wx (hg : wa.grownBy wx (some M)) (hb : Bk wx b M l') (hk : Mk wx wa.heap.size wa.heap.size vs vt st tx) => mend_calls W1 wa T b M wa.heap.size bl bs.size ws ss (bs.size / bl) l' (s.extract a s.size) vs vt st tx h0 h1 hn HWS.out HLS.out wx HTB.out HMB.out.1 HMB.out.2.1 HMB.out.2.2 hg hb hk (by have := HLR.out; have := HLL.out; omega) (by rw [ByteArray.size_extract]; omega) (by have := HJB.out; omega) (by have := HJB.out; omega))
      go_wp2_with (go_at_call 56; go_loud ((with_reducible refine (HEN.out _ HGR.out HBR.out HMR.out).mono ?_); rintro _ wy ⟨vs', vt', st', l2, rfl, hmk, hg, hb, hx, hl2, he⟩; have HMY := Aside0.mk hmk; have HGY := Aside0.mk hg; have HBY := Aside0.mk hb; have HXY := Aside0.mk (HXR.out.trans hx); have HLY := Aside0.mk hl2; have HEY := Aside0.mk he; clear hmk hg hb hx hl2 he; obtain ⟨A', c', hv'⟩ := Kd.R_slice HMY.out.r; subst hv'; obtain ⟨t0, t1, f0, f1⟩ := blk2 HMY.out.b))
      rw [Exit.noGoto_ret]
      go_ret2
      have hl3 : l2.length ≤ l0.length + s.size + 1 := by have := HLY.out; have := HLR.out; omega
      have hee := HEY.out
      rw [HSS.out] at hee
      obtain ⟨k1, k2⟩ := HJR.out.fin (l0 := l0) (bl := bl) hn (by omega) HWS.out HXY.out HMM.out (by have := HLL.out; omega) hee
      exact ⟨_, st', l2, rfl, Kd.R_lower HMY.out.r (Nat.le_trans (Nat.le_of_lt HW1S.out) HBA.out.size), gb_trans (gb_of (below_step HBW.out HBA.out) (some M)) HGY.out, HBY.out, HXY.out, hl3, k1, k2⟩
end Go.Proofs.Ytjgelmfkoefclaa.PAll
