/- A table is asked. -/
import Derived.BigQuiet
import Derived.Deep.DeepMust
import Derived.RegionTactic
import Derived.Deep.RegionHeld3
import Derived.Deep.RegionLaw
import Derived.Deep.CutBlock
import Derived.Test.YtjgelmfkoefclaaGivMarks
import Derived.Test.YtjgelmfkoefclaaBasf
namespace Go.Proofs.Ytjgelmfkoefclaa.PAll
open Go.RowKit Go.Proofs.YtjgelmfkoefclaaW.PrintWords Go.Proofs.YtjgelmfkoefclaaW.PrintLast Go.Proofs.YtjgelmfkoefclaaW.PrintMore
set_option linter.unusedVariables false
set_option linter.unusedSimpArgs false

set_option maxHeartbeats 2000000 in
set_option maxRecDepth 100000 in
theorem tsize_calls (w0 : World) (T : Nat) (bl n : Int) (ws : List Int) (ss : List ByteArray) (nb : Nat) (w : World) (hT : Tb w0 w T bl n ws ss nb) :
    Calls Try.prog 72 #[.pointer (some ⟨T, 0, none⟩)] w fun e w' => e = .returned (.int .i64 n) ∧ Drawn0 w w' := by
  obtain ⟨_, vW, vS, A, c, vk, ks, h1, _⟩ := hT
  obtain ⟨t0, t1, t2, t3, t4, t5⟩ := blk6 h1
  clear h1
  go_enter Try.func72, Try.ntmps72
  go_wp2_with fail
  go_ret
  exact ⟨rfl, Drawn0.refl _⟩

set_option maxHeartbeats 2000000 in
set_option maxRecDepth 100000 in
theorem tblock_calls (w0 : World) (T : Nat) (bl n : Int) (ws : List Int) (ss : List ByteArray) (nb : Nat) (w : World) (hT : Tb w0 w T bl n ws ss nb) :
    Calls Try.prog 50 #[.pointer (some ⟨T, 0, none⟩)] w fun e w' => e = .returned (.int .i64 bl) ∧ Drawn0 w w' := by
  obtain ⟨_, vW, vS, A, c, vk, ks, h1, _⟩ := hT
  obtain ⟨t0, t1, t2, t3, t4, t5⟩ := blk6 h1
  clear h1
  go_enter Try.func50, Try.ntmps50
  go_wp2_with fail
  go_ret
  exact ⟨rfl, Drawn0.refl _⟩

set_option maxHeartbeats 4000000 in
set_option maxRecDepth 100000 in
theorem find_calls (w0 : World) (T : Nat) (bl n : Int) (ws : List Int) (ss : List ByteArray) (nb : Nat) (hnb : nb ≤ 1000000) (weak : Int) (w : World) (hT : Tb w0 w T bl n ws ss nb) :
    Calls Try.prog 70 #[.pointer (some ⟨T, 0, none⟩), .int .i64 weak] w fun e w' => ∃ v xs, e = .returned v ∧ Kd.R (Kd.int .i64) 3 w' w.heap.size (fun _ => True) v xs ∧ (∀ x ∈ xs, 0 ≤ x ∧ x < nb) ∧ xs.length ≤ nb ∧ Below w.heap.size w w' := by
  have HTB := Aside0.mk hT
  obtain ⟨_, vW, vS, A, c, vk, ks, h1, _, _, h4, h5, h6⟩ := hT
  obtain ⟨Ak, ck, hvk, hck, hCk⟩ := Kd.R_reads h4
  subst hvk
  obtain ⟨p, pb, hp, hpl⟩ := bs_f ks weak (by omega)
  have HBS := Aside0.mk (slices_BinarySearch_int_int.calls 1000001 Ak ck ks weak p pb w hCk hck hp)
  rw [h5] at HBS hpl h1
  have H1 := Aside0.mk h1
  have H4 := Aside0.mk h4
  have H5 := Aside0.mk h5
  have H6 := Aside0.mk h6
  obtain ⟨t0, t1, t2, t3, t4, t5⟩ := blk6 h1
  clear h1 h4 h5 h6 hck hCk hp
  go_enter Try.func70, Try.ntmps70
  go_wp2_with (go_at_call 78; go_loud ((with_reducible refine HBS.out.mono ?_); rintro _ wa ⟨rfl, hdr⟩; have HDR := Aside0.mk hdr.below; clear hdr))
  go_loopw [5, 7] (fun v5 v7 wr => ∃ (i : Nat) (vo : Value) (xs : List Int), v5 = .int .i64 i ∧ vo = v7 ∧ i ≤ nb ∧ Aside0 (Below w.heap.size w wr) ∧ Aside0 (Kd.R (Kd.int .i64) 3 wr w.heap.size (fun _ => True) vo xs) ∧ Aside0 ((∀ x ∈ xs, 0 ≤ x ∧ x < nb) ∧ xs.length ≤ i)) (fun v5 _ _ => nb - (intOf v5).toNat)
  case atStart => exact ⟨p, _, [], rfl, rfl, hpl, HDR, ⟨Kd.R_nil _ _ _ _ _⟩, ⟨fun x hx => (by cases hx), Nat.zero_le _⟩⟩
  case round =>
    obtain ⟨i, vo, xs, rfl, rfl, hi, HB, HR, HX⟩ := hrel
    obtain ⟨s0, s1, s2, s3, s4, s5⟩ := blk6 (blk_below H1.out HB.out)
    clear t0 t1 t2 t3 t4 t5
    obtain ⟨Ao, co, hvo⟩ := Kd.R_slice HR.out
    by_cases hlt : i < nb
    · have hb1 : decide (i < nb) = true := decide_eq_true hlt
      obtain ⟨qk, cq, hk1, _, hk3, _⟩ := Kd.R_form H4.out (by have := H5.out; omega)
      injection hk1 with hk1 hk1b hk1c
      obtain ⟨q, hq1, hq2, hq3⟩ := H6.out (by omega)
      subst hk1 hq1
      obtain ⟨hkc, _⟩ := Kd.R_celln (enc := Value.int .i64) (h1 := fun _ => rfl) (0 : Int) (Kd.R_below H4.out HB.out) (i : Int) (by omega) (by have := H5.out; omega)
      rw [Int.toNat_natCast] at hkc
      obtain ⟨y, hy⟩ : ∃ y, y = rdOf (0 : Int) ks (i : Int) := ⟨_, rfl⟩
      rw [← hy] at hkc
      obtain ⟨x, hx, px, fx⟩ := (hq3.below (hq3.lt (by omega)) HB.out).at i hlt
      have HPX := Aside0.mk px
      have q1 : (0 : Int) ≤ (i : Int) := by omega
      have q2 : (i : Int) < (nb : Int) := by omega
      clear hk1b hk1c hk3 hy hq2 hq3 fx px
      subst hvo
      by_cases hyw : y = weak
      · as_aux_lemma =>
          have hyb : (y == weak) = true := beq_iff_eq.mpr hyw
          subst hyw
          go_wp2_with ((with_reducible refine gate_builtin (b := .append) (xs := #[.tmp 39, .tmp 47]) rfl ?_); at_builtin; go_loud (refine Kd.R_append (Kd.int .i64) (w0 := w) (W := wr) w.heap.size rfl (.tmp 39) (.tmp 47) 69 3 (.int .i64 0) 8 rfl Try.underlying69 info3 (by decide) (by decide) (by decide) (.slice Ao xs.length co) xs x [.int .i64 x] (fun _ => True) (fun _ => False) rfl rfl rfl (fun _ hk => hk.elim) (fun _ _ => trivial) HR.out HB.out HB.out.size ?aL ?_; (case aL => have := HX.out.2; omega); intro v1 w1 hR1 hB1 hG1 hO1; have HR1 := Aside0.mk hR1; have HB1 := Aside0.mk hB1; clear hR1 hB1 hG1 hO1))
          go_roundw
          case rel =>
            refine ⟨i + 1, v1, xs ++ [x], by go_num, rfl, by omega, HB1, HR1, ⟨fun z hz => ?_, by rw [List.length_append, List.length_singleton]; have := HX.out.2; omega⟩⟩
            rcases List.mem_append.mp hz with hz | hz
            · exact HX.out.1 z hz
            · rw [List.mem_singleton.mp hz]; exact HPX.out
          case measure => simp [intOf]; omega
      · as_aux_lemma =>
          have hyb : (y == weak) = false := beq_eq_false_iff_ne.mpr hyw
          go_wp2_with fail
          go_ret
          exact ⟨_, xs, rfl, HR.out, HX.out.1, Nat.le_trans HX.out.2 hi, HB.out⟩
    · as_aux_lemma =>
        have hb1 : decide (i < nb) = false := decide_eq_false hlt
        go_wp2_with fail
        go_ret
        exact ⟨_, xs, rfl, HR.out, HX.out.1, Nat.le_trans HX.out.2 hi, HB.out⟩

set_option maxHeartbeats 4000000 in
set_option maxRecDepth 100000 in
theorem match_calls (w0 : World) (T b M : Nat) (bl n : Nat) (ws : List Int) (ss : List ByteArray) (nb : Nat) (hnb : nb ≤ ss.length) (hns : ss.length ≤ 1000000) (weak wanted : Int) (l : List ByteArray) (s : ByteArray) (hs : s.size = bl) (hsz : s.size ≤ maxLen) (w : World) (hT : Tb w0 w T bl n ws ss nb) (hb : Bk w b M l) (hM : M < w0.heap.size) (hl : l.length < 10000000) (hw0 : w0.heap.size ≤ w.heap.size) :
    Calls Try.prog 51 #[.pointer (some ⟨T, 0, none⟩), .pointer (some ⟨b, 0, none⟩), .int .i64 weak, .string s, .int .i64 wanted] w fun e w' => ∃ (r : Int) (l' : List ByteArray), e = .returned (.int .i64 r) ∧ Ext l l' ∧ l'.length ≤ l.length + 1 ∧ Bk w' b M l' ∧ w.grownBy w' (some M) ∧ (r = -1 ∨ ∃ i : Nat, r = (i : Int) ∧ i < nb ∧ rdOf ByteArray.empty ss (i : Int) = markV l' s ∧ s ∈ l') := by
  have HTB := Aside0.mk hT
  have HFC := Aside0.mk (find_calls w0 T bl n ws ss nb (by omega) weak w hT)
  have HBK := Aside0.mk hb
  have HL := Aside0.mk hl
  have HSB := Aside0.mk hs
  have HMW : Aside0 (M < w.heap.size) := ⟨by omega⟩
  have hsb : ((s.size : Int) != (bl : Int)) = false := bne_eq_false_iff_eq.mpr (by omega)
  clear hT hb hl hs
  go_enter Try.func51, Try.ntmps51
  go_upto_region 2 with (go_at_call 70; go_loud ((with_reducible refine HFC.out.mono ?_); rintro _ wa ⟨vf, xs, rfl, hr, hx, hxl, hbb⟩; have HRA := Aside0.mk hr; have HX := Aside0.mk hx; have HBA := Aside0.mk hbb; obtain ⟨Af, cf, hvf⟩ := Kd.R_slice hr; subst hvf; clear hr hx hbb))
  have HTA := Aside0.mk (HTB.out.below HBA.out)
  obtain ⟨_, vW, vS, A, c, vk, ks, h1, _, h3, _⟩ := HTA.out
  obtain ⟨t0, t1, t2, t3, t4, t5⟩ := blk6 h1
  have H1 := Aside0.mk h1
  have H3 := Aside0.mk h3
  clear h1 h3
  by_cases hx0 : xs.length = 0
  · as_aux_lemma =>
      have hxb : ((xs.length : Int) == 0) = true := beq_iff_eq.mpr (by omega)
      go_wp2_with fail
      go_ret
      exact ⟨-1, l, rfl, Ext.refl _, by omega, HBK.out.below HBA.out, gb_of HBA.out _, .inl rfl⟩
  · as_aux_lemma =>
      have hxb : ((xs.length : Int) == 0) = false := beq_eq_false_iff_ne.mpr (by omega)
      have HMK := Aside0.mk (mark_calls b M l s wa (HBK.out.below HBA.out) HL.out hsz)
      go_upto_region 5 with (go_at_call 36; go_loud ((with_reducible refine HMK.out.mono ?_); rintro _ wc ⟨rfl, hbk, hgb⟩; have HBC := Aside0.mk hbk; have HGC := Aside0.mk hgb; clear hbk hgb))
      have HGM := Aside0.mk (gb_trans (gb_of HBA.out (some M)) HGC.out)
      have H1C := Aside0.mk (blk_gb HGC.out H1.out (by have := HTB.out.ge; omega))
      have H3C := Aside0.mk (Kd.R_grown2 H3.out rfl HGC.out (fun k hk e => by injection hk with hk; have := Kd.R_base H3.out k e.symm; omega))
      have HRC := Aside0.mk (Kd.R_grown2 HRA.out rfl HGC.out (fun k hk e => by injection hk with hk; have := Kd.R_base HRA.out k e.symm; have := HMW.out; omega))
      have HSL : Aside0 (s ∈ addT l s) := ⟨addT_mem _ _⟩
      obtain ⟨mk, hmk⟩ : ∃ mk, mk = markV (addT l s) s := ⟨_, rfl⟩
      rw [← hmk]
      have HMV := Aside0.mk hmk
      clear hmk t0 t1 t2 t3 t4 t5 HMK HFC
      obtain ⟨t0, t1, t2, t3, t4, t5⟩ := blk6 H1C.out
      obtain ⟨As, cs, hvs⟩ := Kd.R_slice H3C.out
      subst hvs
      obtain ⟨qx, cx, hx1, _, hx3, _⟩ := Kd.R_form HRC.out (by omega)
      injection hx1 with hx1 hx1b hx1c
      subst hx1
      clear hx1b hx1c hx3
      go_wp2_with fail
      go_loopw [41, 13, 15] (fun v41 v13 _ wr => ∃ (j : Nat) (f : Int), v41 = .int .i64 j ∧ v13 = .int .i64 f ∧ j ≤ xs.length ∧ wc = wr ∧ Aside0 (f = -1 ∨ ∃ i : Nat, f = (i : Int) ∧ i < nb ∧ rdOf ByteArray.empty ss (i : Int) = mk)) (fun v41 _ _ _ => xs.length - (intOf v41).toNat)
      case atStart => exact ⟨0, -1, rfl, rfl, Nat.zero_le _, rfl, ⟨.inl rfl⟩⟩
      case round =>
        obtain ⟨j, f, rfl, rfl, hj, rfl, HF⟩ := hrel
        by_cases hlt : j < xs.length
        · have hb1 : decide (j < xs.length) = true := decide_eq_true hlt
          have q1 : (j : Int) < (xs.length : Int) := by omega
          obtain ⟨hxc, _⟩ := Kd.R_celln (enc := Value.int .i64) (h1 := fun _ => rfl) (0 : Int) HRC.out (j : Int) (by omega) (by omega)
          rw [Int.toNat_natCast] at hxc
          have hxm := HX.out (rdOf (0 : Int) xs (j : Int)) (by
            unfold rdOf; rw [Int.toNat_natCast, List.getD_eq_getElem?_getD, List.getElem?_eq_getElem hlt]; exact List.getElem_mem hlt)
          obtain ⟨x, hx⟩ : ∃ x : Nat, rdOf (0 : Int) xs (j : Int) = x := ⟨(rdOf (0 : Int) xs (j : Int)).toNat, by omega⟩
          rw [hx] at hxc hxm
          have hxn : x < nb := by omega
          obtain ⟨q, cq, hq1, _, hq3, _⟩ := Kd.R_form H3C.out (by omega)
          injection hq1 with hq1 hq1b hq1c
          subst hq1
          obtain ⟨hsc, _⟩ := Kd.R_celln (enc := Value.string) (h1 := fun _ => rfl) ByteArray.empty H3C.out (x : Int) (by omega) (by omega)
          rw [Int.toNat_natCast] at hsc
          obtain ⟨sx, hsx⟩ : ∃ sx, sx = rdOf ByteArray.empty ss (x : Int) := ⟨_, rfl⟩
          rw [← hsx] at hsc
          have HSX := Aside0.mk hsx
          have q2 : (x : Int) < (ss.length : Int) := by omega
          have q2b : decide (x < ss.length) = true := decide_eq_true (by omega)
          clear hq1b hq1c hq3 hx hsx hxm
          by_cases hm : sx.toList = mk.toList
          · have hmb : (sx.toList == mk.toList) = true := beq_iff_eq.mpr hm
            have HME := Aside0.mk (toL_inj hm)
            clear hm
            by_cases hw : (x : Int) = wanted
            · as_aux_lemma =>
                have hwb : ((x : Int) == wanted) = true := beq_iff_eq.mpr hw
                have HW := Aside0.mk hw
                clear hw
                go_wp2_with fail
                go_ret
                exact ⟨x, addT l s, rfl, Ext.add _ _, (addT_length _ _).1, HBC.out, HGM.out, .inr ⟨x, rfl, hxn, by rw [← HSX.out, HME.out, HMV.out], HSL.out⟩⟩
            · by_cases hf : f < 0
              · as_aux_lemma =>
                  have hwb : ((x : Int) == wanted) = false := beq_eq_false_iff_ne.mpr hw
                  have hfb : decide (f < 0) = true := decide_eq_true hf
                  go_wp2_with fail
                  go_roundw
                  case rel => exact ⟨j + 1, x, by go_num, rfl, by omega, by trivial, ⟨.inr ⟨x, rfl, hxn, by rw [← HSX.out, HME.out]⟩⟩⟩
                  case measure => simp [intOf]; omega
              · as_aux_lemma =>
                  have hwb : ((x : Int) == wanted) = false := beq_eq_false_iff_ne.mpr hw
                  have hfb : decide (f < 0) = false := decide_eq_false hf
                  go_wp2_with fail
                  go_roundw
                  case rel => exact ⟨j + 1, f, by go_num, rfl, by omega, by trivial, HF⟩
                  case measure => simp [intOf]; omega
          · as_aux_lemma =>
              have hmb : (sx.toList == mk.toList) = false := beq_eq_false_iff_ne.mpr hm
              go_wp2_with fail
              go_roundw
              case rel => exact ⟨j + 1, f, by go_num, rfl, by omega, by trivial, HF⟩
              case measure => simp [intOf]; omega
        · as_aux_lemma =>
            have hb1 : decide (j < xs.length) = false := decide_eq_false hlt
            go_wp2_with fail
            go_ret
            refine ⟨f, addT l s, rfl, Ext.add _ _, (addT_length _ _).1, HBC.out, HGM.out, ?_⟩
            rcases HF.out with h | ⟨i, h1, h2, h3⟩
            · exact .inl h
            · exact .inr ⟨i, h1, h2, by rw [h3, HMV.out], HSL.out⟩
end Go.Proofs.Ytjgelmfkoefclaa.PAll
