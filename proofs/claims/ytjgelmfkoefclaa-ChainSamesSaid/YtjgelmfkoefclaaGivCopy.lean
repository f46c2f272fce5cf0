/- What gathers steps: a copy behind them. -/
import Derived.BigQuiet
import Derived.Deep.DeepMust
import Derived.RegionTactic
import Derived.Test.YtjgelmfkoefclaaGivMaker
namespace Go.Proofs.Ytjgelmfkoefclaa.PAll
open Go.RowKit Go.Proofs.YtjgelmfkoefclaaW.PrintWords Go.Proofs.YtjgelmfkoefclaaW.PrintLast Go.Proofs.YtjgelmfkoefclaaW.PrintMore
set_option linter.unusedVariables false
set_option linter.unusedSimpArgs false
attribute [local go_sem] max2_int min2_int max_two min_two

/-- The length of a step of the row is written. -/
theorem Mk.merge {w : World} {base m : Nat} {vt : Value} {st : List S54} {tx : ByteArray} {g n cap : Nat} (h : Mk w base m (.slice (some ⟨g, 0, none⟩) n cap) vt st tx) (j : Nat) (hj : j < n) (x : Int) :
    Mk (w.setCell ⟨g, j * 3 + 1, none⟩ (.int .i64 x)) base m (.slice (some ⟨g, 0, none⟩) n cap) vt (st.set j ⟨(rd_T54 st (j : Int)).f0, x, (rd_T54 st (j : Int)).f2⟩) tx ∧ Fm base w (w.setCell ⟨g, j * 3 + 1, none⟩ (.int .i64 x)) := by
  have hown : (Value.slice (some ⟨g, 0, none⟩) n cap).ownBlock = some g := rfl
  obtain ⟨c, hcl, hM, hcc, hfr⟩ := Kd.R_elem h.r z54 (j : Int) (by omega) (by omega)
  obtain rfl := k54_openM hM
  have HP := Kd.R_seg h.r (j : Int) (by omega) (by omega) (seg := [.int .i64 x]) (j := 1) hcl hcc (show 2 ≤ 3 from by decide) (x' := (⟨(rd_T54 st (j : Int)).f0, x, (rd_T54 st (j : Int)).f2⟩ : S54)) (k54_mkM _ _ _ (⟨(rd_T54 st (j : Int)).f0, x, (rd_T54 st (j : Int)).f2⟩ : S54)) (fun _ hk => hk)
  obtain ⟨cells, hty⟩ := Kd.R_typed h.r g hown
  have hne : m ≠ g := fun e => Kd.R_ne h.r h.b (by decide) (by rw [e]; rfl)
  refine ⟨⟨h.le, blk_far h.b hne _, HP.1, h.t.grown (gb_setg _ _ _ _) (fun k hk e => by injection e with e; exact h.t.ne hty (by decide) k hk e)⟩, Fm.row (gb_setg _ _ _ _) (fun k hk => by injection hk with hk; have := Kd.R_base h.r g hown; omega) (fun k cs hk e => ?_)⟩
  injection hk with hk; subst hk
  rw [hty] at e; injection e with e; injection e with _ e; exact absurd e (by decide)
/-- A copy behind steps. -/
def copyD (o : List S54) (p q : Int) : List S54 :=
  if o.length ≠ 0 ∧ 0 < (rd_T54 o ((o.length - 1 : Nat) : Int)).f1 ∧ wrap64 ((rd_T54 o ((o.length - 1 : Nat) : Int)).f0 + (rd_T54 o ((o.length - 1 : Nat) : Int)).f1) = p then
    o.set (o.length - 1) ⟨(rd_T54 o ((o.length - 1 : Nat) : Int)).f0, wrap64 ((rd_T54 o ((o.length - 1 : Nat) : Int)).f1 + q), (rd_T54 o ((o.length - 1 : Nat) : Int)).f2⟩
  else o ++ [⟨p, q, ⟨#[]⟩⟩]

set_option maxHeartbeats 4000000 in
set_option maxRecDepth 100000 in
theorem mcopy_calls (base m : Nat) (vs vt : Value) (st : List S54) (tx : ByteArray) (p q : Int) (w : World) (hM : Mk w base m vs vt st tx) (hbase : base ≤ w.heap.size) (hl : st.length + tx.size ≤ 4000000) :
    Calls Try.prog 54 #[.pointer (some ⟨m, 0, none⟩), .int .i64 p, .int .i64 q] w fun e w' => ∃ vs' vt', e = .returned (.tuple #[]) ∧ Mk w' base m vs' vt' (copyD (st ++ flushN tx.size tx) p q) ⟨#[]⟩ ∧ Fm base w w' := by
  have HM := Aside0.mk hM
  have HL := Aside0.mk hl
  have HBS := Aside0.mk hbase
  clear hM hl hbase
  go_enter Try.func54, Try.ntmps54
  go_upto_region 2 with (go_at_call 71; go_loud ((with_reducible refine (mflush_calls base m vs vt st tx _ HM.out HBS.out HL.out).mono ?_); rintro _ wa ⟨vs1, vt1, rfl, hM1, hF1⟩; have hol : (st ++ flushN tx.size tx).length ≤ 4000000 := (by have := flushN_length tx.size tx; have := HL.out; rw [List.length_append]; omega); obtain ⟨o, hoe⟩ : ∃ o, o = st ++ flushN tx.size tx := ⟨_, rfl⟩; rw [← hoe] at hM1 hol; have HM1 := Aside0.mk hM1; have HF1 := Aside0.mk hF1; have HOE := Aside0.mk hoe; clear hM1 hF1 hoe; obtain ⟨A2, c2, hv2⟩ := Kd.R_slice HM1.out.r; subst hv2; obtain ⟨t0, t1, f0, f1⟩ := blk2 HM1.out.b; have hw1 : wrap64 ((o.length : Int) - 1) = (o.length : Int) - 1 := (by unfold wrap64; omega)))
  have HBA : Aside0 (base ≤ wa.heap.size) := ⟨Nat.le_trans HBS.out HF1.out.size⟩
  go_cut [48] (fun v48 wz => ∃ b : Bool, v48 = .bool b ∧ Aside0 (b = true ↔ (o.length ≠ 0 ∧ 0 < (rd_T54 o ((o.length - 1 : Nat) : Int)).f1 ∧ wrap64 ((rd_T54 o ((o.length - 1 : Nat) : Int)).f0 + (rd_T54 o ((o.length - 1 : Nat) : Int)).f1) = p)) ∧ Aside0 (Mk wz base m (.slice A2 o.length c2) vt1 o ⟨#[]⟩) ∧ Aside0 (Fm base w wz) ∧ Aside0 (base ≤ wz.heap.size))
  case first =>
    by_cases hn : o.length = 0
    · as_aux_lemma =>
        have hn1 : decide (1 ≤ (o.length : Int)) = false := decide_eq_false (by omega)
        have HN := Aside0.mk hn
        clear hn
        go_quiet (fail)
        go_wp2_with fail
        go_meet
        case rel => exact ⟨false, rfl, ⟨Iff.intro (fun h => (by cases h)) (fun h => absurd HN.out h.1)⟩, ⟨HM1.out.below (pw_below_drewN (Below.refl _ _) _)⟩, ⟨HF1.out.trans (Fm.of (pw_below_drewN (Below.refl _ _) _))⟩, ⟨HBA.out⟩⟩
    · obtain ⟨jn, hjn⟩ : ∃ jn, o.length = jn + 1 := ⟨o.length - 1, by omega⟩
      have hji : (o.length : Int) - 1 = (jn : Int) := by omega
      have hjl : jn < o.length := by omega
      have hjb : decide (jn < o.length) = true := decide_eq_true (by omega)
      have HJI := Aside0.mk hji
      rw [hji]
      obtain ⟨g, cap, hv2, hgb, hgl, hgt⟩ := Kd.R_form HM1.out.r (by omega)
      obtain ⟨rfl, rfl⟩ : A2 = some ⟨g, 0, none⟩ ∧ c2 = cap := by injection hv2 with e1 _ e2; exact ⟨e1, e2⟩
      obtain ⟨cy, hcl, hMM, hcc, hfr⟩ := Kd.R_elem HM1.out.r z54 (jn : Int) (by omega) (by omega)
      obtain rfl := k54_openM hMM
      obtain ⟨y, hy⟩ : ∃ y, y = rd_T54 o (jn : Int) := ⟨_, rfl⟩
      have y0' : wa.cell? ⟨g, jn * 3, none⟩ = some (.int .i64 y.f0) := by rw [hy]; exact hcc 0 _ rfl
      have y1' : wa.cell? ⟨g, jn * 3 + 1, none⟩ = some (.int .i64 y.f1) := by rw [hy]; exact hcc 1 _ rfl
      clear hcl hMM hcc hfr
      have HJN := Aside0.mk hjn
      have hj1 : o.length - 1 = jn := by omega
      have HJ1 := Aside0.mk hj1
      clear hjn hji hn hj1
      have HY := Aside0.mk hy
      clear hy hv2
      by_cases hyl : 0 < y.f1
      · have hyb : decide (0 < y.f1) = true := decide_eq_true hyl
        by_cases hyp : wrap64 (y.f0 + y.f1) = p
        · as_aux_lemma =>
            have hpb : (wrap64 (y.f0 + y.f1) == p) = true := beq_iff_eq.mpr hyp
            have HYP := Aside0.mk hyp
            clear hyp
            go_quiet (fail)
            go_wp2_with fail
            rw [← HJI.out]
            go_meet
            case rel => exact ⟨true, rfl, ⟨Iff.intro (fun _ => (by rw [HJ1.out, ← HY.out]; exact ⟨by have := HJN.out; omega, hyl, HYP.out⟩)) (fun _ => rfl)⟩, ⟨HM1.out.below (pw_below_drewN (Below.refl _ _) _)⟩, ⟨HF1.out.trans (Fm.of (pw_below_drewN (Below.refl _ _) _))⟩, ⟨HBA.out⟩⟩
        · as_aux_lemma =>
            have hpb : (wrap64 (y.f0 + y.f1) == p) = false := beq_eq_false_iff_ne.mpr hyp
            have HYP := Aside0.mk hyp
            clear hyp
            go_quiet (fail)
            go_wp2_with fail
            rw [← HJI.out]
            go_meet
            case rel => exact ⟨false, rfl, ⟨Iff.intro (fun h => (by cases h)) (fun h => (by rw [HJ1.out, ← HY.out] at h; exact absurd h.2.2 HYP.out))⟩, ⟨HM1.out.below (pw_below_drewN (Below.refl _ _) _)⟩, ⟨HF1.out.trans (Fm.of (pw_below_drewN (Below.refl _ _) _))⟩, ⟨HBA.out⟩⟩
      · as_aux_lemma =>
          have hyb : decide (0 < y.f1) = false := decide_eq_false hyl
          have HYL := Aside0.mk hyl
          clear hyl
          go_quiet (fail)
          go_wp2_with fail
          rw [← HJI.out]
          go_meet
          case rel => exact ⟨false, rfl, ⟨Iff.intro (fun h => (by cases h)) (fun h => (by rw [HJ1.out, ← HY.out] at h; exact absurd h.2.1 (Int.not_lt.mpr HYL.out)))⟩, ⟨HM1.out.below (pw_below_drewN (Below.refl _ _) _)⟩, ⟨HF1.out.trans (Fm.of (pw_below_drewN (Below.refl _ _) _))⟩, ⟨HBA.out⟩⟩
  case rest =>
    obtain ⟨b, rfl, HB, HM2, HF2, HBZ⟩ := hcut
    clear t0 t1 f0 f1
    obtain ⟨t0, t1, f0, f1⟩ := blk2 HM2.out.b
    cases b with
    | true =>
      as_aux_lemma =>
        obtain ⟨b1, b2, b3⟩ := HB.out.mp rfl
        obtain ⟨jn, hjn⟩ : ∃ jn, o.length = jn + 1 := ⟨o.length - 1, by omega⟩
        have hji : (o.length : Int) - 1 = (jn : Int) := by omega
        have hjl : jn < o.length := by omega
        have hjb : decide (jn < o.length) = true := decide_eq_true (by omega)
        rw [hji]
        obtain ⟨g, cap, hv2, hgb, hgl, hgt⟩ := Kd.R_form HM2.out.r (by omega)
        obtain ⟨rfl, rfl⟩ : A2 = some ⟨g, 0, none⟩ ∧ c2 = cap := by injection hv2 with e1 _ e2; exact ⟨e1, e2⟩
        obtain ⟨cy, hcl, hMM, hcc, hfr⟩ := Kd.R_elem HM2.out.r z54 (jn : Int) (by omega) (by omega)
        obtain rfl := k54_openM hMM
        obtain ⟨y, hy⟩ : ∃ y, y = rd_T54 o (jn : Int) := ⟨_, rfl⟩
        have hj1 : o.length - 1 = jn := by omega
        have hcop : copyD o p q = o.set jn ⟨y.f0, wrap64 (y.f1 + q), y.f2⟩ := by unfold copyD; rw [if_pos (HB.out.mp rfl), hj1, ← hy]
        have y1' : wc.cell? ⟨g, jn * 3 + 1, none⟩ = some (.int .i64 y.f1) := by rw [hy]; exact hcc 1 _ rfl
        have hgf1 : wc.frozen? ⟨g, jn * 3 + 1, none⟩ = false := by obtain ⟨cells, hc⟩ := hgt; exact blk_frozen hc _
        have HCOP := Aside0.mk hcop
        have HMG := Aside0.mk (HM2.out.merge jn hjl (wrap64 (y.f1 + q)))
        rw [← hy] at HMG
        clear hcl hMM hcc hfr hcop hy hj1 hjn hji hv2 b1 b2 b3 hgt
        go_wp2_with fail
        ((try simp only [Exit.inBlock, Exit.then]); refine bodyPost_ret (results_none rfl _ _ _) rfl ?_)
        have hfin := HMG.out.1
        rw [← HCOP.out, HOE.out] at hfin
        exact ⟨rfl, ⟨_, _, hfin⟩, HF2.out.trans HMG.out.2⟩
    | false =>
      as_aux_lemma =>
        have hcop : copyD o p q = o ++ [⟨p, q, ⟨#[]⟩⟩] := by unfold copyD; rw [if_neg (fun h => by have := HB.out.mpr h; cases this)]
        have HCOP := Aside0.mk hcop
        clear hcop
        go_wp2_with ((with_reducible refine gate_builtin (b := .append) (xs := #[.tmp 65, .tmp 69]) rfl ?_); at_builtin; go_loud (refine Kd.R_append k54 (w0 := wc) base rfl (.tmp 65) (.tmp 69) 22 54 (.agg #[(.int .i64 0), (.int .i64 0), (.string ⟨#[]⟩)]) 32 rfl Try.underlying22 info54 rfl (by decide) (by omega) (.slice A2 o.length c2) o (⟨p, q, ⟨#[]⟩⟩ : S54) [.int .i64 p, .int .i64 q, .string ⟨#[]⟩] (fun _ => True) (fun _ => False) rfl ?aX ?aP (fun _ hk => hk.elim) (fun _ _ => trivial) HM2.out.r (Below.refl _ _) HBZ.out ?aL ?_; (case aX => (first | rfl | (simp; done))); (case aP => exact k54_mkM _ _ _ (⟨p, q, ⟨#[]⟩⟩ : S54)); (case aL => omega); intro v1 w1 hR1 hB1 hG1 hO1; have HPS := Aside0.mk (HM2.out.putS hR1 hG1); obtain ⟨A1, c1, hv1⟩ := Kd.R_slice hR1; rw [List.length_append, List.length_singleton] at hv1; subst hv1; obtain ⟨e0, e1, e2, e3⟩ := blk2 (blk_grown HM2.out.b hG1 (Kd.R_ne HM2.out.r HM2.out.b (by decide))); clear hR1 hB1 hG1 hO1 t0 t1 f0 f1))
        go_end0
        have hfin := HPS.out.1
        rw [← HCOP.out] at hfin
        rw [← HOE.out]
        exact ⟨_, _, rfl, hfin, HF2.out.trans HPS.out.2⟩
end Go.Proofs.Ytjgelmfkoefclaa.PAll
