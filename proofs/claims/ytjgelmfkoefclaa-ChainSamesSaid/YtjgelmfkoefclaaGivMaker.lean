/- What gathers steps: its two methods. -/
import Derived.BigQuiet
import Derived.Deep.DeepMust
import Derived.RegionTactic
import Derived.Deep.RegionHeld3
import Derived.Deep.RegionLaw
import Derived.Deep.CutBlock
import Derived.StillTailTactics
import Derived.Test.YtjgelmfkoefclaaBasf
import Derived.Test.YtjgelmfkoefclaaGivRoll
import Derived.Test.YtjgelmfkoefclaaBase
import Derived.Test.YtjgelmfkoefclaaBasd
namespace Go.Proofs.Ytjgelmfkoefclaa.PAll
open Go.RowKit Go.Proofs.YtjgelmfkoefclaaW.PrintWords Go.Proofs.YtjgelmfkoefclaaW.PrintLast Go.Proofs.YtjgelmfkoefclaaW.PrintMore
set_option linter.unusedVariables false
set_option linter.unusedSimpArgs false
attribute [local go_sem] max2_int min2_int max_two min_two

set_option maxHeartbeats 4000000 in
set_option maxRecDepth 100000 in
theorem mflush_calls (base m : Nat) (vs vt : Value) (st : List S54) (tx : ByteArray) (w : World) (hM : Mk w base m vs vt st tx) (hbase : base ≤ w.heap.size) (hl : st.length + tx.size ≤ 4000000) :
    Calls Try.prog 71 #[.pointer (some ⟨m, 0, none⟩)] w fun e w' => ∃ vs' vt', e = .returned (.tuple #[]) ∧ Mk w' base m vs' vt' (st ++ flushN tx.size tx) ⟨#[]⟩ ∧ Fm base w w' := by
  have HM := Aside0.mk hM
  have HL := Aside0.mk hl
  have HBS := Aside0.mk hbase
  clear hM hl hbase
  go_enter Try.func71, Try.ntmps71
  go_wp2_with fail
  go_loopw [2] (fun _ wr => ∃ (vs1 vt1 : Value) (so : List S54) (to_ : ByteArray), Aside0 (Mk wr base m vs1 vt1 so to_) ∧ Aside0 (Fm base w wr) ∧ Aside0 (so ++ flushN to_.size to_ = st ++ flushN tx.size tx ∧ so.length + to_.size ≤ st.length + tx.size)) (fun _ wr => match wr.cell? ⟨m, 1, none⟩ with | some (.slice _ n _) => n | _ => 0)
  case atStart => exact ⟨vs, vt, st, tx, HM, ⟨Fm.refl _ _⟩, ⟨rfl, Nat.le_refl _⟩⟩
  case round =>
    obtain ⟨vs1, vt1, so, to_, HMR, HFM, HEQ⟩ := hrel
    obtain ⟨A1, c1, hv1, hc1⟩ := HMR.out.t.slice
    obtain ⟨A0, c0, hv0⟩ := Kd.R_slice HMR.out.r
    subst hv1 hv0
    obtain ⟨t0, t1, f0, f1⟩ := blk2 HMR.out.b
    by_cases h0 : to_.size = 0
    · as_aux_lemma =>
        have hb1 : decide (0 < to_.size) = false := decide_eq_false (by omega)
        have H0 := Aside0.mk h0
        clear h0
        go_wp2_with fail
        go_end0
        have h := HEQ.out.1
        rw [flushN_zero _ H0.out, List.append_nil] at h
        refine ⟨.slice A0 so.length c0, .slice A1 to_.size c1, rfl, ?_, HFM.out⟩
        rw [← h]
        have he : to_ = ⟨#[]⟩ := ByteArray.ext (Array.eq_empty_of_size_eq_zero H0.out)
        rw [← he]
        exact HMR.out
    · as_aux_lemma =>
        have hb1 : decide (0 < to_.size) = true := decide_eq_true (by omega)
        have hpos : 0 < to_.size := by omega
        obtain ⟨n, hn⟩ : ∃ n : Nat, n = min to_.size 4096 := ⟨_, rfl⟩
        have hmin : (if (4096 : Int) < (to_.size : Int) then (4096 : Int) else (to_.size : Int)) = (n : Int) := by split <;> omega
        have HMIN := Aside0.mk hmin
        have hn1 : 0 < n := by omega
        have hn2 : n ≤ to_.size := by omega
        have HN := Aside0.mk hn
        clear hmin hn h0
        obtain ⟨g, o, hA1, hby⟩ := HMR.out.t.pos hpos
        subst hA1
        have HBY := Aside0.mk hby
        clear hby
        go_upto_region 2 with fail
        rw [HMIN.out]
        go_cut [2] (fun v2 wz => ∃ (vs2 : Value), v2 = .int .i64 n ∧ Aside0 (Mk wz base m vs2 (.slice (some ⟨g, o, none⟩) to_.size c1) (so ++ [⟨0, 0, to_.extract 0 n⟩]) to_) ∧ Aside0 (Fm base w wz))
        case first => as_aux_lemma =>
          have HMD := Aside0.mk (HMR.out.below (below_drew1 (Below.refl _ _)))
          have hcv := Lib.run_convert_window (P := Try.prog) wr.drew 77 5 9 Try.underlying77 Try.underlying5 Try.underlying9 g o to_ (show Lib.Bytes wr.drew g o to_ from HBY.out) 0 n c1 (by omega)
          rw [Nat.add_zero, Nat.zero_add] at hcv
          have hcw : ∀ W, Lib.Bytes W g o to_ → (convert 77 9 (.slice (some ⟨g, o, none⟩) n c1)).run Try.prog W = .ok (.string (to_.extract 0 n)) W := fun W hW => by
            have h := Lib.run_convert_window (P := Try.prog) W 77 5 9 Try.underlying77 Try.underlying5 Try.underlying9 g o to_ hW 0 n c1 (by omega)
            rw [Nat.add_zero, Nat.zero_add] at h
            exact h
          have q0 : (0 : Int) ≤ (n : Int) := by omega
          have q1 : (n : Int) ≤ (c1 : Int) := by omega
          have HB4 : Aside0 (base ≤ wr.drew.heap.size) := ⟨Nat.le_trans HBS.out HFM.out.size⟩
          have tx0 : ∀ X, (wr.alloc X).cell? ⟨m, 0, none⟩ = some (.slice A0 so.length c0) := fun X => (blk2 (blk_alloc HMR.out.b X)).1
          refine wp_region_held_tail 13 2 (fun w' => w'.cell? ⟨m, 0, none⟩ = some (.slice A0 so.length c0) ∧ w'.cell? ⟨m, 1, none⟩ = some (.slice (some ⟨g, o, none⟩) to_.size c1) ∧ Lib.Bytes w' g o to_) (by kernel_rfl) (by kernel_rfl) (by intro d c v a w; cases d <;> exact fun h => h) ⟨t0, t1, HBY.out⟩ ?_
          simp only [List.take_succ_cons, List.take_zero, List.drop_succ_cons, List.drop_zero]
          repeat (refine wpHeld_step (v := ?_) (by rfl) ?_ ?_; rotate_left; (· intro wS hSw; obtain ⟨s0, s1, s2⟩ := hSw; have hcx := hcw wS s2; clear s2; (go_simp <;> with_reducible rfl)); (simp only [Act.put, List.setIfInBounds_toArray, List.set_cons_zero, List.set_cons_succ]))
          refine wpHeld_nil ?_
          refine wpListS_step (fun K hK => ?_)
          go_simp
          refine hK.out _ _ ⟨tx0 _, (blk2 (blk_alloc HMR.out.b _)).2.1, bytes_gb HBY.out (gb_of (below_alloc (below_drew1 (Below.refl _ _)) _) none) (fun e => (by cases e))⟩ ?_
          clear hK K
          refine wpListS_step (fun K hK => ?_)
          refine Kd.R_append_step k54 (w0 := wr.drew) (W := wr.drew) base ?aW (.tmp 19) (.tmp 28) 22 54 (.agg #[(.int .i64 0), (.int .i64 0), (.string ⟨#[]⟩)]) 32 ?aO Try.underlying22 info54 rfl (by decide) (by omega) (.slice A0 so.length c0) so (⟨0, 0, to_.extract 0 n⟩ : S54) [.int .i64 0, .int .i64 0, .string (to_.extract 0 n)] (fun _ => True) (fun _ => False) ?aS ?aX ?aP (fun _ hk => hk.elim) (fun _ _ => trivial) HMD.out.r (Below.refl _ _) HB4.out ?aL ?_
          case aW => rfl
          case aO => rfl
          case aS => rfl
          case aX => rfl
          case aP => exact k54_mkM _ _ _ (⟨0, 0, to_.extract 0 n⟩ : S54)
          case aL => have := HEQ.out.2; have := HL.out; omega
          intro v1 w1 hR1 hB1 hG1 hO1
          have HPS := Aside0.mk (HMD.out.putS hR1 hG1)
          obtain ⟨A1', c1', hv1⟩ := Kd.R_slice hR1
          rw [List.length_append, List.length_singleton] at hv1
          subst hv1
          obtain ⟨e0, e1, e2, e3⟩ := blk2 (blk_grown HMD.out.b hG1 (Kd.R_ne HMD.out.r HMD.out.b (by decide)))
          have HBY1 := bytes_gb (show Lib.Bytes wr.drew g o to_ from HBY.out) hG1 (fun e => HMD.out.t.ne (w := wr.drew) (g := g) (t' := 54) (Kd.R_typed HMD.out.r g e.symm).choose_spec (by decide) g (by simp [Value.ownBlock]) rfl)
          refine hK.out _ _ ⟨e0, e1, HBY1⟩ ?_
          clear hR1 hB1 hG1 hO1 hK K HBY1 t0 t1 f0 f1 hcw hcv
          refine wpListS_zero ?_
          go_wp2_with fail
          go_meet
          case rel => exact ⟨_, rfl, ⟨HPS.out.1⟩, ⟨(HFM.out.trans (Fm.of (base := base) (below_drew1 (Below.refl wr.heap.size wr)))).trans HPS.out.2⟩⟩
        case rest => as_aux_lemma =>
          obtain ⟨vs2, rfl, HMZ, HFZ⟩ := hcut
          obtain ⟨A2, c2, hv2⟩ := Kd.R_slice HMZ.out.r
          rw [List.length_append, List.length_singleton] at hv2
          subst hv2
          have T1 := Aside0.mk t1
          clear HMR HBY HFM t0 t1 f0 f1
          obtain ⟨t0, t1, f0, f1⟩ := blk2 HMZ.out.b
          have q0 : (0 : Int) ≤ (n : Int) := by omega
          have q1 : (n : Int) ≤ (to_.size : Int) := by omega
          go_wp2_with fail
          have hd := HMZ.out.t.drop hn2
          simp only [Option.map_some, Addr.add_lit] at hd
          have hmz := HMZ.out
          have HPT := Aside0.mk (Mk.putT hmz (v1 := .slice (if c1 = n then some ⟨g, o, none⟩ else some ⟨g, o + n, none⟩) (to_.size - n) (c1 - n)) hd (gb_refl _ _))
          clear hd hmz
          go_roundw
          case rel =>
            refine ⟨.slice A2 (so.length + 1) c2, .slice (if c1 = n then some ⟨g, o, none⟩ else some ⟨g, o + n, none⟩) (to_.size - n) (c1 - n), so ++ [⟨0, 0, to_.extract 0 n⟩], to_.extract n to_.size, ⟨HPT.out.1⟩, ⟨HFZ.out.trans HPT.out.2⟩, ⟨?_, ?_⟩⟩
            · rw [← HEQ.out.1, flushN_step to_ (by omega), ← HN.out, List.append_assoc]; rfl
            · rw [List.length_append, List.length_singleton, ByteArray.size_extract]
              have := HEQ.out.2
              omega
          case measure =>
            rw [(blk2 HPT.out.1.b).2.1, T1.out]
            show to_.size - n < to_.size
            omega
end Go.Proofs.Ytjgelmfkoefclaa.PAll
