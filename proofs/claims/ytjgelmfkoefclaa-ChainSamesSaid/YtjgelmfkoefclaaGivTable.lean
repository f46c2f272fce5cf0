/- A table of a signature's blocks. -/
import Derived.BigQuiet
import Derived.Deep.DeepMust
import Derived.RegionTactic
import Derived.Deep.RegionHeld3
import Derived.Deep.RegionLaw
import Derived.Deep.CutBlock
import Derived.Test.YtjgelmfkoefclaaGivClone
import Derived.Test.YtjgelmfkoefclaaGivSort5
import Derived.Test.YtjgelmfkoefclaaBasf
namespace Go.Proofs.Ytjgelmfkoefclaa.PAll
open Go.RowKit Go.Proofs.YtjgelmfkoefclaaW.PrintWords Go.Proofs.YtjgelmfkoefclaaW.PrintLast Go.Proofs.YtjgelmfkoefclaaW.PrintMore
set_option linter.unusedVariables false
set_option linter.unusedSimpArgs false

set_option maxHeartbeats 2000000 in
set_option maxRecDepth 100000 in
theorem less_calls (gb q n c : Nat) (ws : List Int) (bl size : Int) (vS : Value) (x y : Nat) (hx : x < n) (hy : y < n) (w : World)
    (hb : w.heap[gb]? = some (.cells #[.int .i64 bl, .int .i64 size, .slice (some ⟨q, 0, none⟩) n c, vS] 71 (0, 0)))
    (hc : ∀ i : Nat, i < n → w.cell? ⟨q, i, none⟩ = some (.int .i64 (rd ws i))) :
    Calls Try.prog 69 #[.int .i64 x, .int .i64 y, .pointer (some ⟨gb, 0, none⟩)] w fun e w' => e = .returned (.int .i64 (wrap64 (rd ws x - rd ws y))) ∧ ∃ m, w' = w.drewN m := by
  obtain ⟨p0, p1, p2, p3⟩ := blk4 hb
  have q1 : (x : Int) < (n : Int) := by omega
  have q2 : (y : Int) < (n : Int) := by omega
  have q1b : decide (x < n) = true := decide_eq_true (by omega)
  have q2b : decide (y < n) = true := decide_eq_true (by omega)
  have hcx := hc x hx
  have hcy := hc y hy
  clear hc hb
  go_enter Try.func69, Try.ntmps69
  go_wp2_with fail
  go_quiet (fail)
  go_wp2_with fail
  go_ret
  exact ⟨rfl, _, rfl⟩

/-! ### the sort of no elements -/
set_option maxHeartbeats 2000000 in
set_option maxRecDepth 100000 in
theorem insertion_nil (A : Option Addr) (c : Nat) (cap : Value) (w : World) :
    Calls Try.prog 82 #[.slice A 0 c, .int .i64 0, .int .i64 0, .func (.func 69) #[] #[cap]] w fun e w' => e = .returned (.tuple #[]) ∧ Below w.heap.size w w' := by
  go_enter Try.func82, Try.ntmps82
  go_wp2_with fail
  go_loopw [8] (fun v8 wr => v8 = .int .i64 1 ∧ w = wr) (fun _ _ => 0)
  case atStart => exact ⟨rfl, rfl⟩
  case round =>
    obtain ⟨rfl, rfl⟩ := hrel
    go_wp2_with fail
    go_end0
    exact ⟨rfl, Below.refl _ _⟩
set_option maxHeartbeats 2000000 in
set_option maxRecDepth 100000 in
theorem stable_nil (A : Option Addr) (c : Nat) (cap : Value) (w : World) :
    Calls Try.prog 77 #[.slice A 0 c, .int .i64 0, .func (.func 69) #[] #[cap]] w fun e w' => e = .returned (.tuple #[]) ∧ Below w.heap.size w w' := by
  go_enter Try.func77, Try.ntmps77
  go_wp2_with fail
  go_loopw [7, 8] (fun v7 v8 wr => v7 = .int .i64 0 ∧ v8 = .int .i64 20 ∧ w = wr) (fun _ _ _ => 0)
  case atStart => exact ⟨rfl, rfl, rfl⟩
  case round =>
    obtain ⟨rfl, rfl, rfl⟩ := hrel
    go_wp2_with (go_at_call 82; go_loud ((with_reducible refine (insertion_nil A c cap w).mono ?_); rintro _ wa ⟨rfl, hb⟩; have HB := Aside0.mk hb; clear hb))
    go_loopw [6, 7, 8, 9] (fun v6 _ _ _ wr => v6 = .int .i64 20 ∧ Aside0 (Below w.heap.size w wr)) (fun _ _ _ _ _ => 0)
    case atStart => exact ⟨rfl, HB⟩
    case round =>
      obtain ⟨rfl, HB2⟩ := hrel
      go_wp2_with fail
      go_end0
      exact ⟨rfl, HB2.out⟩
set_option maxHeartbeats 2000000 in
set_option maxRecDepth 100000 in
theorem sort_nil (A : Option Addr) (c : Nat) (cap : Value) (w : World) :
    Calls Try.prog 68 #[.slice A 0 c, .func (.func 69) #[] #[cap]] w fun e w' => e = .returned (.tuple #[]) ∧ Below w.heap.size w w' := by
  go_enter Try.func68, Try.ntmps68
  go_wp2_with (go_at_call 77; go_loud ((with_reducible refine (stable_nil A c cap w).mono ?_); rintro _ wa ⟨rfl, hb⟩; have HB := Aside0.mk hb; clear hb))
  go_end0
  exact ⟨rfl, HB.out⟩

theorem R_none0 {α : Type} {d : Kd α} {e base n c : Nat} {w : World} {ok : Nat → Prop} {A : Option Addr} {xs : List α} (h : d.R e w base ok (.slice A n c) xs) (h0 : A = none) : c = 0 := by
  obtain ⟨inner, ho⟩ := Kd.R_own h
  rcases ho.2 with ⟨h1, _⟩ | ⟨g, cap, cur, h1, _⟩
  · injection h1
  · subst h0; injection h1 with h1; cases h1

theorem cmp_of (w wo wr : World) (T q q1 nb c1 n1 base : Nat) (okW : Nat → Prop) (ws : List Int) (bl n : Int) (vS : Value) (hW : Kd.R (Kd.int .i64) 3 w base okW (.slice (some ⟨q1, 0, none⟩) n1 c1) ws) (h1 : Below w.heap.size w wo) (h2 : wo.grownBy wr (some T)) (hT : w.heap.size < T) (hq : w.heap.size < q) (hq1 : q1 < w.heap.size) (hn : nb ≤ n1)
    (hz : wo.heap[w.heap.size]? = some (.cells #[.int .i64 bl, .int .i64 n, .slice (some ⟨q1, 0, none⟩) n1 c1, vS] 71 (0, 0))) :
    Cmp 69 (.pointer (some ⟨w.heap.size, 0, none⟩)) wr q (fun x => 0 ≤ x ∧ x < nb) (fun x y => wrap64 (rd ws x - rd ws y)) := by
  intro wx x y hg hx hy
  have hz2 := blk_gb h2 hz (by omega)
  have hz3 := blk_gb hg hz2 (by omega)
  have hc := row_cells hW h1 h2 (by omega) hq1
  have hc3 : ∀ i : Nat, i < n1 → wx.cell? ⟨q1, i, none⟩ = some (.int .i64 (rd ws i)) := fun i hi => by
    have hlt : q1 < wr.heap.size := World.block_lt_of_cell? wr ⟨q1, i, none⟩ (hc i hi)
    exact (World.cell?_of_block (a := ⟨q1, i, none⟩) (hg.block q1 hlt (fun e => by injection e with e; omega))).trans (hc i hi)
  obtain ⟨x', rfl⟩ : ∃ x' : Nat, x = x' := ⟨x.toNat, by omega⟩
  obtain ⟨y', rfl⟩ : ∃ y' : Nat, y = y' := ⟨y.toNat, by omega⟩
  exact less_calls w.heap.size q1 n1 c1 ws bl n vS x' y' (by omega) (by omega) wx hz3 hc3

set_option maxHeartbeats 4000000 in
set_option maxRecDepth 100000 in
theorem newtable_calls (bl n : Nat) (ws : List Int) (ss : List ByteArray) (vW vS : Value) (base : Nat) (okW okS : Nat → Prop) (w : World) (hW : Kd.R (Kd.int .i64) 3 w base okW vW ws) (hS : Kd.R Kd.string 9 w base okS vS ss) (h0 : 16 ≤ bl) (h1 : bl ≤ 1024) (hn : n ≤ 524288) (hl : ws.length = nB n bl) (hls : ss.length = ws.length) (hw : ∀ x ∈ ws, 0 ≤ x ∧ x ≤ 4294967295) (hs : ∀ s ∈ ss, s.size = 32) :
    Calls Try.prog 48 #[.agg #[.int .i64 bl, .int .i64 n, vW, vS]] w fun e w' => ∃ T, e = .returned (.tuple #[.pointer (some ⟨T, 0, none⟩), .int .i64 0]) ∧ Below w.heap.size w w' ∧ Tb w w' T bl n ws ss (n / bl) := by
  obtain ⟨A1, c1, rfl, hc1, hC1⟩ := Kd.R_reads hW
  obtain ⟨A2, c2, rfl, hc2, hC2⟩ := Kd.R_reads hS
  have hnw : ws.length ≤ 1000000 := by rw [hl]; have := nB_le n bl (by omega); omega
  have HRF := Aside0.mk (fun wx h h' => sign_Right.calls 1000010 bl n A1 c1 ws A2 c2 ss true wx h hc1 h' hc2 (rightsig_f ws ss bl n h0 h1 hn hl hls hw hs))
  have HC1 := Aside0.mk hC1
  have HC2 := Aside0.mk hC2
  have HN1 := Aside0.mk (fun (e : A1 = none) => R_none0 hW e)
  have HN2 := Aside0.mk (fun (e : A2 = none) => R_none0 hS e)
  have HWR := Aside0.mk hW
  have HLS := Aside0.mk hls
  have HLN := Aside0.mk hl
  obtain ⟨W1, hW1⟩ : ∃ W1, W1 = w.alloc (.cells #[.int .i64 bl, .int .i64 n, .slice A1 ws.length c1, .slice A2 ss.length c2] 71 (0, 0)) := ⟨_, rfl⟩
  have HZ : Aside0 (W1.heap[w.heap.size]? = some (.cells #[.int .i64 bl, .int .i64 n, .slice A1 ws.length c1, .slice A2 ss.length c2] 71 (0, 0))) := ⟨by rw [hW1]; exact blk_new _ _⟩
  have HBW : Aside0 (Below w.heap.size w W1) := ⟨by rw [hW1]; exact below_alloc (Below.refl _ _) _⟩
  have HW1 := Aside0.mk hW1
  clear hW1 hW hS hC1 hC2 hls hl hw hs hc1 hc2
  have hu := Try.underlying71
  go_enter Try.func48, Try.ntmps48
  go_upto_region 1 with fail
  rw [← HW1.out]
  obtain ⟨p0, p1, p2, p3⟩ := blk4 HZ.out
  go_upto_region 3 with (go_at_call 65; go_loud ((with_reducible refine (HRF.out _ (Kd.C_below HC1.out HBW.out) (Kd.C_below HC2.out HBW.out)).mono ?_); rintro _ wa ⟨rfl, hbb⟩; have HBA := Aside0.mk (below_step HBW.out hbb); have HZA := Aside0.mk (blk_below HZ.out hbb); clear hbb))
  clear p0 p1 p2 p3
  obtain ⟨p0, p1, p2, p3⟩ := blk4 HZA.out
  go_cut [4] (fun v4 wz => ∃ (T : Nat) (vW vS : Value), v4 = .pointer (some ⟨T, 0, none⟩) ∧ Aside0 (Below w.heap.size w wz) ∧ Aside0 (wz.heap[w.heap.size]? = some (.cells #[.int .i64 bl, .int .i64 n, .slice A1 ws.length c1, .slice A2 ss.length c2] 71 (0, 0))) ∧ Aside0 (w.heap.size < T) ∧ Aside0 (wz.heap[T]? = some (.cells #[.int .i64 bl, .int .i64 n, vW, vS, .slice none 0 0, .slice none 0 0] 118 (0, 0))) ∧ Aside0 (Kd.R (Kd.int .i64) 3 wz w.heap.size (fun _ => True) vW ws) ∧ Aside0 (Kd.R Kd.string 9 wz w.heap.size (fun _ => True) vS ss))
  case first => as_aux_lemma =>
    go_region_held3 (fun w' => w'.cell? ⟨w.heap.size, 0, none⟩ = some (.int .i64 bl) ∧ w'.cell? ⟨w.heap.size, 1, none⟩ = some (.int .i64 n) ∧ w'.cell? ⟨w.heap.size, 2, none⟩ = some (.slice A1 ws.length c1) ∧ w'.cell? ⟨w.heap.size, 3, none⟩ = some (.slice A2 ss.length c2)) (go_keep) (first | (go_at_call 66; ((with_reducible refine (clone_ints A1 ws.length c1 ws (by omega) _ ?hc HN1.out).mono ?_); (case hc => exact Kd.C_below HC1.out (below_drew1 HBA.out)); rintro _ wb ⟨v1, rfl, hr1, hb1⟩; obtain ⟨B1, d1, rfl⟩ := Kd.R_slice hr1; have HBB := Aside0.mk (below_step (below_drew1 HBA.out) hb1); have HZB := Aside0.mk (blk_below (blk_drew HZA.out) hb1); have HRB := Aside0.mk (Kd.R_lower hr1 (below_size (below_drew1 HBA.out))); clear hr1 hb1; clear p0 p1 p2 p3; obtain ⟨p0, p1, p2, p3⟩ := blk4 HZB.out)) | (go_at_call 67; ((with_reducible refine (clone_strs A2 ss.length c2 ss (by have := HLS.out; omega) _ ?hd HN2.out).mono ?_); (case hd => exact Kd.C_below HC2.out HBB.out); rintro _ wc ⟨v2, rfl, hr2, hb2⟩; obtain ⟨B2, d2, rfl⟩ := Kd.R_slice hr2; have HBC := Aside0.mk (below_step HBB.out hb2); have HZC := Aside0.mk (blk_below HZB.out hb2); have HRC := Aside0.mk (Kd.R_below HRB.out hb2); have HSC := Aside0.mk (Kd.R_lower hr2 (below_size HBB.out)); clear hr2 hb2; clear p0 p1 p2 p3; obtain ⟨p0, p1, p2, p3⟩ := blk4 HZC.out)))
    all_goals
      go_wp2_with fail
      go_meet
      case rel => exact ⟨_, _, _, rfl, ⟨below_alloc HBC.out _⟩, ⟨blk_alloc HZC.out _⟩, ⟨blk_lt HZC.out⟩, ⟨blk_new _ _⟩, ⟨Kd.R_alloc HRC.out _⟩, ⟨Kd.R_alloc HSC.out _⟩⟩
  case rest => as_aux_lemma =>
    obtain ⟨T, vW, vS, rfl, HBT, HZT, HLT, HTT, HRT, HST⟩ := hcut
    clear HBA HZA HRF HZ HBW HW1 p0 p1 p2 p3
    obtain ⟨wo, rfl⟩ : ∃ wo : World, wo = wc := ⟨_, rfl⟩
    obtain ⟨p0, p1, p2, p3⟩ := blk4 HZT.out
    have hb0 : ¬ ((bl : Int) = 0) := by omega
    obtain ⟨nb, hnb⟩ : ∃ nb : Nat, nb = n / bl := ⟨_, rfl⟩
    have hnbw : wrap64 ((n : Int) / (bl : Int)) = (nb : Int) := by
      have h : nb ≤ n := by rw [hnb]; exact Nat.div_le_self _ _
      rw [show (n : Int) / (bl : Int) = (nb : Int) by rw [hnb]; exact (Int.natCast_ediv _ _).symm]
      unfold wrap64; omega
    have hnbn : nb ≤ n := by rw [hnb]; exact Nat.div_le_self _ _
    have hnbl : nb ≤ ws.length := by rw [hnb, HLN.out]; unfold nB; exact Nat.div_le_div_right (by omega)
    have HNB := Aside0.mk hnb
    have HNBW := Aside0.mk hnbw
    clear hnb hnbw
    go_upto_block 0 with fail
    rw [HNBW.out]
    go_wp2_with fail
    go_loopw [29, 5] (fun v29 _ wr => ∃ (i : Nat) (vb : Value), v29 = .int .i64 i ∧ i ≤ nb ∧ Aside0 (Tl wo wr T bl n vW vS (.slice none 0 0) vb vb (iotaI i))) (fun v29 _ _ => nb - (intOf v29).toNat)
    case atStart => exact ⟨0, _, rfl, Nat.zero_le _, ⟨gb_refl _ _, blk_lt HTT.out, HTT.out, Kd.R_nil _ _ _ _ _⟩⟩
    case round =>
      obtain ⟨i, vb, rfl, hi, HTL⟩ := hrel
      by_cases hlt : i < nb
      · as_aux_lemma =>
          have hb1 : decide (i < nb) = true := decide_eq_true hlt
          obtain ⟨Ab, cb, hvb⟩ := Kd.R_slice HTL.out.r
          rw [iotaI_length] at hvb
          subst hvb
          obtain ⟨t0, t1, t2, t3, t4, t5⟩ := blk6 HTL.out.t
          go_wp2_with ((with_reducible refine gate_builtin (b := .append) (xs := #[.tmp 36, .tmp 38]) rfl ?_); at_builtin; go_loud (refine Kd.R_append (Kd.int .i64) (w0 := wr) (W := wr) wo.heap.size rfl (.tmp 36) (.tmp 38) 69 3 (.int .i64 0) 8 rfl Try.underlying69 info3 (by decide) (by decide) (by decide) (.slice Ab i cb) (iotaI i) (i : Int) [.int .i64 i] (fun _ => True) (fun _ => False) rfl rfl rfl (fun _ hk => hk.elim) (fun _ _ => trivial) HTL.out.r (Below.refl _ _) ?aS ?aL ?_; (case aS => exact HTL.out.gb.size); (case aL => rw [iotaI_length]; omega); intro v1 w1 hR1 hB1 hG1 hO1; obtain ⟨A1', c1', hv1⟩ := Kd.R_slice hR1; rw [List.length_append, List.length_singleton, iotaI_length] at hv1; subst hv1; have HPUT := Aside0.mk (HTL.out.put hR1 hG1 5 (vk1 := .slice none 0 0) (vb1 := .slice A1' (i + 1) c1') rfl); obtain ⟨e0, e1, e2, e3, e4, e5⟩ := blk6 (blk_grown HTL.out.t hG1 (fun e => by have := Kd.R_base HTL.out.r _ e.symm; have := HTL.out.lt; omega)); obtain ⟨f4, f5⟩ := blk6f (blk_grown HTL.out.t hG1 (fun e => by have := Kd.R_base HTL.out.r _ e.symm; have := HTL.out.lt; omega)); clear hR1 hB1 hG1 hO1))
          go_roundw
          case rel =>
            refine ⟨i + 1, .slice A1' (i + 1) c1', by go_num, by omega, ?_⟩
            rw [iotaI_succ]
            exact HPUT
          case measure => simp [intOf]; omega
      · as_aux_lemma =>
          have hb1 : decide (i < nb) = false := decide_eq_false hlt
          have hie : i = nb := by omega
          subst hie
          obtain ⟨Ab, cb, hvb⟩ := Kd.R_slice HTL.out.r
          rw [iotaI_length] at hvb
          subst hvb
          obtain ⟨t0, t1, t2, t3, t4, t5⟩ := blk6 HTL.out.t
          go_upto_region 9 with fail
          go_cut [4] (fun v4 wz => v4 = .pointer (some ⟨T, 0, none⟩) ∧ Aside0 (wo.grownBy wz (some T)) ∧ Aside0 (wz.heap[T]? = some (.cells #[.int .i64 bl, .int .i64 n, vW, vS, .slice none 0 0, .slice Ab i cb] 118 (0, 0))) ∧ Aside0 (0 < i → ∃ q, Ab = some ⟨q, 0, none⟩ ∧ wo.heap.size ≤ q ∧ Ar wz q i (fun x => 0 ≤ x ∧ x < i)))
          case first => as_aux_lemma =>
            rcases Nat.eq_zero_or_pos i with hi0 | hi0
            · subst hi0
              go_wp2_with (go_at_call 68; go_loud ((with_reducible refine (sort_nil Ab cb (.pointer (some ⟨w.heap.size, 0, none⟩)) _).mono ?_); rintro _ wa ⟨rfl, hb⟩; have HBB := Aside0.mk hb; clear hb))
              go_meet
              case rel => exact ⟨rfl, ⟨gb_below HTL.out.gb HBB.out⟩, ⟨blk_below HTL.out.t HBB.out⟩, ⟨fun h => absurd h (Nat.lt_irrefl 0)⟩⟩
            · obtain ⟨q, cq, hq1, hq2, hq3, _⟩ := Kd.R_form HTL.out.r (by rw [iotaI_length]; exact hi0)
              injection hq1 with hq1 hq1b hq1c
              obtain ⟨q1, cq1, hw1, _, hw3, _⟩ := Kd.R_form HWR.out (by omega)
              injection hw1 with hw1 hw1b hw1c
              subst hq1 hw1
              have HCMP := Aside0.mk (cmp_of w wo wr T q q1 i c1 ws.length base okW ws bl n (.slice A2 ss.length c2) HWR.out HBT.out HTL.out.gb HLT.out (by have := blk_lt HTT.out; have := HLT.out; omega) hw3 hnbl HZT.out)
              have HAR := Aside0.mk (ar_iota HTL.out.r (fun x => 0 ≤ x ∧ x < i) (fun j hj => by
                have e : rd (iotaI i) (j : Int) = (j : Int) := by
                  unfold rd; rw [Int.toNat_natCast, List.getD_eq_getElem?_getD, iotaI_mem i j hj]; rfl
                rw [e]; constructor <;> omega))
              have HQ2 := Aside0.mk hq2
              clear hq1c hw1c hq1b hw1b hq2 hq3 hw3
              go_wp2_with (go_at_call 68; go_loud ((with_reducible refine (sort_calls q i cb (fun x => 0 ≤ x ∧ x < i) wr (.pointer (some ⟨w.heap.size, 0, none⟩)) _ HCMP.out (by omega) _ (gb_refl _ _) HAR.out).mono ?_); rintro _ wa ⟨rfl, ha, hb⟩; have HAA := Aside0.mk ha; have HBB := Aside0.mk hb; clear ha hb))
              go_meet
              case rel => exact ⟨rfl, ⟨gb_own HTL.out.gb HBB.out (fun k hk => by injection hk with hk; have := HQ2.out; omega)⟩, ⟨blk_gb HBB.out HTL.out.t (by have := HQ2.out; have := HTL.out.lt; omega)⟩, ⟨fun _ => ⟨q, rfl, HQ2.out, HAA.out⟩⟩⟩
          case rest => as_aux_lemma =>
            obtain ⟨rfl, HGZ, HTZ, HAZ⟩ := hcut
            obtain ⟨w2, rfl⟩ : ∃ w2 : World, w2 = wc := ⟨_, rfl⟩
            clear HTL t0 t1 t2 t3 t4 t5 p0 p1 p2 p3
            obtain ⟨t0, t1, t2, t3, t4, t5⟩ := blk6 HTZ.out
            have HKN : Aside0 (T < w2.heap.size) := ⟨blk_lt HTZ.out⟩
            go_wp2_with fail
            go_loopw [54, 7] (fun v54 _ wr => ∃ (j : Nat) (vk : Value) (ks : List Int), v54 = .int .i64 j ∧ j ≤ i ∧ Aside0 (ks.length = j) ∧ Aside0 (Tl w2 wr T bl n vW vS vk (.slice Ab i cb) vk ks)) (fun v54 _ _ => i - (intOf v54).toNat)
            case atStart => exact ⟨0, _, [], rfl, Nat.zero_le _, ⟨rfl⟩, ⟨gb_refl _ _, HKN.out, HTZ.out, Kd.R_nil _ _ _ _ _⟩⟩
            case round =>
              obtain ⟨j, vk, ks, rfl, hj, HKL, HTK⟩ := hrel
              clear t0 t1 t2 t3 t4 t5
              by_cases hlt2 : j < i
              · as_aux_lemma =>
                  have hb2 : decide (j < i) = true := decide_eq_true hlt2
                  obtain ⟨Ak, ck, hvk⟩ := Kd.R_slice HTK.out.r
                  rw [HKL.out] at hvk
                  subst hvk
                  obtain ⟨q, hAb, hq2, HAR0⟩ := HAZ.out (by omega)
                  obtain ⟨q1, cq1, hw1, _, hw3, _⟩ := Kd.R_form HWR.out (by omega)
                  injection hw1 with hw1 hw1b hw1c
                  subst hAb hw1
                  have HAR := Aside0.mk (HAR0.gb HTK.out.gb (by have := blk_lt HTT.out; omega))
                  obtain ⟨x0, hx, ⟨hx0, hx1⟩, fx⟩ := HAR.out.at j hlt2
                  obtain ⟨x, rfl⟩ : ∃ x : Nat, x0 = x := ⟨x0.toNat, by omega⟩
                  have hgT := gb_trans HGZ.out HTK.out.gb
                  have hcs := row_cells HWR.out HBT.out hgT (by have := HLT.out; omega) hw3
                  have hx2 := hcs x (by omega)
                  have hzz := blk_gb hgT HZT.out (by have := HLT.out; omega)
                  have HZZ := Aside0.mk hzz
                  obtain ⟨z0, z1, z2, z3⟩ := blk4 hzz
                  obtain ⟨t0, t1, t2, t3, t4, t5⟩ := blk6 HTK.out.t
                  have q1 : (x : Int) < (ws.length : Int) := by omega
                  have q1b : decide (x < ws.length) = true := decide_eq_true (by omega)
                  have q2 : (j : Int) < (i : Int) := by omega
                  have tx4 : ∀ X, (wr.alloc X).cell? ⟨T, 4, none⟩ = some (.slice Ak j ck) := fun X => (blk6 (blk_alloc HTK.out.t X)).2.2.2.2.1
                  obtain ⟨y, hy⟩ : ∃ y, y = rd ws (x : Int) := ⟨_, rfl⟩
                  rw [← hy] at hx2
                  clear hw1b hw1c hq2 hw3 HAR0 fx hgT hcs hzz z0 z1 z3 t0 t1 t2 t3 t5 hx1 hx0 hy
                  go_upto_region 13 with fail
                  have HTD := Aside0.mk (HTK.out.below (below_drew1 (Below.refl _ _)))
                  go_region_law (refine Kd.R_append_step (Kd.int .i64) (w0 := wr.drew) (W := wr.drew) w2.heap.size ?aW (.tmp 62) (.tmp 68) 69 3 (.int .i64 0) 8 ?aO Try.underlying69 info3 (by decide) (by decide) (by decide) (.slice Ak j ck) ks y [.int .i64 y] (fun _ => True) (fun _ => False) ?aS ?aX rfl (fun _ hk => hk.elim) (fun _ _ => trivial) HTD.out.r (Below.refl _ _) HTD.out.gb.size ?aL ?_; (case aW => rfl); (case aO => rfl); (case aS => rfl); (case aX => rfl); (case aL => rw [HKL.out]; omega); intro v1 w1 hR1 hB1 hG1 hO1; obtain ⟨A1', c1', hv1⟩ := Kd.R_slice hR1; rw [List.length_append, List.length_singleton, HKL.out] at hv1; subst hv1; have HPUT := Aside0.mk (HTD.out.put hR1 hG1 4 (vk1 := .slice A1' (j + 1) c1') (vb1 := .slice (some ⟨q, 0, none⟩) i cb) rfl); obtain ⟨e0, e1, e2, e3, e4, e5⟩ := blk6 (blk_grown HTD.out.t hG1 (fun e => by have := Kd.R_base HTD.out.r _ e.symm; have := HTD.out.lt; omega)); obtain ⟨f4, f5⟩ := blk6f (blk_grown HTD.out.t hG1 (fun e => by have := Kd.R_base HTD.out.r _ e.symm; have := HTD.out.lt; omega)); clear hR1 hB1 hG1 hO1)
                  all_goals
                    go_wp2_with fail
                    go_roundw
                    case rel =>
                      refine ⟨j + 1, .slice A1' (j + 1) c1', ks ++ [y], by go_num, by omega, ⟨by rw [List.length_append, HKL.out]; rfl⟩, ?_⟩
                      first | exact HPUT | exact ⟨HPUT.out.below (below_drew1 (Below.refl _ _))⟩
                    case measure => simp [intOf]; omega
              · as_aux_lemma =>
                  have hb2 : decide (j < i) = false := decide_eq_false hlt2
                  have hje : j = i := by omega
                  subst hje
                  go_wp2_with fail
                  have hgT := gb_trans HGZ.out HTK.out.gb
                  refine bodyPost_ret (results_tmp2 rfl _ _ _) rfl ⟨T, rfl, below_gb2 HBT.out hgT (by have := HLT.out; omega), ?_⟩
                  rw [← HNB.out]
                  refine ⟨by have := HLT.out; omega, vW, vS, Ab, cb, vk, ks, HTK.out.t, ?_, ?_, ?_, HKL.out, fun hp => ?_⟩
                  · exact Kd.R_grown2 HRT.out rfl hgT (fun k hk => by injection hk with hk; subst hk; exact Kd.R_ne HRT.out HTT.out (by decide))
                  · exact Kd.R_grown2 HST.out rfl hgT (fun k hk => by injection hk with hk; subst hk; exact Kd.R_ne HST.out HTT.out (by decide))
                  · exact Kd.R_lower HTK.out.r (Nat.le_trans HBT.out.size HGZ.out.size)
                  · obtain ⟨q, h1, h2, h3⟩ := HAZ.out hp
                    exact ⟨q, h1, Nat.le_trans HBT.out.size h2, h3.gb HTK.out.gb (by have := blk_lt HTT.out; omega)⟩
end Go.Proofs.Ytjgelmfkoefclaa.PAll
