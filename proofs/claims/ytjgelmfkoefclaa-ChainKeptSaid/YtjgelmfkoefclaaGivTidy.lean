import Derived.BigQuiet
import Derived.Test.YtjgelmfkoefclaaGivFlush
namespace Go.Proofs.Ytjgelmfkoefclaa.PAll
open Go.RowKit Go.Proofs.YtjgelmfkoefclaaW.PrintWords Go.Proofs.YtjgelmfkoefclaaW.PrintLast Go.Proofs.YtjgelmfkoefclaaW.PrintMore
set_option linter.unusedVariables false
set_option linter.unusedSimpArgs false
attribute [local go_sem] max2_int min2_int max_two min_two

theorem below_undrew {B : Nat} {w w1 : World} (h : Below B w w1) (n : Nat) : Below B (w.drewN n) w1 := ⟨h.os, h.tape, h.output, h.size, h.block⟩

theorem FR.merge {bh bo base : Nat} {ok : Nat → Prop} {v : Value} {w wr : World} {t : ByteArray} {g n cap : Nat} {ys : List S54} (h : FR bh bo base ok v w wr t (.slice (some ⟨g, 0, none⟩) n cap) ys) (hok : ∀ k, ok k → k ≠ bh ∧ k ≠ bo) (j : Nat) (hj : j < n) (m : Int) :
    FR bh bo base ok v w (wr.setCell ⟨g, j * 3 + 1, none⟩ (.int .i64 m)) t (.slice (some ⟨g, 0, none⟩) n cap) (ys.set j ⟨(rd_T54 ys (j : Int)).f0, m, (rd_T54 ys (j : Int)).f2⟩) := by
  have hown : (Value.slice (some ⟨g, 0, none⟩) n cap).ownBlock = some g := rfl
  have a1 := hok g (h.R.1 g hown)
  obtain ⟨c, hcl, hM, hcc, hfr⟩ := Kd.R_elem h.R z54 (j : Int) (by omega) (by omega)
  obtain rfl := k54_openM hM
  have HP := Kd.R_seg h.R (j : Int) (by omega) (by omega) (seg := [.int .i64 m]) (j := 1) hcl hcc (show 2 ≤ 3 from by decide) (x' := (⟨(rd_T54 ys (j : Int)).f0, m, (rd_T54 ys (j : Int)).f2⟩ : S54)) (k54_mkM _ _ _ (⟨(rd_T54 ys (j : Int)).f0, m, (rd_T54 ys (j : Int)).f2⟩ : S54)) (fun _ hk => hk)
  refine ⟨blk_far h.hh (Ne.symm a1.1) _, blk_far h.ho (Ne.symm a1.2) _, HP.1, ?_, h.bl.setCell (p := ⟨g, j * 3 + 1, none⟩) (Kd.R_base h.R g hown) _, h.ow⟩
  refine h.kp.setCell ?_ _
  rcases h.ow with e | ⟨b, e, hb⟩
  · exact .inl (.inr (.inr (hown.symm.trans e)))
  · rw [hown] at e; injection e with e; subst e; exact .inr hb
theorem empty_of_size (t : ByteArray) (h : t.size = 0) : t = ⟨#[]⟩ := by
  obtain ⟨d⟩ := t
  have : d.size = 0 := h
  rw [Array.eq_empty_of_size_eq_zero this]

set_option maxHeartbeats 2000000 in
set_option maxRecDepth 100000 in
theorem tidy_calls (A0 : Option Addr) (c0 : Nat) (l : List S54) (w : World) (hr0 : Kd.C k54 w A0 l.length l) (hc0 : l.length ≤ c0) (hok : TidyOk l) :
    Calls Try.prog 17 #[.slice A0 l.length c0] w fun e w' => ∃ v : Value, e = .returned v ∧ Kd.R k54 54 w' w.heap.size (fun _ => True) v (tidyV l) ∧ Below w.heap.size w w' := by
  have HR0 := Aside0.mk hr0
  have HC0 := Aside0.mk hc0
  have HOK := Aside0.mk hok
  have hln : l.length ≤ 1000000 := hok.1
  clear hr0 hc0 hok
  go_enter Try.func17, Try.ntmps17
  go_wp2_with fail
  go_loopw [12] (fun v12 wr => ∃ (k : Nat) (v' : Value), k ≤ l.length ∧ v12 = .int .i64 k ∧ Aside0 (FR (w.heap.size + 1) w.heap.size w.heap.size (fun b => w.heap.size + 2 ≤ b) v' wr wr (tidyF (l.take k)).1 v' (tidyF (l.take k)).2) ∧ Aside0 (Below w.heap.size w wr)) (fun v12 _ => l.length - (intOf v12).toNat)
  case atStart =>
    refine ⟨0, .slice none 0 0, Nat.zero_le _, rfl, ⟨⟨?_, ?_, ?_, Kept.refl _ _, Below.refl _ _, .inl rfl⟩⟩, ⟨below_alloc (below_alloc (Below.refl _ _) _) _⟩⟩
    · have := blk_new (w.alloc (Obj.cells #[Value.slice none 0 0] 22 (0, 0))) (Obj.cells #[Value.string { data := #[] }] 9 (0, 0))
      rw [show (w.alloc (Obj.cells #[Value.slice none 0 0] 22 (0, 0))).heap.size = w.heap.size + 1 from by simp] at this
      exact this
    · exact blk_alloc (blk_new w _) _
    · exact Kd.R_nil _ _ _ _ _
  case round =>
    obtain ⟨k, v', hk, rfl, HF, HB⟩ := hrel
    by_cases hlt : k < l.length
    · have hb1 : decide (k < l.length) = true := decide_eq_true hlt
      obtain ⟨ad, rfl, g0, g1, g2⟩ := at_T54 (Kd.C_below HR0.out HB.out) (k : Int) (by omega) (by omega)
      have HT := Aside0.mk (tidyF_succ l k hlt)
      obtain ⟨x, hx⟩ : ∃ x, x = rd_T54 l (k : Int) := ⟨_, rfl⟩
      rw [← hx] at g0 g1 g2 HT
      rw [Int.toNat_natCast] at g0 g1 g2
      obtain ⟨p, q, t⟩ := x
      have HX := Aside0.mk hx
      clear hx
      obtain ⟨st, hst⟩ : ∃ st, st = tidyF (l.take k) := ⟨_, rfl⟩
      rw [← hst] at HT HF
      have HLEN := Aside0.mk (tidyF_length (l.take k))
      rw [← hst] at HLEN
      have HST := Aside0.mk hst
      clear hst
      obtain ⟨held, out⟩ := st
      have htl : t.toList.length = t.size := by rw [ByteArray.toList_eq]; exact data_length t
      have hB2 : w.heap.size + 2 ≤ wr.heap.size := by have := blk_lt HF.out.hh; omega
      have HTL := Aside0.mk (text_le l k)
      rw [← HX.out] at HTL
      have HTS := Aside0.mk (textSum_take l k)
      by_cases hz : t.size = 0
      · have hem : t.toList.isEmpty = true := by rw [List.isEmpty_iff, ← List.length_eq_zero_iff, htl]; exact hz
        by_cases hq : q ≤ 0
        · have hqb : decide (q ≤ 0) = true := decide_eq_true hq
          go_wp2_with fail
          go_roundw
          case rel =>
            refine ⟨k + 1, v', by omega, by go_num, ⟨?_⟩, ⟨below_alloc HB.out _⟩⟩
            have e : tidyF (List.take (k + 1) l) = (held, out) := by rw [HT.out]; unfold tidyS; rw [if_neg (by simpa using hz), if_pos hq]
            rw [e]
            exact HF.out.alloc _
          case measure => simp [intOf]; omega
        · have hqb : decide (q ≤ 0) = false := decide_eq_false hq
          have HFA := Aside0.mk (HF.out.alloc (.cells #[.int .i64 p, .int .i64 q, .string t] 54 (0, 0))).self
          have HSL : Aside0 (held.size ≤ 1000000000 ∧ out.length ≤ 1000000000 ∧ held.size + out.length ≤ 501000000) := ⟨by have := HLEN.out; have := HTS.out; have h2 := HOK.out; unfold TidyOk at h2; rw [List.length_take] at *; simp only at *; omega⟩
          go_wp2_with (go_at_call 32; go_loud (refine (flush_calls (w.heap.size + 1) w.heap.size w.heap.size (fun b => w.heap.size + 2 ≤ b) v' out held _ HFA.out (by simp only [World.size_alloc]; omega) (by omega) (by omega) (by omega) (fun k hk => by omega) (fun k hk => by simp only [World.size_alloc] at hk; omega) HSL.out.1 HSL.out.2.1).mono ?_; rintro _ wa ⟨rfl, v2, t2, ht2, hf2⟩; have HF2 := Aside0.mk hf2; clear hf2; have hol : (out ++ flushN held.size held).length ≤ 501000000 := (by have := flushN_length held.size held; have := HSL.out.2.2; simp only [List.length_append]; omega); obtain ⟨o, hoe⟩ : ∃ o, o = out ++ flushN held.size held := ⟨_, rfl⟩; rw [← hoe] at HF2 hol; have HOE := Aside0.mk hoe; clear hoe; have hbo2 : wa.cell? ⟨w.heap.size, 0, none⟩ = some v2 := (blk_cell HF2.out.ho 0).trans rfl; have hbxn : some wr.heap.size ≠ v'.ownBlock := (fun e => absurd (Kd.R_lt HF.out.R _ e.symm) (Nat.lt_irrefl _)); have HBX : Aside0 (wa.heap[wr.heap.size]? = some (.cells #[.int .i64 p, .int .i64 q, .string t] 54 (0, 0))) := ⟨(HF2.out.kp.2 wr.heap.size (by simp only [World.size_alloc]; omega) (by rintro (h | h | h); omega; omega; exact hbxn h)).trans (blk_new _ _)⟩; have hx0 : wa.cell? ⟨wr.heap.size, 0, none⟩ = some (.int .i64 p) := (blk_cell HBX.out 0).trans rfl; have hx1 : wa.cell? ⟨wr.heap.size, 1, none⟩ = some (.int .i64 q) := (blk_cell HBX.out 1).trans rfl; have hx2 : wa.cell? ⟨wr.heap.size, 2, none⟩ = some (.string t) := (blk_cell HBX.out 2).trans rfl; obtain ⟨A2, c2, rfl⟩ := Kd.R_slice HF2.out.R; have hw1 : wrap64 ((o.length : Int) - 1) = (o.length : Int) - 1 := (by unfold wrap64; omega); have HBA := Aside0.mk ((below_alloc HB.out (.cells #[.int .i64 p, .int .i64 q, .string t] 54 (0, 0))).trans HF2.out.bl)))
          have htp : tidyF (List.take (k + 1) l) = (⟨#[]⟩, tidyCopy o ⟨p, q, t⟩) := by rw [HT.out]; unfold tidyS; rw [if_neg (by simpa using hz), if_neg (show ¬ q ≤ 0 by omega), HOE.out]
          have HTP := Aside0.mk htp
          clear htp HT
          obtain rfl := empty_of_size t2 ht2
          have HSA : Aside0 (w.heap.size + 2 ≤ wa.heap.size) := ⟨by have := blk_lt HF2.out.hh; omega⟩
          have HSB : Aside0 (w.heap.size ≤ wa.heap.size) := ⟨by have := HSA.out; omega⟩
          by_cases hn : o.length = 0
          · have hn1 : decide (1 ≤ (o.length : Int)) = false := decide_eq_false (by omega)
            have HN := Aside0.mk hn
            clear hn
            go_quiet (fail)
            go_wp2_with ((with_reducible refine gate_builtin (b := .append) (xs := #[.tmp 67, .tmp 73]) rfl ?_); at_builtin; go_loud (refine Kd.R_append k54 (w0 := wa) w.heap.size rfl (.tmp 67) (.tmp 73) 22 54 (.agg #[(.int .i64 0), (.int .i64 0), (.string ⟨#[]⟩)]) 32 rfl Try.underlying22 info54 rfl (by decide) (by omega) (.slice A2 o.length c2) o (⟨p, q, ⟨#[]⟩⟩ : S54) [.int .i64 p, .int .i64 q, .string ⟨#[]⟩] (fun b => w.heap.size + 2 ≤ b) (fun _ => False) rfl ?aX ?aP (fun _ hk => hk.elim) ?aF ?aO ?aB ?aS ?aL ?_; (case aX => (first | rfl | (simp; done))); (case aP => exact k54_mkM _ _ _ (⟨p, q, ⟨#[]⟩⟩ : S54)); (case aF => exact (fun k_ hk => Nat.le_trans HSA.out (by first | exact hk | simpa using hk))); (case aO => exact (by (with_reducible repeat (first | apply Kd.R_alloc | apply Kd.R_drewN | apply Kd.R_drew)); exact HF2.out.R)); (case aB => exact (by repeat (first | (with_reducible first | exact Below.refl _ _ | apply pw_below_drewN | apply below_drew1) | exact Below.refl _ _))); (case aS => exact HSB.out); (case aL => omega); intro v1 w1 hR1 hB1 hG1 hO1; have hgr := (HF2.out.drewN _).grown (fun k_ hk => by omega) hG1; have hc1 : w1.cell? ⟨w.heap.size, 0, none⟩ = some (.slice A2 o.length c2) := (blk_cell hgr.2 0).trans rfl; have hf1 : w1.frozen? ⟨w.heap.size, 0, none⟩ = false := blk_frozen hgr.2 0; clear hgr; obtain ⟨A1, c1, hv1⟩ := Kd.R_slice hR1; rw [List.length_append, List.length_singleton] at hv1; subst hv1; have HF3 := Aside0.mk (FR.out (HF2.out.drewN _) (fun k_ hk => by omega) (by omega) (Nat.le_refl _) hR1 (below_undrew hB1 _) hG1 hO1); clear hR1 hB1 hG1 hO1))
            go_roundw
            case rel =>
              have htc : tidyCopy o ⟨p, q, t⟩ = o ++ [⟨p, q, ⟨#[]⟩⟩] := by unfold tidyCopy; rw [if_neg (by rintro ⟨h, _⟩; exact h HN.out)]
              refine ⟨k + 1, .slice A1 (o.length + 1) c1, by omega, by go_num, ⟨?_⟩, ⟨?_⟩⟩
              · rw [HTP.out, htc]
                exact (by first | exact HF3.out.self | exact (HF3.out.drewN _).self)
              · exact (below_alloc HB.out _).trans (by first | exact HF3.out.bl | exact (HF3.out.drewN _).bl)
            case measure => simp [intOf]; omega
          · obtain ⟨jn, hjn⟩ : ∃ jn, o.length = jn + 1 := ⟨o.length - 1, by omega⟩
            have hji : (o.length : Int) - 1 = (jn : Int) := by omega
            have hjl : jn < o.length := by omega
            have hjb : decide (jn < o.length) = true := decide_eq_true (by omega)
            rw [hji]
            obtain ⟨g, cap, hv2, hgb, hgl, hgt⟩ := Kd.R_form HF2.out.R (by omega)
            obtain ⟨rfl, rfl⟩ : A2 = some ⟨g, 0, none⟩ ∧ c2 = cap := by injection hv2 with e1 _ e2; exact ⟨e1, e2⟩
            obtain ⟨cy, hcl, hM, hcc, hfr⟩ := Kd.R_elem HF2.out.R z54 (jn : Int) (by omega) (by omega)
            obtain rfl := k54_openM hM
            obtain ⟨y, hy⟩ : ∃ y, y = rd_T54 o (jn : Int) := ⟨_, rfl⟩
            have y0' : wa.cell? ⟨g, jn * 3, none⟩ = some (.int .i64 y.f0) := by rw [hy]; exact hcc 0 _ rfl
            have y1' : wa.cell? ⟨g, jn * 3 + 1, none⟩ = some (.int .i64 y.f1) := by rw [hy]; exact hcc 1 _ rfl
            have y2' : wa.cell? ⟨g, jn * 3 + 2, none⟩ = some (.string y.f2) := by rw [hy]; exact hcc 2 _ rfl
            clear hcl hM hcc hfr
            have HJN := Aside0.mk hjn
            clear hjn hji hn
            have HY := Aside0.mk hy
            clear hy hv2
            have hyl : y.f2.toList.length = y.f2.size := by rw [ByteArray.toList_eq]; exact data_length y.f2
            have hgf : ∀ i, wa.frozen? ⟨g, i, none⟩ = false := fun i => by obtain ⟨cells, hc⟩ := hgt; exact blk_frozen hc i
            have hgf1 := hgf (jn * 3 + 1)
            by_cases hy2 : y.f2.size = 0
            · have hye : y.f2.toList.isEmpty = true := by rw [List.isEmpty_iff, ← List.length_eq_zero_iff, hyl]; exact hy2
              by_cases hyp : wrap64 (y.f0 + y.f1) = p
              · have hpb : (wrap64 (y.f0 + y.f1) == p) = true := beq_iff_eq.mpr hyp
                have htc : tidyCopy o ⟨p, q, t⟩ = o.set jn ⟨y.f0, wrap64 (y.f1 + q), y.f2⟩ := by
                  have hjo : o.length - 1 = jn := by have := HJN.out; omega
                  unfold tidyCopy
                  rw [hjo, ← HY.out, if_pos ⟨by have := HJN.out; omega, hy2, hyp⟩]
                have HTC := Aside0.mk htc
                clear htc
                go_quiet (fail)
                go_wp2_with fail
                go_region
                go_wp2_with fail
                go_roundw
                case rel =>
                  refine ⟨k + 1, .slice (some ⟨g, 0, none⟩) o.length c2, by omega, by go_num, ⟨?_⟩, ⟨?_⟩⟩
                  · rw [HTP.out, HTC.out]
                    have := FR.merge HF2.out (fun k_ hk => by omega) jn hjl (wrap64 (y.f1 + q))
                    rw [← HY.out] at this
                    exact (by first | exact this.self | exact (this.drewN _).self)
                  · have := FR.merge HF2.out (fun k_ hk => by omega) jn hjl (wrap64 (y.f1 + q))
                    exact (below_alloc HB.out _).trans (by first | exact this.bl | exact (this.drewN _).bl)
                case measure => simp [intOf]; omega
              · have hpb : (wrap64 (y.f0 + y.f1) == p) = false := beq_eq_false_iff_ne.mpr hyp
                go_quiet (fail)
                go_wp2_with ((with_reducible refine gate_builtin (b := .append) (xs := #[.tmp 67, .tmp 73]) rfl ?_); at_builtin; go_loud (refine Kd.R_append k54 (w0 := wa) w.heap.size rfl (.tmp 67) (.tmp 73) 22 54 (.agg #[(.int .i64 0), (.int .i64 0), (.string ⟨#[]⟩)]) 32 rfl Try.underlying22 info54 rfl (by decide) (by omega) (.slice (some ⟨g, 0, none⟩) o.length c2) o (⟨p, q, ⟨#[]⟩⟩ : S54) [.int .i64 p, .int .i64 q, .string ⟨#[]⟩] (fun b => w.heap.size + 2 ≤ b) (fun _ => False) rfl ?aX ?aP (fun _ hk => hk.elim) ?aF ?aO ?aB ?aS ?aL ?_; (case aX => (first | rfl | (simp; done))); (case aP => exact k54_mkM _ _ _ (⟨p, q, ⟨#[]⟩⟩ : S54)); (case aF => exact (fun k_ hk => Nat.le_trans HSA.out (by first | exact hk | simpa using hk))); (case aO => exact (by (with_reducible repeat (first | apply Kd.R_alloc | apply Kd.R_drewN | apply Kd.R_drew)); exact HF2.out.R)); (case aB => exact (by repeat (first | (with_reducible first | exact Below.refl _ _ | apply pw_below_drewN | apply below_drew1) | exact Below.refl _ _))); (case aS => exact HSB.out); (case aL => omega); intro v1 w1 hR1 hB1 hG1 hO1; have hgr := (HF2.out.drewN _).grown (fun k_ hk => by omega) hG1; have hc1 : w1.cell? ⟨w.heap.size, 0, none⟩ = some (.slice (some ⟨g, 0, none⟩) o.length c2) := (blk_cell hgr.2 0).trans rfl; have hf1 : w1.frozen? ⟨w.heap.size, 0, none⟩ = false := blk_frozen hgr.2 0; clear hgr; obtain ⟨A1, c1, hv1⟩ := Kd.R_slice hR1; rw [List.length_append, List.length_singleton] at hv1; subst hv1; have HF3 := Aside0.mk (FR.out (HF2.out.drewN _) (fun k_ hk => by omega) (by omega) (Nat.le_refl _) hR1 (below_undrew hB1 _) hG1 hO1); clear hR1 hB1 hG1 hO1))
                go_roundw
                case rel =>
                  have htc : tidyCopy o ⟨p, q, t⟩ = o ++ [⟨p, q, ⟨#[]⟩⟩] := by unfold tidyCopy; rw [if_neg (by rintro ⟨_, _, h⟩; rw [show o.length - 1 = jn from (by have := HJN.out; omega), ← HY.out] at h; exact hyp h)]
                  refine ⟨k + 1, .slice A1 (o.length + 1) c1, by omega, by go_num, ⟨?_⟩, ⟨?_⟩⟩
                  · rw [HTP.out, htc]
                    exact (by first | exact HF3.out.self | exact (HF3.out.drewN _).self)
                  · exact (below_alloc HB.out _).trans (by first | exact HF3.out.bl | exact (HF3.out.drewN _).bl)
                case measure => simp [intOf]; omega
            · have hye : y.f2.toList.isEmpty = false := by rw [Bool.eq_false_iff, Ne, List.isEmpty_iff, ← List.length_eq_zero_iff, hyl]; exact hy2
              go_quiet (fail)
              go_wp2_with ((with_reducible refine gate_builtin (b := .append) (xs := #[.tmp 67, .tmp 73]) rfl ?_); at_builtin; go_loud (refine Kd.R_append k54 (w0 := wa) w.heap.size rfl (.tmp 67) (.tmp 73) 22 54 (.agg #[(.int .i64 0), (.int .i64 0), (.string ⟨#[]⟩)]) 32 rfl Try.underlying22 info54 rfl (by decide) (by omega) (.slice (some ⟨g, 0, none⟩) o.length c2) o (⟨p, q, ⟨#[]⟩⟩ : S54) [.int .i64 p, .int .i64 q, .string ⟨#[]⟩] (fun b => w.heap.size + 2 ≤ b) (fun _ => False) rfl ?aX ?aP (fun _ hk => hk.elim) ?aF ?aO ?aB ?aS ?aL ?_; (case aX => (first | rfl | (simp; done))); (case aP => exact k54_mkM _ _ _ (⟨p, q, ⟨#[]⟩⟩ : S54)); (case aF => exact (fun k_ hk => Nat.le_trans HSA.out (by first | exact hk | simpa using hk))); (case aO => exact (by (with_reducible repeat (first | apply Kd.R_alloc | apply Kd.R_drewN | apply Kd.R_drew)); exact HF2.out.R)); (case aB => exact (by repeat (first | (with_reducible first | exact Below.refl _ _ | apply pw_below_drewN | apply below_drew1) | exact Below.refl _ _))); (case aS => exact HSB.out); (case aL => omega); intro v1 w1 hR1 hB1 hG1 hO1; have hgr := (HF2.out.drewN _).grown (fun k_ hk => by omega) hG1; have hc1 : w1.cell? ⟨w.heap.size, 0, none⟩ = some (.slice (some ⟨g, 0, none⟩) o.length c2) := (blk_cell hgr.2 0).trans rfl; have hf1 : w1.frozen? ⟨w.heap.size, 0, none⟩ = false := blk_frozen hgr.2 0; clear hgr; obtain ⟨A1, c1, hv1⟩ := Kd.R_slice hR1; rw [List.length_append, List.length_singleton] at hv1; subst hv1; have HF3 := Aside0.mk (FR.out (HF2.out.drewN _) (fun k_ hk => by omega) (by omega) (Nat.le_refl _) hR1 (below_undrew hB1 _) hG1 hO1); clear hR1 hB1 hG1 hO1))
              go_roundw
              case rel =>
                have htc : tidyCopy o ⟨p, q, t⟩ = o ++ [⟨p, q, ⟨#[]⟩⟩] := by unfold tidyCopy; rw [if_neg (by rintro ⟨_, h, _⟩; rw [show o.length - 1 = jn from (by have := HJN.out; omega), ← HY.out] at h; exact hy2 h)]
                refine ⟨k + 1, .slice A1 (o.length + 1) c1, by omega, by go_num, ⟨?_⟩, ⟨?_⟩⟩
                · rw [HTP.out, htc]
                  exact (by first | exact HF3.out.self | exact (HF3.out.drewN _).self)
                · exact (below_alloc HB.out _).trans (by first | exact HF3.out.bl | exact (HF3.out.drewN _).bl)
              case measure => simp [intOf]; omega
      · have hem : t.toList.isEmpty = false := by rw [Bool.eq_false_iff, Ne, List.isEmpty_iff, ← List.length_eq_zero_iff, htl]; exact hz
        have hhh : (wr.alloc (.cells #[.int .i64 p, .int .i64 q, .string t] 54 (0, 0))).cell? ⟨w.heap.size + 1, 0, none⟩ = some (.string held) := (blk_cell (blk_alloc HF.out.hh _) 0).trans rfl
        have hhf : (wr.alloc (.cells #[.int .i64 p, .int .i64 q, .string t] 54 (0, 0))).frozen? ⟨w.heap.size + 1, 0, none⟩ = false := blk_frozen (blk_alloc HF.out.hh _) 0
        have hbig : ¬ (9223372036854775807 < held.size + t.size) := (by have := HLEN.out; have := HTS.out; have := HTL.out; have h2 := HOK.out; unfold TidyOk at h2; rw [List.length_take] at *; simp only at *; omega)
        go_wp2_with fail
        go_roundw
        case rel =>
          refine ⟨k + 1, v', by omega, by go_num, ⟨?_⟩, ⟨(below_alloc HB.out _).setCell (p := ⟨w.heap.size + 1, 0, none⟩) (Nat.le_succ _) _⟩⟩
          have e : tidyF (List.take (k + 1) l) = (held ++ t, out) := by rw [HT.out]; unfold tidyS; rw [if_pos hz]
          rw [e]
          exact ((HF.out.alloc _).held (fun b hb => by omega) (by omega) (by omega) _).self
        case measure => simp [intOf]; omega
    · have hke : k = l.length := by omega
      subst hke
      rw [List.take_length] at HF
      have HLEN := Aside0.mk (tidyF_length l)
      have hB2 : w.heap.size + 2 ≤ wr.heap.size := by have := blk_lt HF.out.hh; omega
      have HSL : Aside0 ((tidyF l).1.size ≤ 1000000000 ∧ (tidyF l).2.length ≤ 1000000000) := ⟨by have := HLEN.out; have h2 := HOK.out; unfold TidyOk at h2; omega⟩
      go_wp2_with (go_at_call 32; refine (flush_calls (w.heap.size + 1) w.heap.size w.heap.size (fun b => w.heap.size + 2 ≤ b) v' (tidyF l).2 (tidyF l).1 _ HF.out (by omega) (by omega) (by omega) (by omega) (fun k hk => by omega) (fun k hk => by omega) HSL.out.1 HSL.out.2).mono ?_; rintro _ wa ⟨rfl, v2, t2, ht2, hf2⟩; have HF2 := Aside0.mk hf2; clear hf2; have hbo2 : wa.cell? ⟨w.heap.size, 0, none⟩ = some v2 := (blk_cell HF2.out.ho 0).trans rfl)
      go_ret
      exact ⟨v2, rfl, Kd.R_mono HF2.out.R (fun _ _ => trivial), HB.out.trans HF2.out.bl⟩

def chain_Tidy.f (_k : Nat) (l0 : List S54) : Option (List S54) := if TidyOk l0 then some (tidyV l0) else none
theorem chain_Tidy.mono : ∀ a0 k, LeO (chain_Tidy.f k a0) (chain_Tidy.f (k + 1) a0) := fun _ _ => LeO.refl _
theorem chain_Tidy.calls (k : Nat) (A0 : Option Addr) (c0 : Nat) (l0 : List S54) (r : List S54) (w : World) (hr0 : Kd.C k54 w A0 l0.length l0) (hc0 : l0.length ≤ c0) (h : chain_Tidy.f k l0 = some r) :
    Calls Try.prog 17 #[.slice A0 l0.length c0] w fun e w' => ∃ v0_ : Value, e = .returned v0_ ∧ Kd.R k54 54 w' w.heap.size (fun _ => True) v0_ r ∧ Below w.heap.size w w' := by
  unfold chain_Tidy.f at h
  by_cases hok : TidyOk l0
  · rw [if_pos hok] at h
    obtain rfl := Option.some.inj h
    exact tidy_calls A0 c0 l0 w hr0 hc0 hok
  · rw [if_neg hok] at h
    cases h
end Go.Proofs.Ytjgelmfkoefclaa.PAll
