import Derived.BigQuiet
import Derived.Outline
import Derived.Deep.DeepMust
import Derived.RegionTactic
import Derived.Test.YtjgelmfkoefclaaGivLaid
import Derived.Test.YtjgelmfkoefclaaGivSearch
import Derived.Test.YtjgelmfkoefclaaPAllx11
import Derived.Test.YtjgelmfkoefclaaBase
import Derived.Test.YtjgelmfkoefclaaBasd
namespace Go.Proofs.Ytjgelmfkoefclaa.PAll
open Go.RowKit Go.Proofs.YtjgelmfkoefclaaW.PrintWords Go.Proofs.YtjgelmfkoefclaaW.PrintLast Go.Proofs.YtjgelmfkoefclaaW.PrintMore
set_option linter.unusedVariables false
set_option linter.unusedSimpArgs false
attribute [local go_sem] max2_int min2_int max_two min_two

theorem cut_f (p q : Int) (t : ByteArray) (off k : Nat) (r1 r2 : Int) (r3 : ByteArray) (h1 : q = 0 ∨ t.size = 0) (h2 : off + k ≤ lenN ⟨p, q, t⟩) (h3 : off + k ≤ 1000000) (hc : cutV ⟨p, q, t⟩ off k = ⟨r1, r2, r3⟩) : chain_cut.f p q t off (k : Nat) = some (r1, r2, r3) := by
  unfold chain_cut.f
  unfold cutV at hc
  have hz : t.toList = ([] : List UInt8) ↔ t.size = 0 := by
    rw [← data_length t, ByteArray.toList_eq]; exact List.length_eq_zero_iff.symm
  unfold lenN at h2
  simp only at h2 hc
  by_cases h0 : t.size = 0
  · rw [if_pos (hz.2 h0)]
    rw [if_pos h0] at hc
    injection hc with e1 e2 e3
    rw [← e1, ← e2, ← e3]
  · rw [if_neg (fun h => h0 (hz.1 h))]
    rw [if_neg h0] at hc
    injection hc with e1 e2 e3
    have hw : wrap64 ((off : Int) + (k : Int)) = ((off + k : Nat) : Int) := by unfold wrap64; omega
    rw [hw, if_pos (by omega), if_pos (by omega), if_pos (by rcases h1 with h | h <;> omega), Int.toNat_natCast, Int.toNat_natCast]
    subst e1 e2 e3; rfl

set_option maxHeartbeats 2000000 in
set_option maxRecDepth 100000 in
theorem piece_calls (b : Nat) (A Af : Option Addr) (c cf : Nat) (l : List S54) (at_ n : Nat) (w : World) (hb : w.heap[b]? = some (.cells #[.slice A l.length c, .slice Af l.length cf] 82 (0, 0))) (hl : Kd.C k54 w A l.length l) (hf : Kd.C (Kd.int .i64) w Af l.length (fromT l l.length)) (hok : StepsOk l) (hn : 0 < n) (han : at_ + n ≤ sumN l) :
    Calls Try.prog 30 #[.pointer (some ⟨b, 0, none⟩), .int .i64 at_, .int .i64 n] w fun e w' => ∃ v : Value, e = .returned v ∧ Kd.R k54 54 w' w.heap.size (fun _ => True) v (pieceAt l at_ n) ∧ Below w.heap.size w w' := by
  have hc0 : w.cell? ⟨b, 0, none⟩ = some (.slice A l.length c) := (blk_cell hb 0).trans rfl
  have hc1 : w.cell? ⟨b, 1, none⟩ = some (.slice Af l.length cf) := (blk_cell hb 1).trans rfl
  have HB := Aside0.mk hb
  have HL := Aside0.mk hl
  have HF := Aside0.mk hf
  have HOK := Aside0.mk hok
  have hs2 := hok.2.1
  have hmono : ∀ p q : Nat, p ≤ q → q < l.length → rd (fromT l l.length) (p : Nat) ≤ rd (fromT l l.length) (q : Nat) := fun p q h1 h2 => by
    rw [rd_from l hok p (by omega), rd_from l hok q h2]
    have := sumN_take_mono l p q h1
    omega
  have hfl := fromT_length l l.length
  have HS := Aside0.mk (searchInts_calls Af cf (fromT l l.length) ((at_ + 1 : Nat) : Int) w (by rw [hfl]; exact hf) (by rw [hfl]; exact hok.1) (by rw [hfl]; exact hmono))
  rw [hfl] at HS
  clear hb hl hf hok hmono
  go_enter Try.func30, Try.ntmps30
  go_wp2_with (go_at_call 41; go_loud (refine HS.out.mono ?_; rintro _ wb ⟨r, rfl, hp, hbb⟩; have HP := Aside0.mk hp; have HBB := Aside0.mk hbb; clear hp hbb))
  have hl0 : 0 < l.length := by
    rcases Nat.eq_zero_or_pos l.length with h | h
    · rw [List.eq_nil_of_length_eq_zero h] at han
      simp [sumN] at han
      omega
    · exact h
  obtain ⟨i0, hr⟩ : ∃ i0, r = i0 + 1 := by
    obtain ⟨p1, p2, p3⟩ := HP.out
    rw [hfl] at p1 p3
    refine ⟨r - 1, ?_⟩
    rcases Nat.eq_zero_or_pos r with h | h
    · have := p3 0 (by omega) hl0
      rw [rd_from l HOK.out 0 hl0] at this
      simp [sumN] at this
      omega
    · omega
  subst hr
  have hi0 : i0 < l.length ∧ sumN (l.take i0) ≤ at_ ∧ at_ < sumN (l.take (i0 + 1)) := by
    obtain ⟨p1, p2, p3⟩ := HP.out
    rw [hfl] at p1 p3
    refine ⟨by omega, ?_, ?_⟩
    · have := p2 i0 (by omega)
      rw [rd_from l HOK.out i0 (by omega)] at this
      omega
    · rcases Nat.lt_or_ge (i0 + 1) l.length with h | h
      · have := p3 (i0 + 1) (by omega) h
        rw [rd_from l HOK.out (i0 + 1) h] at this
        omega
      · rw [List.take_of_length_le h]; omega
  have hwi : wrap64 (((i0 + 1 : Nat) : Int) - 1) = (i0 : Int) := by unfold wrap64; have := HOK.out.1; omega
  rw [hwi]
  clear hwi
  rw [show (((i0 + 1 : Nat) : Int)) = (i0 : Int) + 1 from by omega]
  have HI0 := Aside0.mk hi0
  clear hi0
  go_loopw [1, 2, 7, 8] (fun v1 v2 v7 v8 wr => ∃ (a m i : Nat) (out : List S54) (vo : Value), vo = v7 ∧ v1 = .int .i64 a ∧ v2 = .int .i64 m ∧ v8 = .int .i64 i ∧ a + m ≤ sumN l ∧ out.length ≤ i ∧ Aside0 (0 < m → i < l.length ∧ sumN (l.take i) ≤ a ∧ a < sumN (l.take (i + 1))) ∧ Aside0 (Kd.R k54 54 wr w.heap.size (fun _ => True) vo out) ∧ Aside0 (out ++ pieceN (l.drop i) (a - sumN (l.take i)) m = pieceN (l.drop i0) (at_ - sumN (l.take i0)) n) ∧ Aside0 (Below w.heap.size w wr)) (fun _ v2 _ _ _ => (intOf v2).toNat)
  case atStart => exact ⟨at_, n, i0, [], .slice none 0 0, rfl, rfl, rfl, rfl, han, Nat.zero_le _, ⟨fun _ => HI0.out⟩, ⟨Kd.R_nil _ _ _ _ _⟩, ⟨rfl⟩, HBB⟩
  case round =>
    obtain ⟨a, m, i, out, vo, rfl, rfl, rfl, rfl, ham, hoi, HIA, HR, HE, HBW⟩ := hrel
    by_cases hm : 0 < m
    · have hmb : decide (0 < m) = true := decide_eq_true hm
      obtain ⟨hil, hia, hib⟩ := HIA.out hm
      have hilb : decide (i < l.length) = true := decide_eq_true hil
      have hbc : wr.heap[b]? = some (.cells #[.slice A l.length c, .slice Af l.length cf] 82 (0, 0)) := blk_below HB.out HBW.out
      have hc0 : wr.cell? ⟨b, 0, none⟩ = some (.slice A l.length c) := (blk_cell hbc 0).trans rfl
      have hc1 : wr.cell? ⟨b, 1, none⟩ = some (.slice Af l.length cf) := (blk_cell hbc 1).trans rfl
      clear hbc
      obtain ⟨ad, rfl, g0, g1, g2⟩ := at_T54 (Kd.C_below HL.out HBW.out) (i : Nat) (by omega) (by omega)
      obtain ⟨af, rfl, f0⟩ := Kd.at_int (Kd.C_below HF.out HBW.out) (i : Nat) (by omega) (by omega)
      rw [rd_from l HOK.out i hil] at f0
      rw [Int.toNat_natCast] at f0 g0 g1 g2
      have HX := Aside0.mk (HOK.out.2.2 _ (rd68_mem l i hil))
      have HST := Aside0.mk (sumN_take_succ l i hil)
      have HPS := Aside0.mk (fun off => pieceN_step l i hil off m hm)
      obtain ⟨x, hx⟩ : ∃ x, x = rd_T54 l (i : Nat) := ⟨_, rfl⟩
      rw [← hx] at g0 g1 g2 HX HST HPS
      obtain ⟨p, q, t⟩ := x
      have HXE := Aside0.mk hx
      clear hx
      obtain ⟨ln, hln⟩ : ∃ ln, ln = lenN ⟨p, q, t⟩ := ⟨_, rfl⟩
      have hlw : chain_length.f p q t = some (ln : Int) := by
        have h1 := HX.out
        have h2 := HST.out
        have h3 := sumN_take_le l (i + 1)
        unfold chain_length.f
        rw [len_wrap ⟨p, q, t⟩ h1.2.1 (by omega), ← hln]
      rw [← hln] at HX HST HPS
      have HLN := Aside0.mk hln
      have HLW := Aside0.mk hlw
      clear hln hlw
      obtain ⟨fr, hfr⟩ : ∃ fr, fr = sumN (l.take i) := ⟨_, rfl⟩
      rw [← hfr] at f0 hia HST HE
      have HFR := Aside0.mk hfr
      clear hfr
      obtain ⟨off, hoff⟩ : ∃ off, off = a - fr := ⟨_, rfl⟩
      have ho2 : (a : Int) - (fr : Int) = (off : Int) := by omega
      have hob : off ≤ 1000000 := by omega
      rw [← hoff] at HE
      have HIA2 := Aside0.mk hia
      have HAM := Aside0.mk ham
      have HIB := Aside0.mk hib
      have HOI := Aside0.mk hoi
      have HOF := Aside0.mk hoff
      have HAN := Aside0.mk han
      have HS2 := Aside0.mk hs2
      clear hia ham hib hoi hoff han hs2 hfl hl0
      have hof2 : off < ln := by have := HST.out; have := HIA2.out; have := HIB.out; have := HOF.out; omega
      have hln2 : ln ≤ 1000000 := by have h3 := sumN_take_le l (i + 1); have := HST.out; have := HS2.out; omega
      obtain ⟨rs, hrs⟩ : ∃ rs, rs = ln - off := ⟨_, rfl⟩
      have hr2 : (ln : Int) - (off : Int) = (rs : Int) := by omega
      have hi9 : i ≤ 1000000 := by have := HOK.out.1; omega
      have ha9 : a ≤ 1000000 := by have := HAM.out; have := HS2.out; omega
      have hm9 : m ≤ 1000000 := by have := HAM.out; have := HS2.out; omega
      by_cases hmk : m ≤ rs
      · have hmi : ¬ (((ln : Int) - (off : Int)) < (m : Int)) := by omega
        have HKI : Aside0 ((m : Int) = (m : Nat)) := ⟨rfl⟩
        have HKN : Aside0 (min m (ln - off) = m) := ⟨by omega⟩
        have HKB : Aside0 (0 < m ∧ m ≤ m ∧ off + m ≤ ln ∧ (m = m ∨ off + m = ln)) := ⟨by omega⟩
        obtain ⟨r1, r2, r3, hcut⟩ : ∃ r1 r2 r3, cutV ⟨p, q, t⟩ off m = ⟨r1, r2, r3⟩ := ⟨_, _, _, rfl⟩
        have hcf : chain_cut.f p q t off (m : Int) = some (r1, r2, r3) := by
          rw [HKI.out]
          exact cut_f p q t off m r1 r2 r3 HX.out.2.2 (by have := HLN.out; have := HKB.out; omega) (by omega) hcut
        have HCF := Aside0.mk hcf
        have HCUT := Aside0.mk hcut
        have HOL : Aside0 (out.length ≤ 1000000) := ⟨by have := HOI.out; have := HOK.out.1; omega⟩
        have HHS : Aside0 (w.heap.size ≤ wr.heap.size) := ⟨HBW.out.size⟩
        clear hcf hcut
        go_wp2_with (first | (go_at_call 40; go_loud (refine (chain_length.calls p q t _ _ HLW.out).mono ?_; rintro _ wc ⟨rfl, hbb⟩; have HBC := Aside0.mk (below_step HBW.out hbb); have HRC := Aside0.mk (Kd.R_below HR.out hbb); clear hbb; have hc2 : wc.cell? ⟨b, 0, none⟩ = some (.slice (some ad) l.length c) := (blk_cell (blk_below HB.out HBC.out) 0).trans rfl; obtain ⟨ad2, e2, k0, k1, k2⟩ := at_T54 (Kd.C_below HL.out HBC.out) (i : Nat) (by omega) (by omega); obtain rfl := Option.some.inj e2; rw [← HXE.out, Int.toNat_natCast] at k0 k1 k2; clear e2)) | (go_at_call 42; go_loud (refine (chain_cut.calls p q t off (m : Int) r1 r2 r3 _ HCF.out).mono ?_; rintro _ wd ⟨rfl, hbb⟩; have HBD := Aside0.mk (below_step HBC.out hbb); have HRD := Aside0.mk (Kd.R_below HRC.out hbb); have HSD : Aside0 (w.heap.size ≤ wd.heap.size) := ⟨HBD.out.size⟩; clear hbb)) | ((with_reducible refine gate_builtin (b := .append) (xs := #[.tmp 44, .tmp 55]) rfl ?_); at_builtin; go_loud (refine Kd.R_append k54 (w0 := w) (W := wd) w.heap.size rfl (.tmp 44) (.tmp 55) 22 54 (.agg #[(.int .i64 0), (.int .i64 0), (.string ⟨#[]⟩)]) 32 rfl Try.underlying22 info54 rfl (by decide) (by omega) vo out (⟨r1, r2, r3⟩ : S54) [.int .i64 r1, .int .i64 r2, .string r3] (fun _ => True) (fun _ => False) rfl ?aX ?aP (fun _ hk => hk.elim) (fun _ _ => trivial) ?aO ?aB ?aS ?aL ?_; (case aX => (first | rfl | (simp; done))); (case aP => exact k54_mkM _ _ _ (⟨r1, r2, r3⟩ : S54)); (case aO => exact HRD.out); (case aB => exact HBD.out); (case aS => exact HSD.out); (case aL => have := HOL.out; omega); intro v1 w1 hR1 hB1 hG1 hO1; have HR1 := Aside0.mk hR1; have HB1 := Aside0.mk hB1; clear hR1 hB1 hG1 hO1)))
        go_roundw
        case rel =>
          refine ⟨a + m, m - m, i + 1, out ++ [⟨r1, r2, r3⟩], _, rfl, ?_, ?_, by go_num, ?_, ?_, ⟨?_⟩, HR1, ⟨?_⟩, HB1⟩
          · first | go_num | (rw [HKI.out]; go_num)
          · exact congrArg (Value.int .i64) (by have := HKB.out; have := HKI.out; omega)
          · have := HAM.out; have := HKB.out; omega
          · rw [List.length_append, List.length_singleton]; have := HOI.out; omega
          · intro h
            have hk := HKB.out
            have hst := HST.out
            have hle : off + m = ln := by omega
            have hof := HOF.out
            have h1 := HIA2.out
            have h2 := HIB.out
            have ham := HAM.out
            have hnx : i + 1 < l.length := by
              rcases Nat.lt_or_ge (i + 1) l.length with h | h
              · exact h
              · rw [List.take_of_length_le h] at hst; omega
            have hs3 := sumN_take_succ l (i + 1) hnx
            have hp := (HOK.out.2.2 _ (rd68_mem l (i + 1) hnx)).1
            exact ⟨hnx, by omega, by omega⟩
          · have e := HE.out
            have hk := HKB.out
            rw [HPS.out off, HKN.out, HCUT.out] at e
            rw [List.append_assoc, List.singleton_append]
            rcases Nat.eq_zero_or_pos (m - m) with h | h
            · rw [h, pieceN_zero] at e ⊢; exact e
            · have hz : a + m - sumN (l.take (i + 1)) = 0 := by have hst := HST.out; have hof := HOF.out; have h1 := HIA2.out; omega
              rw [hz]; exact e
        case measure => have := HKB.out; have := HKI.out; simp [intOf]; omega
      · have hmi : ((ln : Int) - (off : Int)) < (m : Int) := by omega
        have HKI : Aside0 (((ln - off : Nat) : Int) = (rs : Nat)) := ⟨by omega⟩
        have HKN : Aside0 (min m (ln - off) = rs) := ⟨by omega⟩
        have HKB : Aside0 (0 < rs ∧ rs ≤ m ∧ off + rs ≤ ln ∧ (rs = m ∨ off + rs = ln)) := ⟨by omega⟩
        obtain ⟨r1, r2, r3, hcut⟩ : ∃ r1 r2 r3, cutV ⟨p, q, t⟩ off rs = ⟨r1, r2, r3⟩ := ⟨_, _, _, rfl⟩
        have hcf : chain_cut.f p q t off ((ln - off : Nat) : Int) = some (r1, r2, r3) := by
          rw [HKI.out]
          exact cut_f p q t off rs r1 r2 r3 HX.out.2.2 (by have := HLN.out; have := HKB.out; omega) (by omega) hcut
        have HCF := Aside0.mk hcf
        have HCUT := Aside0.mk hcut
        have HOL : Aside0 (out.length ≤ 1000000) := ⟨by have := HOI.out; have := HOK.out.1; omega⟩
        have HHS : Aside0 (w.heap.size ≤ wr.heap.size) := ⟨HBW.out.size⟩
        clear hcf hcut
        go_wp2_with (first | (go_at_call 40; go_loud (refine (chain_length.calls p q t _ _ HLW.out).mono ?_; rintro _ wc ⟨rfl, hbb⟩; have HBC := Aside0.mk (below_step HBW.out hbb); have HRC := Aside0.mk (Kd.R_below HR.out hbb); clear hbb; have hc2 : wc.cell? ⟨b, 0, none⟩ = some (.slice (some ad) l.length c) := (blk_cell (blk_below HB.out HBC.out) 0).trans rfl; obtain ⟨ad2, e2, k0, k1, k2⟩ := at_T54 (Kd.C_below HL.out HBC.out) (i : Nat) (by omega) (by omega); obtain rfl := Option.some.inj e2; rw [← HXE.out, Int.toNat_natCast] at k0 k1 k2; clear e2)) | (go_at_call 42; go_loud (refine (chain_cut.calls p q t off ((ln - off : Nat) : Int) r1 r2 r3 _ HCF.out).mono ?_; rintro _ wd ⟨rfl, hbb⟩; have HBD := Aside0.mk (below_step HBC.out hbb); have HRD := Aside0.mk (Kd.R_below HRC.out hbb); have HSD : Aside0 (w.heap.size ≤ wd.heap.size) := ⟨HBD.out.size⟩; clear hbb)) | ((with_reducible refine gate_builtin (b := .append) (xs := #[.tmp 44, .tmp 55]) rfl ?_); at_builtin; go_loud (refine Kd.R_append k54 (w0 := w) (W := wd) w.heap.size rfl (.tmp 44) (.tmp 55) 22 54 (.agg #[(.int .i64 0), (.int .i64 0), (.string ⟨#[]⟩)]) 32 rfl Try.underlying22 info54 rfl (by decide) (by omega) vo out (⟨r1, r2, r3⟩ : S54) [.int .i64 r1, .int .i64 r2, .string r3] (fun _ => True) (fun _ => False) rfl ?aX ?aP (fun _ hk => hk.elim) (fun _ _ => trivial) ?aO ?aB ?aS ?aL ?_; (case aX => (first | rfl | (simp; done))); (case aP => exact k54_mkM _ _ _ (⟨r1, r2, r3⟩ : S54)); (case aO => exact HRD.out); (case aB => exact HBD.out); (case aS => exact HSD.out); (case aL => have := HOL.out; omega); intro v1 w1 hR1 hB1 hG1 hO1; have HR1 := Aside0.mk hR1; have HB1 := Aside0.mk hB1; clear hR1 hB1 hG1 hO1)))
        go_roundw
        case rel =>
          refine ⟨a + rs, m - rs, i + 1, out ++ [⟨r1, r2, r3⟩], _, rfl, ?_, ?_, by go_num, ?_, ?_, ⟨?_⟩, HR1, ⟨?_⟩, HB1⟩
          · first | go_num | (rw [HKI.out]; go_num)
          · exact congrArg (Value.int .i64) (by have := HKB.out; have := HKI.out; omega)
          · have := HAM.out; have := HKB.out; omega
          · rw [List.length_append, List.length_singleton]; have := HOI.out; omega
          · intro h
            have hk := HKB.out
            have hst := HST.out
            have hle : off + rs = ln := by omega
            have hof := HOF.out
            have h1 := HIA2.out
            have h2 := HIB.out
            have ham := HAM.out
            have hnx : i + 1 < l.length := by
              rcases Nat.lt_or_ge (i + 1) l.length with h | h
              · exact h
              · rw [List.take_of_length_le h] at hst; omega
            have hs3 := sumN_take_succ l (i + 1) hnx
            have hp := (HOK.out.2.2 _ (rd68_mem l (i + 1) hnx)).1
            exact ⟨hnx, by omega, by omega⟩
          · have e := HE.out
            have hk := HKB.out
            rw [HPS.out off, HKN.out, HCUT.out] at e
            rw [List.append_assoc, List.singleton_append]
            rcases Nat.eq_zero_or_pos (m - rs) with h | h
            · rw [h, pieceN_zero] at e ⊢; exact e
            · have hz : a + rs - sumN (l.take (i + 1)) = 0 := by have hst := HST.out; have hof := HOF.out; have h1 := HIA2.out; omega
              rw [hz]; exact e
        case measure => have := HKB.out; have := HKI.out; simp [intOf]; omega
    · have hmb : decide (0 < m) = false := decide_eq_false hm
      have hm0 : m = 0 := by omega
      subst hm0
      go_wp2_with fail
      go_ret
      refine ⟨_, rfl, ?_, HBW.out⟩
      have e := HE.out
      rw [pieceN_zero, List.append_nil] at e
      rw [pieceAt_eq l i0 at_ n HI0.out.1 HI0.out.2.1 HI0.out.2.2, ← e]
      exact HR.out
end Go.Proofs.Ytjgelmfkoefclaa.PAll
