/- Steps are done on a basis. -/
import Derived.BigQuiet
import Derived.Deep.DeepMust
import Derived.RegionTactic
import Derived.IntWalk
import Derived.Test.YtjgelmfkoefclaaRunLaw
import Derived.Test.YtjgelmfkoefclaaGivBuilder
import Derived.Test.YtjgelmfkoefclaaBase
import Derived.Test.YtjgelmfkoefclaaBasd
namespace Go.Proofs.Ytjgelmfkoefclaa.PAll
open Go.RowKit Go.Proofs.YtjgelmfkoefclaaW.PrintWords Go.Proofs.YtjgelmfkoefclaaW.PrintLast Go.Proofs.YtjgelmfkoefclaaW.PrintMore Go.Proofs.Ytjgelmfkoefclaa.Pure
set_option linter.unusedVariables false
set_option linter.unusedSimpArgs false
attribute [local go_sem] max2_int min2_int max_two min_two

instance (n : Nat) (x : S54) : Decidable (okB n x) := by unfold okB; infer_instance
theorem rightn_f (x : S54) (n : Nat) (hn : n ≤ 1000000000) (h0 : -9223372036854775808 ≤ x.f0) (h1 : x.f0 ≤ 9223372036854775807) : delta_right.f x.f0 x.f1 x.f2 n = some (decide (okB n x)) := by
  unfold delta_right.f
  have key : ∀ {b : Bool} {p : Prop} [Decidable p], (b = true ↔ p) → some b = some (decide p) := fun h => by
    congr 1
    rw [Bool.eq_iff_iff, h, decide_eq_true_eq]
  by_cases hs : x.f2.size = 0
  · rw [if_pos ((nil_size _).2 hs)]
    by_cases a1 : x.f1 > 0
    · rw [if_pos a1]
      by_cases a2 : x.f0 ≥ 0
      · rw [if_pos a2]
        by_cases a3 : x.f1 ≤ 524288
        · rw [if_pos a3]
          have hw : wrap64 (524288 - x.f1) = 524288 - x.f1 := by unfold wrap64; omega
          rw [hw]
          by_cases a4 : x.f0 ≤ 524288 - x.f1
          · rw [if_pos a4, if_neg (by omega)]
            have hw2 : wrap64 (x.f0 + x.f1) = x.f0 + x.f1 := by unfold wrap64; omega
            rw [hw2]
            refine key ?_
            rw [decide_eq_true_eq]
            unfold okB stepOk
            rw [if_pos hs]
            constructor
            · intro h; exact ⟨⟨a1, a2, a3, a4⟩, fun _ => h⟩
            · intro h; exact h.2 hs
          · rw [if_neg a4]; exact key ⟨fun h => (by cases h), fun h => (by unfold okB stepOk at h; rw [if_pos hs] at h; exact absurd h.1.2.2.2 a4)⟩
        · rw [if_neg a3]; exact key ⟨fun h => (by cases h), fun h => (by unfold okB stepOk at h; rw [if_pos hs] at h; exact absurd h.1.2.2.1 a3)⟩
      · rw [if_neg a2]; exact key ⟨fun h => (by cases h), fun h => (by unfold okB stepOk at h; rw [if_pos hs] at h; exact absurd h.1.2.1 a2)⟩
    · rw [if_neg a1]; exact key ⟨fun h => (by cases h), fun h => (by unfold okB stepOk at h; rw [if_pos hs] at h; exact absurd h.1.1 a1)⟩
  · rw [if_neg (fun h => hs ((nil_size _).1 h))]
    by_cases a1 : x.f0 = 0
    · rw [if_pos a1]
      by_cases a2 : x.f1 = 0
      · rw [if_pos a2]
        refine key ?_
        rw [decide_eq_true_eq]
        unfold okB stepOk
        rw [if_neg hs]
        constructor
        · intro h; exact ⟨⟨a1, a2, by omega⟩, fun h => absurd h hs⟩
        · intro h; have := h.1.2.2; omega
      · rw [if_neg a2]; exact key ⟨fun h => (by cases h), fun h => (by unfold okB stepOk at h; rw [if_neg hs] at h; exact absurd h.1.2.1 a2)⟩
    · rw [if_neg a1]; exact key ⟨fun h => (by cases h), fun h => (by unfold okB stepOk at h; rw [if_neg hs] at h; exact absurd h.1.1 a1)⟩
/-- What steps come to: a text, or a refusal. -/
def RunR (bs : ByteArray) (l : List S54) (s : ByteArray) (e : Int) : Prop :=
  ((∀ x ∈ l, okB bs.size x) ∧ sumN l ≤ 524288 ∧ L8 s = runL (L8 bs) l ∧ e = 0) ∨ (s = ⟨#[]⟩ ∧ (e = 2 ∨ e = 4) ∧ ¬ ((∀ x ∈ l, okB bs.size x) ∧ sumN l ≤ 524288))
theorem blk3 {w : World} {g : Nat} {t : TypeId} {c0 c1 c2 : Value} (h : w.heap[g]? = some (.cells #[c0, c1, c2] t (0, 0))) : w.cell? ⟨g, 0, none⟩ = some c0 ∧ w.cell? ⟨g, 1, none⟩ = some c1 ∧ w.cell? ⟨g, 2, none⟩ = some c2 :=
  ⟨(blk_cell h 0).trans rfl, (blk_cell h 1).trans rfl, (blk_cell h 2).trans rfl⟩
theorem takeT_succ (l : List S54) (i : Nat) (h : i < l.length) : l.take (i + 1) = l.take i ++ [rd_T54 l (i : Int)] := by
  rw [List.take_succ_eq_append_getElem h, rdS_nat l i h]
theorem bu_below {B b : Nat} {l : List UInt8} {w w' : World} (h : Bu B b l w) (hb : Below w.heap.size w w') : Bu B b l w' := by
  have key : ∀ p, Lib.BuilderAt 108 5 B b p (Lib.byteCells l) w → Lib.BuilderAt 108 5 B b p (Lib.byteCells l) w' := fun p hp => by
    obtain ⟨h1, v, h2, h3, h4⟩ := hp
    exact ⟨h1, v, blk_below h2 hb, own_move h3 (fun k hk => hb.block k (own_lt h3 k hk)), h4⟩
  rcases h with h | h
  · exact .inl (key _ h)
  · exact .inr (key _ h)
theorem bulen_quiet (B b : Nat) (l : List UInt8) (w : World) (n : Nat) (h : Bu B b l w) : Calls Try.prog 60 #[.pointer (some ⟨b, 0, none⟩)] (w.drewN n) fun e w' => e = .returned (.int .i64 l.length) ∧ ∃ m, w' = (w.drewN n).drewN m :=
  (bulen_calls B b l (w.drewN n) h).mono (fun e w' hh => ⟨hh.1, 0, hh.2.symm⟩)

set_option maxHeartbeats 4000000 in
set_option maxRecDepth 100000 in
theorem drun_calls (bs : ByteArray) (A0 : Option Addr) (c0 : Nat) (l : List S54) (w : World) (hr0 : Kd.C k54 w A0 l.length l) (hc0 : l.length ≤ c0) (hin : In64 l) (hln : l.length ≤ 1000000) (hbs : bs.size ≤ 1000000) (hsz : ∀ x ∈ l, x.f2.size ≤ maxLen) :
    Calls Try.prog 39 #[.string bs, .slice A0 l.length c0] w fun e w' => ∃ (s : ByteArray) (er : Int), e = .returned (.tuple #[.string s, .int .i64 er]) ∧ RunR bs l s er ∧ Below w.heap.size w w' := by
  have HR0 := Aside0.mk hr0
  have HC0 := Aside0.mk hc0
  have HIN := Aside0.mk hin
  have HSZ := Aside0.mk hsz
  have HBU := Aside0.mk (bu_fresh w)
  have HB0 := Aside0.mk (below_alloc (Below.refl w.heap.size w) (.cells #[.pointer none, .slice none 0 0] 108 (0, 0)))
  clear hr0 hc0 hin hsz
  go_enter Try.func39, Try.ntmps39
  go_wp2_with fail
  go_loopw [11] (fun v11 wr => ∃ i : Nat, i ≤ l.length ∧ v11 = .int .i64 i ∧ Aside0 (Bu w.heap.size w.heap.size (runL (L8 bs) (l.take i)) wr) ∧ Aside0 (Below w.heap.size w wr) ∧ Aside0 (∀ x ∈ l.take i, okB bs.size x) ∧ Aside0 (sumN (l.take i) ≤ 524288)) (fun v11 _ => l.length - (intOf v11).toNat)
  case atStart => exact ⟨0, Nat.zero_le _, rfl, HBU, HB0, ⟨fun x hx => by cases hx⟩, ⟨Nat.zero_le _⟩⟩
  case round =>
    obtain ⟨i, hi, rfl, HBR, HB, HOK, HSM⟩ := hrel
    by_cases hlt : i < l.length
    · have hb1 : decide (i < l.length) = true := decide_eq_true hlt
      obtain ⟨ad, rfl, g0, g1, g2⟩ := at_T54 (Kd.C_below HR0.out HB.out) (i : Int) (by omega) (by omega)
      have HTK := Aside0.mk (takeT_succ l i hlt)
      have hmem : rd_T54 l (i : Int) ∈ l := by rw [rdS_nat l i hlt]; exact List.getElem_mem hlt
      obtain ⟨x, hx⟩ : ∃ x, x = rd_T54 l (i : Int) := ⟨_, rfl⟩
      rw [← hx] at g0 g1 g2 HTK hmem
      rw [Int.toNat_natCast] at g0 g1 g2
      have hxin := HIN.out x hmem
      have hxsz := HSZ.out x hmem
      have HRF := Aside0.mk (rightn_f x bs.size (by omega) hxin.1 hxin.2)
      clear hx
      obtain ⟨p, q, t⟩ := x
      have HBX := Aside0.mk (below_alloc (Below.refl wr.heap.size wr) (.cells #[.int .i64 p, .int .i64 q, .string t] 54 (0, 0)))
      have HBUX : Aside0 (∀ wx, Below wr.heap.size wr wx → Bu w.heap.size w.heap.size (runL (L8 bs) (l.take i)) wx) := ⟨fun wx hb => bu_below HBR.out hb⟩
      by_cases hok : okB bs.size ⟨p, q, t⟩
      · have HRC := Aside0.mk (fun wx => delta_right.calls p q t bs.size true wx (by rw [HRF.out, decide_eq_true hok]))
        have hl1 := run_len (L8 bs) (l.take i) (by rw [L8_len]; exact HOK.out)
        obtain ⟨lo, hlo⟩ : ∃ lo, lo = runL (L8 bs) (l.take i) := ⟨_, rfl⟩
        rw [← hlo] at HBR HBUX hl1
        obtain ⟨m, hm⟩ : ∃ m : Nat, lo.length = m := ⟨_, rfl⟩
        have HLO := Aside0.mk hlo
        have HMS := Aside0.mk (hm.symm.trans hl1)
        have hms : m ≤ 524288 := by rw [hm.symm.trans hl1]; exact HSM.out
        have hstep := hok.1
        have hpn : ∃ pn qn : Nat, p = pn ∧ q = qn ∧ pn + qn ≤ bs.size ∧ qn ≤ 524288 := by
          have h2 := hok.2
          unfold stepOk at hstep
          by_cases h0 : t.size = 0
          · rw [if_pos h0] at hstep
            have h3 := h2 h0
            simp only at hstep h3
            exact ⟨p.toNat, q.toNat, by omega, by omega, by omega, by omega⟩
          · rw [if_neg h0] at hstep
            simp only at hstep
            exact ⟨0, 0, by omega, by omega, by omega, by omega⟩
        obtain ⟨pn, qn, rfl, rfl, hpq, hq5⟩ := hpn
        have hts : t.size ≤ 524288 := by
          unfold stepOk at hstep
          by_cases h0 : t.size = 0
          · omega
          · rw [if_neg h0] at hstep; have := hstep.2.2; simp only at this; omega
        have HXL : Aside0 (lenN (⟨pn, qn, t⟩ : S54) = qn + t.size) := ⟨by unfold lenN; rw [Int.toNat_natCast]⟩
        have HOKX := Aside0.mk hok
        have HHM := Aside0.mk hm
        clear hlo hl1 hm hstep hok hmem
        go_upto_region 7 with (go_at_call 33; go_loud ((with_reducible refine (HRC.out _).mono ?_); rintro _ wa ⟨rfl, hbb⟩; have HBA := Aside0.mk (below_step HB.out (below_step HBX.out hbb)); have HBUA := Aside0.mk (HBUX.out _ (below_step HBX.out hbb)); have HXA := Aside0.mk (blk_below (blk_new wr (.cells #[.int .i64 pn, .int .i64 qn, .string t] 54 (0, 0))) hbb); clear hbb; obtain ⟨x0, x1, x2⟩ := blk3 HXA.out))
        have HLN : Aside0 (∀ n, Calls Try.prog 60 #[.pointer (some ⟨w.heap.size, 0, none⟩)] (wa.drewN n) fun e w' => e = .returned (.int .i64 m) ∧ ∃ k, w' = (wa.drewN n).drewN k) := ⟨fun n => by rw [← HHM.out]; exact bulen_quiet w.heap.size w.heap.size lo wa n HBUA.out⟩
        by_cases hbig : 524288 < m + (qn + t.size)
        · have hd : decide ((524288 : Int) - (m : Int) < (qn : Int) + (t.size : Int)) = true := decide_eq_true (by omega)
          have HNO : Aside0 (¬ ((∀ x ∈ l, okB bs.size x) ∧ sumN l ≤ 524288)) := ⟨fun h => by
            have h1 := sumN_take_le l (i + 1)
            rw [HTK.out, sumN_append] at h1
            have h2 : sumN [(⟨pn, qn, t⟩ : S54)] = qn + t.size := by rw [sumN_cons, HXL.out]; rfl
            have h3 := HMS.out
            have h4 := h.2
            omega⟩
          clear hbig
          go_quiet ((go_at_call 60; exact Calls.quiet_of (HLN.out _)))
          go_wp2_with fail
          go_ret2
          exact ⟨⟨#[]⟩, 4, rfl, .inr ⟨rfl, .inr rfl, HNO.out⟩, pw_below_drewN HBA.out _⟩
        · have hd : decide ((524288 : Int) - (m : Int) < (qn : Int) + (t.size : Int)) = false := decide_eq_false (by omega)
          have HSM2 : Aside0 (m + (qn + t.size) ≤ 524288) := ⟨by omega⟩
          obtain ⟨pc, hpc⟩ : ∃ pc, pc = bs.extract pn (pn + qn) := ⟨_, rfl⟩
          have hpcs : pc.size ≤ 524288 := by rw [hpc, ByteArray.size_extract]; omega
          have q1 : (0 : Int) ≤ (pn : Int) := by omega
          have q2 : (pn : Int) ≤ (pn : Int) + (qn : Int) := by omega
          have q3 : (pn : Int) + (qn : Int) ≤ (bs.size : Int) := by omega
          have hsl : ∀ W, (Instr.slice 9 (.string bs) (some (.int .i64 (pn : Int))) (some (.int .i64 ((pn : Int) + (qn : Int)))) none).run Try.prog W = .ok (.string pc) W := fun W => by
            rw [hpc, run_slice_string W 9 bs .i64 .i64 (pn : Int) ((pn : Int) + (qn : Int)) Try.underlying9 q1 q2 q3]
            congr 2
          have HSL := Aside0.mk hsl
          have HPC := Aside0.mk hpc
          clear hbig hpc hsl q1 q2 q3
          go_quiet ((go_at_call 60; exact Calls.quiet_of (HLN.out _)))
          go_upto_region 9 with fail
          refine wp_world (fun W hW => ?_)
          have HBW : Aside0 (Below wa.heap.size wa W) := ⟨by rw [hW]; exact pw_below_drewN (Below.refl _ _) _⟩
          have HBUW := Aside0.mk (bu_below HBUA.out HBW.out)
          have HXW := Aside0.mk (blk_below HXA.out HBW.out)
          have HBWW := Aside0.mk (below_step HBA.out HBW.out)
          have HLM : Aside0 (lo.length ≤ 524288) := ⟨by rw [HHM.out]; exact hms⟩
          clear hW x0 x1 x2
          obtain ⟨x0, x1, x2⟩ := blk3 HXW.out
          go_wp2_with fail
          simp only [HSL.out]
          go_upto_region 10 with (go_at_call 61; go_loud ((with_reducible refine (buwrite_calls w.heap.size w.heap.size lo pc W HBUW.out (by have := HLM.out; omega) HBWW.out.size).mono ?_); rintro _ wb ⟨rfl, hbu, hbb, hfr⟩; have HBUB := Aside0.mk hbu; have HBBB := Aside0.mk (HBWW.out.trans hbb); have HXB := Aside0.mk (hfr _ _ _ _ HXW.out (by decide) (by decide)); clear hbb hbu hfr))
          clear x0 x1 x2
          obtain ⟨x0, x1, x2⟩ := blk3 HXB.out
          have HLM2 : Aside0 ((lo ++ pc.data.toList).length + t.size ≤ 140737488355328) := ⟨by rw [List.length_append]; have h1 := L8_len pc; unfold L8 at h1; have := HLM.out; omega⟩
          go_wp2_with (go_at_call 61; go_loud ((with_reducible refine (buwrite_calls w.heap.size w.heap.size (lo ++ pc.data.toList) t wb HBUB.out HLM2.out HBBB.out.size).mono ?_); rintro _ wd ⟨rfl, hbu, hbb, hfr⟩; have HBUD := Aside0.mk hbu; have HBBD := Aside0.mk (HBBB.out.trans hbb); clear hbb hbu hfr))
          go_roundw
          case rel =>
            have e1 : runL (L8 bs) (l.take (i + 1)) = lo ++ pc.data.toList ++ t.data.toList := by
              rw [HTK.out, runL_app, runL_one, ← HLO.out, List.append_assoc]
              congr 1
              unfold pieceL
              rw [Int.toNat_natCast, Int.toNat_natCast]
              have h1 : L8 pc = ((L8 bs).drop pn).take qn := by rw [HPC.out, L8_ext, Nat.add_sub_cancel_left]
              rw [← h1]
              rfl
            refine ⟨i + 1, by omega, by go_num, ⟨by rw [e1]; exact HBUD.out⟩, HBBD, ⟨fun y hy => ?_⟩, ⟨?_⟩⟩
            · rw [HTK.out] at hy
              rcases List.mem_append.mp hy with hy | hy
              · exact HOK.out y hy
              · rw [List.mem_singleton.mp hy]; exact HOKX.out
            · rw [HTK.out, sumN_append, sumN_cons, HXL.out]
              have h3 := HMS.out
              have h4 := HSM2.out
              show sumN (l.take i) + (qn + t.size + 0) ≤ 524288
              omega
          case measure => simp [intOf]; omega
      · have HRC := Aside0.mk (fun wx => delta_right.calls p q t bs.size false wx (by rw [HRF.out, decide_eq_false hok]))
        have HNO : Aside0 (¬ ((∀ x ∈ l, okB bs.size x) ∧ sumN l ≤ 524288)) := ⟨fun h => hok (h.1 _ hmem)⟩
        clear hok hmem
        go_wp2_with (go_at_call 33; go_loud ((with_reducible refine (HRC.out _).mono ?_); rintro _ wa ⟨rfl, hbb⟩; have HBA := Aside0.mk (below_step HB.out (below_step HBX.out hbb)); clear hbb))
        go_ret2
        exact ⟨⟨#[]⟩, 2, rfl, .inr ⟨rfl, .inl rfl, HNO.out⟩, HBA.out⟩
    · have hb1 : decide (i < l.length) = false := decide_eq_false hlt
      have hie : i = l.length := by omega
      subst hie
      rw [List.take_length] at HBR HOK HSM
      go_wp2_with (go_at_call 62; go_loud ((with_reducible refine (bustring_calls w.heap.size w.heap.size _ _ HBR.out HB.out.size).mono ?_); rintro _ wa ⟨rfl, hbb⟩; have HBA := Aside0.mk (HB.out.trans hbb); clear hbb))
      go_ret2
      exact ⟨_, 0, rfl, .inl ⟨HOK.out, HSM.out, rfl, rfl⟩, HBA.out⟩
end Go.Proofs.Ytjgelmfkoefclaa.PAll
