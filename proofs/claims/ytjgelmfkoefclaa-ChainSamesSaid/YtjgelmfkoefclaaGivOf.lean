/- The delta that makes a text of another one. -/
import Derived.BigQuiet
import Derived.Deep.DeepMust
import Derived.RegionTactic
import Derived.Test.YtjgelmfkoefclaaGivSign
import Derived.Test.YtjgelmfkoefclaaGivMake
namespace Go.Proofs.Ytjgelmfkoefclaa.PAll
open Go.RowKit Go.Proofs.YtjgelmfkoefclaaW.PrintWords Go.Proofs.YtjgelmfkoefclaaW.PrintLast Go.Proofs.YtjgelmfkoefclaaW.PrintMore Go.Proofs.Ytjgelmfkoefclaa.Pure
set_option linter.unusedVariables false
set_option linter.unusedSimpArgs false
attribute [local go_sem] max2_int min2_int max_two min_two

/-- What a delta leaves. -/
structure Od (w wr : World) (b M : Nat) (l : List ByteArray) (v : Value) (st : List S54) : Prop where
  gb : w.grownBy wr (some M)
  bk : Bk wr b M l
  bo : b < w.heap.size ∧ M < w.heap.size
  r : Kd.R k54 54 wr (w.heap.size + 1) (fun _ => True) v st
  z : wr.heap[w.heap.size]? = some (.cells #[.string ⟨#[]⟩, .string ⟨#[]⟩, .int .i64 0, .slice none 0 0] 24 (0, 0))
theorem Od.mark {w wr wx : World} {b M : Nat} {l l2 : List ByteArray} {v : Value} {st : List S54} (h : Od w wr b M l v st) (hg : wr.grownBy wx (some M)) (hk : Bk wx b M l2) : Od w wx b M l2 v st :=
  ⟨gb_trans h.gb hg, hk, h.bo, Kd.R_grown2 h.r rfl hg (fun k hk e => by injection hk with hk; have := Kd.R_base h.r k e.symm; have := h.bo; omega), blk_gb hg h.z (by have := h.bo; omega)⟩
structure Oe (w wr : World) (b M : Nat) (l : List ByteArray) (v : Value) (st : List S54) : Prop where
  gb : w.grownBy wr (some M)
  bk : Bk wr b M l
  bo : b < w.heap.size ∧ M < w.heap.size
  r : Kd.R k54 54 wr (w.heap.size + 1) (fun _ => True) v st
theorem Od.oe {w wr : World} {b M : Nat} {l : List ByteArray} {v : Value} {st : List S54} (h : Od w wr b M l v st) : Oe w wr b M l v st := ⟨h.gb, h.bk, h.bo, h.r⟩
theorem Oe.set {w wr : World} {b M : Nat} {l : List ByteArray} {v : Value} {st : List S54} (h : Oe w wr b M l v st) (j : Nat) (u : Value) : Oe w (wr.setCell ⟨w.heap.size, j, none⟩ u) b M l v st :=
  ⟨gb_set h.gb (Nat.le_refl _) u, h.bk.set (by show b ≠ w.heap.size; have := h.bo; omega) (by show M ≠ w.heap.size; have := h.bo; omega) u, h.bo,
    Kd.R_mono (Kd.R_far (p := ⟨w.heap.size, j, none⟩) (Kd.R_mono (Kd.R_bound h.r) (ok' := fun k => w.heap.size + 1 ≤ k) (fun k hk => hk.2.1)) (fun k hk => by show k ≠ w.heap.size; omega) u) (fun _ _ => trivial)⟩
set_option maxHeartbeats 4000000 in
set_option maxRecDepth 100000 in
theorem of_calls (b M : Nat) (l : List ByteArray) (bs s : ByteArray) (bl : Nat) (w : World) (hB : Bk w b M l) (hll : l.length + nB bs.size bl + s.size ≤ 8000000) (hn : bs.size ≤ 524288) (hs : s.size ≤ 524288) (h0 : 16 ≤ bl) (h1 : bl ≤ 1024) :
    Calls Try.prog 25 #[.pointer (some ⟨b, 0, none⟩), .string bs, .string s, .int .i64 bl] w fun e w' => ∃ (v : Value) (st : List S54) (l' : List ByteArray), e = .returned (.tuple #[.agg #[.string (markV l' bs), .string (markV l' s), .int .i64 s.size, v], .int .i64 0]) ∧ Kd.R k54 54 w' w.heap.size (fun _ => True) v st ∧ w.grownBy w' (some M) ∧ Bk w' b M l' ∧ Ext l l' ∧ l'.length ≤ l.length + nB bs.size bl + s.size + 3 ∧ bs ∈ l' ∧ s ∈ l' ∧ (∀ x ∈ st, okB bs.size x) ∧ runL (L8 bs) st = L8 s := by
  obtain ⟨W1, hW1⟩ : ∃ W1, W1 = w.alloc (.cells #[.string ⟨#[]⟩, .string ⟨#[]⟩, .int .i64 0, .slice none 0 0] 24 (0, 0)) := ⟨_, rfl⟩
  have HZ : Aside0 (W1.heap[w.heap.size]? = some (.cells #[.string ⟨#[]⟩, .string ⟨#[]⟩, .int .i64 0, .slice none 0 0] 24 (0, 0))) := ⟨by rw [hW1]; exact blk_new _ _⟩
  have HBW : Aside0 (Below w.heap.size w W1) := ⟨by rw [hW1]; exact below_alloc (Below.refl _ _) _⟩
  have HB1 : Aside0 (Bk W1 b M l) := ⟨hB.below (by rw [hW1]; exact below_alloc (Below.refl _ _) _)⟩
  have HBL : Aside0 (b < w.heap.size ∧ M < w.heap.size) := ⟨hB.ltb, hB.lt⟩
  have HW1 := Aside0.mk hW1
  have HW1S : Aside0 (w.heap.size < W1.heap.size) := ⟨by rw [hW1]; simp⟩
  have HSG := Aside0.mk (sign_calls b M l bs bl W1 HB1.out (by omega) hn h0 h1)
  have HLL := Aside0.mk hll
  clear hW1 hB hll
  go_enter Try.func25, Try.ntmps25
  go_upto_region 1 with fail
  rw [← HW1.out]
  go_upto_region 2 with (go_at_call 34; go_loud ((with_reducible refine HSG.out.mono ?_); rintro _ wa ⟨l1, vW, vS, ws, rfl, hx, hl1, hws, hmm, hsd⟩; obtain ⟨ss, hss⟩ : ∃ ss, ss = (blocksV bs bl).map (markV l1) := ⟨_, rfl⟩; rw [← hss] at hsd; have HSS := Aside0.mk hss; clear hss; have HX1 := Aside0.mk hx; have HL1 := Aside0.mk hl1; have HWS := Aside0.mk hws; have HMM := Aside0.mk hmm; have HSD := Aside0.mk hsd; obtain ⟨A1, c1, hv1⟩ := Kd.R_slice hsd.rw_; obtain ⟨A2, c2, hv2⟩ := Kd.R_slice hsd.rs; subst hv1 hv2; clear hx hl1 hws hmm hsd))
  obtain ⟨W2, hW2⟩ : ∃ W2, W2 = wa.alloc (.cells #[.int .i64 bl, .int .i64 bs.size, .slice A1 ws.length c1, .slice A2 ss.length c2] 71 (0, 0)) := ⟨_, rfl⟩
  have HB2 : Aside0 (Below wa.heap.size wa W2) := ⟨by rw [hW2]; exact below_alloc (Below.refl _ _) _⟩
  have HZ2 : Aside0 (W2.heap[wa.heap.size]? = some (.cells #[.int .i64 bl, .int .i64 bs.size, .slice A1 ws.length c1, .slice A2 ss.length c2] 71 (0, 0))) := ⟨by rw [hW2]; exact blk_new _ _⟩
  have HG2 := Aside0.mk (gb_below HSD.out.gb HB2.out)
  have HBK2 := Aside0.mk (HSD.out.bk.below HB2.out)
  have HBL1 : Aside0 (l1.length + s.size + 3 ≤ 9000000) := ⟨by have := HL1.out; have := HLL.out; omega⟩
  have HMAK := Aside0.mk (make_calls b M l1 bs s bl ws (.slice A1 ws.length c1) (.slice A2 ss.length c2) _ _ _ W2 (Kd.R_below HSD.out.rw_ HB2.out) (by have h := Kd.R_below HSD.out.rs HB2.out; rw [← HSS.out]; exact h) h0 h1 hn HWS.out.1 HWS.out.2 HMM.out HBK2.out (by have := HBL1.out; omega) hs)
  rw [← hW2]
  clear hW2
  obtain ⟨y0, y1, y2, y3⟩ := blk4 HZ2.out
  go_upto_region 7 with (go_at_call 35; go_loud ((with_reducible refine HMAK.out.mono ?_); rintro _ wc ⟨v, st, l2, rfl, hr, hg, hb, hx, hl2, hok, hrun⟩; have HOD : Aside0 (Od w wc b M l2 v st) := ⟨⟨gb_trans (gb_of HBW.out (some M)) (gb_trans HG2.out hg), hb, HBL.out, Kd.R_lower hr (by have := HG2.out.size; have := HW1S.out; omega), blk_gb hg (blk_gb HG2.out HZ.out (by have := HBL.out; omega)) (by have := HBL.out; omega)⟩⟩; have HX2 := Aside0.mk (HX1.out.trans hx); have HL2 := Aside0.mk hl2; have HOK := Aside0.mk hok; have HRUN := Aside0.mk hrun; obtain ⟨A3, c3, hv3⟩ := Kd.R_slice hr; subst hv3; clear hr hg hb hx hl2 hok hrun))
  have HMX : Aside0 (bs.size ≤ maxLen ∧ s.size ≤ maxLen ∧ l2.length + 1 < 10000000 ∧ l2.length + 3 ≤ l.length + nB bs.size bl + s.size + 4 + 0 + 0) := ⟨by have := HL2.out; have := HL1.out; have := HLL.out; unfold maxLen; omega⟩
  have HK1 := Aside0.mk (fun wx (h : Bk wx b M l2) => mark_calls b M l2 bs wx h (by have := HMX.out; omega) HMX.out.1)
  have HK2 := Aside0.mk (fun wx (h : Bk wx b M (addT l2 bs)) => mark_calls b M (addT l2 bs) s wx h (by have := HMX.out; have := addT_length l2 bs; omega) HMX.out.2.1)
  clear y0 y1 y2 y3
  go_wp2_with (go_at_call 36; go_loud (first | ((with_reducible refine (HK1.out _ HOD.out.bk).mono ?_); rintro _ wd ⟨rfl, hk, hg⟩; have HOD1 := Aside0.mk (HOD.out.mark hg hk); clear hk hg) | ((with_reducible refine (HK2.out _ HOD1.out.bk).mono ?_); rintro _ we ⟨rfl, hk, hg⟩; have HOD2 := Aside0.mk (HOD1.out.mark hg hk); clear hk hg; obtain ⟨y0, y1, y2, y3⟩ := blk4 HOD2.out.z; obtain ⟨z0, z1, z2, z3⟩ := blk4f HOD2.out.z)))
  obtain ⟨k1, hk1⟩ : ∃ k1, k1 = markV (addT l2 bs) bs := ⟨_, rfl⟩
  obtain ⟨k2, hk2⟩ : ∃ k2, k2 = markV (addT (addT l2 bs) s) s := ⟨_, rfl⟩
  have hk3 : markV (addT (addT l2 bs) s) bs = k1 := by rw [hk1]; exact (Ext.add (addT l2 bs) s).mark (addT_mem l2 bs)
  rw [← hk1, ← hk2]
  refine bodyPost_ret (results_ct rfl _ _ w.heap.size 24 #[.string k1, .string k2, .int .i64 s.size, .slice A3 st.length c3] (0, 0) _ rfl ?blk Try.underlying24 rfl (by kernel_rfl)) rfl ?_
  case blk =>
    refine blk_put (cs := #[.string k1, .string k2, .int .i64 s.size, .slice none 0 0]) ?_ 3 _ rfl
    refine blk_put (cs := #[.string k1, .string k2, .int .i64 0, .slice none 0 0]) ?_ 2 _ rfl
    refine blk_put (cs := #[.string k1, .string ⟨#[]⟩, .int .i64 0, .slice none 0 0]) ?_ 1 _ rfl
    exact blk_put (cs := #[.string ⟨#[]⟩, .string ⟨#[]⟩, .int .i64 0, .slice none 0 0]) HOD2.out.z 0 _ rfl
  have hfin := (((HOD2.out.oe.set 0 (.string k1)).set 1 (.string k2)).set 2 (.int .i64 s.size)).set 3 (.slice A3 st.length c3)
  refine ⟨.slice A3 st.length c3, st, addT (addT l2 bs) s, by rw [hk3, ← hk2]; rfl, Kd.R_lower hfin.r (by omega), hfin.gb, hfin.bk, HX2.out.trans ((Ext.add l2 bs).trans (Ext.add _ s)), ?_, addT_keep _ _ _ (addT_mem l2 bs), addT_mem _ _, HOK.out, HRUN.out⟩
  have e1 := addT_length l2 bs
  have e2 := addT_length (addT l2 bs) s
  have e3 := HL2.out
  have e4 := HL1.out
  omega

set_option maxHeartbeats 4000000 in
set_option maxRecDepth 100000 in
theorem of_bad (bp : Value) (bs s : ByteArray) (bl : Int) (w : World) (h : bl < 16 ∨ 1024 < bl) :
    Calls Try.prog 25 #[bp, .string bs, .string s, .int .i64 bl] w fun e w' => e = .returned (.tuple #[.agg #[.string ⟨#[]⟩, .string ⟨#[]⟩, .int .i64 0, .slice none 0 0], .int .i64 1]) ∧ Below w.heap.size w w' := by
  obtain ⟨W1, hW1⟩ : ∃ W1, W1 = w.alloc (.cells #[.string ⟨#[]⟩, .string ⟨#[]⟩, .int .i64 0, .slice none 0 0] 24 (0, 0)) := ⟨_, rfl⟩
  have HZ : Aside0 (W1.heap[w.heap.size]? = some (.cells #[.string ⟨#[]⟩, .string ⟨#[]⟩, .int .i64 0, .slice none 0 0] 24 (0, 0))) := ⟨by rw [hW1]; exact blk_new _ _⟩
  have HBW : Aside0 (Below w.heap.size w W1) := ⟨by rw [hW1]; exact below_alloc (Below.refl _ _) _⟩
  have HW1 := Aside0.mk hW1
  have HSG := Aside0.mk (sign_bad bp bs bl W1 h)
  clear hW1 h
  go_enter Try.func25, Try.ntmps25
  go_upto_region 1 with fail
  rw [← HW1.out]
  go_wp2_with (go_at_call 34; go_loud ((with_reducible refine HSG.out.mono ?_); rintro _ wa ⟨rfl, hbb⟩; have HBA := Aside0.mk (below_alloc (below_step HBW.out hbb) (.cells #[.int .i64 0, .int .i64 0, .slice none 0 0, .slice none 0 0] 71)); have HZA := Aside0.mk (blk_alloc (blk_below HZ.out hbb) (.cells #[.int .i64 0, .int .i64 0, .slice none 0 0, .slice none 0 0] 71)); clear hbb; obtain ⟨y0, y1, y2, y3⟩ := blk4 HZA.out; obtain ⟨z0, z1, z2, z3⟩ := blk4f HZA.out))
  refine bodyPost_ret (results_ct rfl _ _ w.heap.size 24 #[.string ⟨#[]⟩, .string ⟨#[]⟩, .int .i64 0, .slice none 0 0] (0, 0) _ rfl ?blk Try.underlying24 rfl (by kernel_rfl)) rfl ?_
  case blk =>
    refine blk_put (cs := #[.string ⟨#[]⟩, .string ⟨#[]⟩, .int .i64 0, .slice none 0 0]) ?_ 3 _ rfl
    refine blk_put (cs := #[.string ⟨#[]⟩, .string ⟨#[]⟩, .int .i64 0, .slice none 0 0]) ?_ 2 _ rfl
    refine blk_put (cs := #[.string ⟨#[]⟩, .string ⟨#[]⟩, .int .i64 0, .slice none 0 0]) ?_ 1 _ rfl
    exact blk_put (cs := #[.string ⟨#[]⟩, .string ⟨#[]⟩, .int .i64 0, .slice none 0 0]) HZA.out 0 _ rfl
  exact ⟨rfl, (((HBA.out.setCell (p := ⟨w.heap.size, 0, none⟩) (Nat.le_refl _) _).setCell (p := ⟨w.heap.size, 1, none⟩) (Nat.le_refl _) _).setCell (p := ⟨w.heap.size, 2, none⟩) (Nat.le_refl _) _).setCell (p := ⟨w.heap.size, 3, none⟩) (Nat.le_refl _) _⟩
end Go.Proofs.Ytjgelmfkoefclaa.PAll
