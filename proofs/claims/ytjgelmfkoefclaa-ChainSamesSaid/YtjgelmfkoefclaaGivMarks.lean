/- The calls of an ideal book: made anew, asked whether it is one, and asked for a mark. -/
import Derived.BigQuiet
import Derived.Outline
import Derived.Deep.DeepMust
import Derived.Test.YtjgelmfkoefclaaBase
import Derived.Test.YtjgelmfkoefclaaBasd
namespace Go.Proofs.Ytjgelmfkoefclaa.PAll
open Go.RowKit Go.Proofs.YtjgelmfkoefclaaW.PrintWords Go.Proofs.YtjgelmfkoefclaaW.PrintLast Go.Proofs.YtjgelmfkoefclaaW.PrintMore
set_option linter.unusedVariables false
set_option linter.unusedSimpArgs false
attribute [local go_sem] max2_int min2_int max_two min_two

theorem madeC (n : Int) : madeCells #[.int .u8 0] (32 * 1) = numC n 0 := by
  unfold numC madeCells
  apply Array.ext
  · simp
  · intro i h1 h2
    have e : ((List.range 0).map (fun j => Value.int .u8 (numB n j)) ++ List.replicate (32 - 0) (Value.int .u8 0)) = List.replicate 32 (Value.int .u8 0) := rfl
    simp only [e, List.getElem_toArray, List.getElem_replicate, Array.getElem_map]
    simp [Nat.mod_one]
theorem numB_eq (n : Int) (i : Nat) : n / 2 ^ (8 * (i % 8)) % 256 = numB n i := by
  unfold numB shr
  rw [show (8 * ((i % 8 : Nat) : Int)).toNat = 8 * (i % 8) by omega, show IntKind.i64.bits = 64 from rfl, Nat.min_eq_left (by omega)]
theorem hmk32 (n : Int) (w : World) : (Instr.makeSlice 77 (.int .i64 32) (.int .i64 32)).run Try.prog w = .ok (.slice (some ⟨w.heap.size, 0, none⟩) 32 32) (w.alloc (.cells (numC n 0) 5 (0, 0))) := by
  obtain ⟨i0, hi, hzz⟩ := Option.map_eq_some_iff.1 info5
  simp only [Prod.mk.injEq] at hzz
  have := run_make (P := Try.prog) w 77 5 i0 (.int .u8 0) Try.underlying77 hi hzz.1 .i64 .i64 32 32 (by omega) (by omega) (by rw [hzz.2.2]; decide) (by omega)
  rw [this, hzz.2.1, ← madeC n]
  rfl
set_option maxHeartbeats 2000000 in
set_option maxRecDepth 100000 in
theorem numbered_calls (n : Int) (w : World) : Calls Try.prog 59 #[.int .i64 n] w fun e w' => e = .returned (.string (numV n)) ∧ Below w.heap.size w w' := by
  have hmk := hmk32 n w
  go_enter Try.func59, Try.ntmps59
  go_wp2_with fail
  clear hmk
  go_loopw [4, 8] (fun v4 v8 wr => ∃ i : Nat, i ≤ 32 ∧ v8 = .int .i64 i ∧ Aside0 (wr.heap[w.heap.size]? = some (.cells (numC n i) 5 (0, 0))) ∧ Aside0 (Below w.heap.size w wr)) (fun _ v8 _ => 32 - (intOf v8).toNat)
  case atStart => exact ⟨0, by omega, rfl, ⟨blk_new w _⟩, ⟨below_alloc (Below.refl _ _) _⟩⟩
  case round =>
    obtain ⟨i, hi, rfl, HBL, HB⟩ := hrel
    by_cases hlt : i < 32
    · have hb1 : decide ((i : Int) < 32) = true := decide_eq_true (by omega)
      have hc : wr.cell? ⟨w.heap.size, i, none⟩ = some (.int .u8 0) := (blk_cell HBL.out i).trans (numC_get n i hlt)
      have hf : wr.frozen? ⟨w.heap.size, i, none⟩ = false := blk_frozen HBL.out i
      go_wp2_with fail
      go_roundw
      case rel =>
        refine ⟨i + 1, by omega, by go_num, ⟨?_⟩, ⟨HB.out.setCell (p := ⟨w.heap.size, i, none⟩) (Nat.le_refl _) _⟩⟩
        rw [numB_eq]
        exact blk_put HBL.out i _ (numC_put n i hlt)
      case measure => simp [intOf]; omega
    · have hie : i = 32 := by omega
      subst hie
      have hcv := run_convert_bytes_arg (P := Try.prog) wr 77 5 Try.underlying77 Try.underlying5 w.heap.size 0 32 32 ((List.range 32).map (numB n)) (by simp) (fun i hi => by
        rw [Nat.zero_add]
        refine (blk_cell HBL.out i).trans ((numC_end n i hi).trans ?_)
        simp [hi]) 9 Try.underlying9
      go_wp2_with fail
      go_ret
      exact ⟨rfl, HB.out⟩
theorem Bk.cells {w : World} {b M : Nat} {l : List ByteArray} (h : Bk w b M l) : w.cell? ⟨b, 72, none⟩ = some (.bool false) ∧ w.cell? ⟨b, 73, none⟩ = some (.map (some M)) ∧ w.cell? ⟨b, 74, none⟩ = some (.bool true) := by
  obtain ⟨cs, h1, h2, h3, h4⟩ := h.blk
  exact ⟨(blk_cell h1 72).trans h2, (blk_cell h1 73).trans h3, (blk_cell h1 74).trans h4⟩
set_option maxHeartbeats 2000000 in
set_option maxRecDepth 100000 in
theorem bnone_calls (b M : Nat) (l : List ByteArray) (w : World) (hb : Bk w b M l) : Calls Try.prog 57 #[.pointer (some ⟨b, 0, none⟩)] w fun e w' => e = .returned (.bool false) ∧ w = w' := by
  obtain ⟨h72, h73, h74⟩ := hb.cells
  clear hb
  go_enter Try.func57, Try.ntmps57
  go_wp2_with fail
  go_ret
  exact ⟨rfl, rfl⟩
set_option maxHeartbeats 2000000 in
set_option maxRecDepth 100000 in
theorem bnone_nil (w : World) : Calls Try.prog 57 #[.pointer none] w fun e w' => e = .returned (.bool true) ∧ w = w' := by
  go_enter Try.func57, Try.ntmps57
  go_wp2_with fail
  go_ret
  exact ⟨rfl, rfl⟩
theorem mapzero (w : World) : (zeroValue 3).run Try.prog w = .ok (.int .i64 0) w := by kernel_rfl
set_option maxHeartbeats 2000000 in
set_option maxRecDepth 100000 in
theorem mark_calls (b M : Nat) (l : List ByteArray) (s : ByteArray) (w : World) (hb : Bk w b M l) (hl : l.length < 10000000) (hs : s.size ≤ maxLen) :
    Calls Try.prog 36 #[.pointer (some ⟨b, 0, none⟩), .string s] w fun e w' => e = .returned (.string (markV (addT l s) s)) ∧ Bk w' b M (addT l s) ∧ w.grownBy w' (some M) := by
  obtain ⟨h72, h73, h74⟩ := hb.cells
  have HB := Aside0.mk hb
  have HKEY := Aside0.mk (Go.WideMaps.keyOf_string_mk Try.underlying9 hs)
  have HNB := Aside0.mk (bnone_calls b M l w hb)
  have HSIZE := Aside0.mk (bookD_size l hb.nd)
  clear hs hb
  by_cases hm : s ∈ l
  · have HHAS : Aside0 (Maps.has (bookD l) (.string s.data.toList) = true) := ⟨by have := bookD_has l s; rw [decide_eq_true hm] at this; exact this⟩
    have HAT := Aside0.mk (bookD_at l HB.out.nd s hm (.lit (.int .i64 0)))
    have HADD : Aside0 (addT l s = l) := ⟨by unfold addT; rw [if_pos hm]⟩
    clear hm
    go_enter Try.func36, Try.ntmps36
    go_wp2_with (first | (go_at_call 57; go_loud (refine HNB.out.mono ?_; rintro _ _ ⟨rfl, rfl⟩)) | (at_lookup; go_loud (refine wpList_lookup_own_ok_int (H := Unit) _ rfl _ _ 60 rfl 9 3 .i64 (Maps.string_keyed Try.underlying9) Try.underlying60 Try.underlying3 (mapzero _) M l.length (bookD l) rfl HB.out.own _ _ rfl HKEY.out ?_; intro c hat hwc; obtain rfl : c = ((l.idxOf s + 1 : Nat) : Int) := (by have h2 := HAT.out.symm.trans hat; injection h2 with h2; injection h2 with _ h2; exact h2.symm); rw [HHAS.out]; clear hat hwc)) | (go_at_call 59; go_loud (refine (numbered_calls _ _).mono ?_; rintro _ wb ⟨rfl, hbb⟩; have HBB := Aside0.mk hbb; clear hbb)))
    go_ret
    rw [HADD.out]
    exact ⟨rfl, HB.out.below HBB.out, gb_of HBB.out _⟩
  · have HHAS : Aside0 (Maps.has (bookD l) (.string s.data.toList) = false) := ⟨by have := bookD_has l s; rw [decide_eq_false hm] at this; exact this⟩
    have HADD : Aside0 (addT l s = l ++ [s]) := ⟨by unfold addT; rw [if_neg hm]⟩
    have HMK : Aside0 (markV (l ++ [s]) s = numV ((l.length : Int) + 1)) := ⟨by unfold markV; rw [List.idxOf_append, if_neg hm]; simp⟩
    have HPUT := Aside0.mk (bookD_snoc l s)
    have HWF : Aside0 ((Lit.int .i64 ((l.length + 1 : Nat) : Int)).wf = true) := ⟨by simp [Lit.wf, IntKind.min, IntKind.max, IntKind.bits, IntKind.signed]; omega⟩
    have HND : Aside0 ((l ++ [s]).Nodup) := ⟨by have := addT_nodup HB.out.nd s; rwa [HADD.out] at this⟩
    clear hm
    go_enter Try.func36, Try.ntmps36
    go_wp2_with (first | (go_at_call 57; go_loud (refine HNB.out.mono ?_; rintro _ _ ⟨rfl, rfl⟩)) | (at_lookup; go_loud (refine wpList_lookup_own_ok_int (H := Unit) _ rfl _ _ 60 rfl 9 3 .i64 (Maps.string_keyed Try.underlying9) Try.underlying60 Try.underlying3 (mapzero _) M l.length (bookD l) rfl HB.out.own _ _ rfl HKEY.out ?_; intro c hat hwc; rw [HHAS.out]; clear hat hwc)) | (at_len; go_loud (refine wpList_len_own (H := Unit) _ rfl _ 60 rfl 9 3 Try.underlying60 (plainElem Try.prog 3) M l.length (bookD l) rfl HB.out.own ?_; rw [HSIZE.out])) | (at_mapUpdate; go_loud (refine wpList_mapUpdate_own (H := Unit) _ rfl _ _ _ 60 rfl 9 3 (Maps.string_keyed Try.underlying9) Try.underlying60 (plainElem Try.prog 3) M l.length (bookD l) rfl HB.out.own (by unfold maxLen; omega) _ _ (kstr s) rfl rfl HKEY.out (.lit (.int .i64 ((l.length + 1 : Nat) : Int))) [] ?hv ?_; (case hv => exact plainElem_int Try.underlying3 HWF.out); intro w1 hown1 hg1; rw [← HPUT.out] at hown1; have HO1 := Aside0.mk hown1; have HG1 := Aside0.mk hg1; clear hown1 hg1)) | (go_at_call 59; go_loud (refine (numbered_calls _ _).mono ?_; rintro _ wb ⟨rfl, hbb⟩; have HBB := Aside0.mk hbb; clear hbb)))
    go_ret
    rw [HADD.out, HMK.out]
    obtain ⟨cs, c1, c2⟩ := HB.out.blk
    refine ⟨rfl, Bk.below ⟨⟨cs, blk_grown c1 HG1.out (fun e => HB.out.ne (by injection e)), c2⟩, by rw [List.length_append, List.length_singleton]; exact HO1.out, HND.out, HB.out.ne⟩ HBB.out, gb_below HG1.out HBB.out⟩
set_option maxHeartbeats 2000000 in
set_option maxRecDepth 100000 in
theorem ideal_calls (w : World) : Calls Try.prog 20 #[] w fun e w' => ∃ b M : Nat, e = .returned (.pointer (some ⟨b, 0, none⟩)) ∧ Bk w' b M [] ∧ w.heap.size ≤ b ∧ w.heap.size ≤ M ∧ Below w.heap.size w w' := by
  have hmm := @run_makeMap Try.prog
  go_enter Try.func20, Try.ntmps20
  go_wp2_with fail
  go_ret
  have ho := (World.ownsMap_made (H := Unit) w Try.prog 9 (plainElem Try.prog 3)).alloc
  have hz : Try.zeroCells67[72]? = some (.bool false) := by kernel_rfl
  have hs : Try.zeroCells67.size = 75 := by kernel_rfl
  have h := blk_new (w.alloc (.map #[] 0)) (.cells ((Try.zeroCells67.setIfInBounds 74 (.bool true)).setIfInBounds 73 (.map (some w.heap.size))) 67 (0, 0))
  rw [World.size_alloc] at h
  refine ⟨w.heap.size + 1, w.heap.size, rfl, ⟨⟨(Try.zeroCells67.setIfInBounds 74 (.bool true)).setIfInBounds 73 (.map (some w.heap.size)), h, ?_, ?_, ?_⟩, ho _, List.nodup_nil, by omega⟩, by omega, Nat.le_refl _, below_alloc (below_alloc (Below.refl _ _) _) _⟩
  · rw [Array.getElem?_setIfInBounds_ne (by decide), Array.getElem?_setIfInBounds_ne (by decide), hz]
  · rw [Array.getElem?_setIfInBounds_self_of_lt (by rw [Array.size_setIfInBounds, hs]; decide)]
  · rw [Array.getElem?_setIfInBounds_ne (by decide), Array.getElem?_setIfInBounds_self_of_lt (by rw [hs]; decide)]
end Go.Proofs.Ytjgelmfkoefclaa.PAll
