/- The rolling window, as far as it is wanted: it stays in its bounds; its sums are some numbers. -/
import Derived.BigQuiet
import Derived.Deep.DeepMust
import Derived.RegionTactic
import Derived.Deep.RegionHeld3
import Derived.Deep.RegionLaw
import Derived.Deep.CutBlock
import Derived.StillTailTactics
import Derived.Test.YtjgelmfkoefclaaGivMarks
import Derived.Test.YtjgelmfkoefclaaBase
import Derived.Test.YtjgelmfkoefclaaBasd
namespace Go.Proofs.Ytjgelmfkoefclaa.PAll
open Go.RowKit Go.Proofs.YtjgelmfkoefclaaW.PrintWords Go.Proofs.YtjgelmfkoefclaaW.PrintLast Go.Proofs.YtjgelmfkoefclaaW.PrintMore
set_option linter.unusedVariables false
set_option linter.unusedSimpArgs false

theorem blk5 {w : World} {g : Nat} {t : TypeId} {c0 c1 c2 c3 c4 : Value} (h : w.heap[g]? = some (.cells #[c0, c1, c2, c3, c4] t (0, 0))) : w.cell? ⟨g, 0, none⟩ = some c0 ∧ w.cell? ⟨g, 1, none⟩ = some c1 ∧ w.cell? ⟨g, 2, none⟩ = some c2 ∧ w.cell? ⟨g, 3, none⟩ = some c3 ∧ w.cell? ⟨g, 4, none⟩ = some c4 :=
  ⟨(blk_cell h 0).trans rfl, (blk_cell h 1).trans rfl, (blk_cell h 2).trans rfl, (blk_cell h 3).trans rfl, (blk_cell h 4).trans rfl⟩
theorem blk5f {w : World} {g : Nat} {t : TypeId} {c0 c1 c2 c3 c4 : Value} (h : w.heap[g]? = some (.cells #[c0, c1, c2, c3, c4] t (0, 0))) : w.frozen? ⟨g, 2, none⟩ = false ∧ w.frozen? ⟨g, 3, none⟩ = false ∧ w.frozen? ⟨g, 4, none⟩ = false :=
  ⟨blk_frozen h 2, blk_frozen h 3, blk_frozen h 4⟩
/-- The world by a name. -/
theorem wp_world {P : Program} {c : Code} {Q : Exit → Act → World → Prop} {a : Act} {w : World} (h : ∀ W, W = w → Code.wp P c Q a W) : Code.wp P c Q a w := h w rfl
/-- A window on a text: from at on, bl bytes. -/
def Rl (w : World) (R : Nat) (s : ByteArray) (bl at_ : Nat) : Prop := at_ + bl ≤ s.size ∧ ∃ a b : Int, w.heap[R]? = some (.cells #[.string s, .int .i64 bl, .int .i64 at_, .int .i64 a, .int .i64 b] 121 (0, 0))

set_option maxHeartbeats 2000000 in
set_option maxRecDepth 100000 in
theorem rsum_calls (R : Nat) (s : ByteArray) (bl at_ : Nat) (w : World) (h : Rl w R s bl at_) :
    Calls Try.prog 52 #[.pointer (some ⟨R, 0, none⟩)] w fun e w' => (∃ r : Int, e = .returned (.int .i64 r)) ∧ ∃ m, w' = w.drewN m := by
  obtain ⟨_, a, b, h1⟩ := h
  obtain ⟨t0, t1, t2, t3, t4⟩ := blk5 h1
  clear h1
  go_enter Try.func52, Try.ntmps52
  go_wp2_with fail
  go_quiet (fail)
  go_wp2_with fail
  go_ret
  exact ⟨⟨_, rfl⟩, _, rfl⟩

set_option maxHeartbeats 2000000 in
set_option maxRecDepth 100000 in
theorem rnew_short (s : ByteArray) (bl : Nat) (w : World) (h0 : 16 ≤ bl) (h1 : bl ≤ 1024) (hs : s.size < bl) :
    Calls Try.prog 49 #[.string s, .int .i64 bl] w fun e w' => e = .returned (.tuple #[.pointer none, .int .i64 3]) ∧ w = w' := by
  have b0 : decide ((bl : Int) < 1) = false := decide_eq_false (by omega)
  have b1 : decide ((1024 : Int) < (bl : Int)) = false := decide_eq_false (by omega)
  have b2 : decide (s.size < bl) = true := decide_eq_true hs
  go_enter Try.func49, Try.ntmps49
  go_wp2_with fail
  refine bodyPost_ret (results_tmp2 rfl _ _ _) rfl ?_
  exact ⟨rfl, rfl⟩

set_option maxHeartbeats 2000000 in
set_option maxRecDepth 100000 in
theorem rnew_calls (s : ByteArray) (bl : Nat) (w : World) (h0 : 16 ≤ bl) (h1 : bl ≤ 1024) (hs : bl ≤ s.size) :
    Calls Try.prog 49 #[.string s, .int .i64 bl] w fun e w' => ∃ R, e = .returned (.tuple #[.pointer (some ⟨R, 0, none⟩), .int .i64 0]) ∧ Rl w' R s bl 0 ∧ w.heap.size ≤ R ∧ Below w.heap.size w w' := by
  have b0 : decide ((bl : Int) < 1) = false := decide_eq_false (by omega)
  have b1 : decide ((1024 : Int) < (bl : Int)) = false := decide_eq_false (by omega)
  have b2 : decide (s.size < bl) = false := decide_eq_false (by omega)
  have q1 : (0 : Int) ≤ (bl : Int) := by omega
  have q2 : (bl : Int) ≤ (s.size : Int) := by omega
  obtain ⟨p, hp⟩ : ∃ p, p = s.extract 0 bl := ⟨_, rfl⟩
  have hp1 : p.size ≤ 1024 := by rw [hp, ByteArray.size_extract]; omega
  obtain ⟨r, hr, hr0, hr1⟩ := roll_f p (by omega) 2000000 (by omega)
  rw [hp] at hr
  have HRC := Aside0.mk (fun wx => roll_Sum.calls 2000000 (s.extract 0 bl) r wx hr)
  clear hr hp hp1
  go_enter Try.func49, Try.ntmps49
  go_wp2_with (go_at_call 47; go_loud ((with_reducible refine (HRC.out _).mono ?_); rintro _ wa ⟨rfl, hdr⟩; have HB := Aside0.mk hdr.below; clear hdr))
  refine bodyPost_ret (results_tmp2 rfl _ _ _) rfl ?_
  exact ⟨_, rfl, ⟨by omega, _, _, blk_new _ _⟩, HB.out.size, below_alloc HB.out _⟩

set_option maxHeartbeats 4000000 in
set_option maxRecDepth 100000 in
theorem rnext_end (R : Nat) (s : ByteArray) (bl at_ : Nat) (w : World) (h : Rl w R s bl at_) (h0 : 16 ≤ bl) (h1 : bl ≤ 1024) (hs : s.size ≤ 1000000) (he : at_ + bl = s.size) :
    Calls Try.prog 53 #[.pointer (some ⟨R, 0, none⟩)] w fun e w' => e = .returned (.bool false) ∧ ∃ m, w' = w.drewN m := by
  obtain ⟨hle, a, b, h2⟩ := h
  obtain ⟨t0, t1, t2, t3, t4⟩ := blk5 h2
  have b0 : ((bl : Int) == 0) = false := beq_eq_false_iff_ne.mpr (by omega)
  have b1 : ((at_ : Int) + (bl : Int) == (s.size : Int)) = true := beq_iff_eq.mpr (by omega)
  clear h2 he
  go_enter Try.func53, Try.ntmps53
  go_wp2_with fail
  go_quiet (fail)
  go_wp2_with fail
  go_ret
  exact ⟨rfl, _, rfl⟩

set_option maxHeartbeats 4000000 in
set_option maxRecDepth 100000 in
theorem rnext_calls (R : Nat) (s : ByteArray) (bl at_ : Nat) (w : World) (h : Rl w R s bl at_) (h0 : 16 ≤ bl) (h1 : bl ≤ 1024) (hs : s.size ≤ 1000000) (he : at_ + bl < s.size) :
    Calls Try.prog 53 #[.pointer (some ⟨R, 0, none⟩)] w fun e w' => e = .returned (.bool true) ∧ Rl w' R s bl (at_ + 1) ∧ w.grownBy w' (some R) := by
  obtain ⟨hle, a, b, h2⟩ := h
  obtain ⟨t0, t1, t2, t3, t4⟩ := blk5 h2
  obtain ⟨f2, f3, f4⟩ := blk5f h2
  have H2 := Aside0.mk h2
  have b0 : ((bl : Int) == 0) = false := beq_eq_false_iff_ne.mpr (by omega)
  have b1 : ((at_ : Int) + (bl : Int) == (s.size : Int)) = false := beq_eq_false_iff_ne.mpr (by omega)
  have q1 : (0 : Int) ≤ (at_ : Int) := by omega
  have q2 : (at_ : Int) < (s.size : Int) := by omega
  have q3 : (0 : Int) ≤ (at_ : Int) + (bl : Int) := by omega
  have q4 : (at_ : Int) + (bl : Int) < (s.size : Int) := by omega
  clear h2
  go_enter Try.func53, Try.ntmps53
  go_wp2_with fail
  go_quiet (fail)
  go_wp2_with fail
  go_quiet (fail)
  go_upto_region 5 with fail
  refine wp_world (fun W3 hW3 => ?_)
  obtain ⟨a3, h3⟩ : ∃ a3 : Int, W3.heap[R]? = some (.cells #[.string s, .int .i64 bl, .int .i64 at_, .int .i64 a3, .int .i64 b] 121 (0, 0)) := ⟨_, by rw [hW3]; exact blk_put (blk_drewN H2.out _) 3 _ rfl⟩
  have HG3 : Aside0 (w.grownBy W3 (some R)) := ⟨by rw [hW3]; exact gb_trans (gb_drewN (gb_refl _ _) _) (gb_setg _ _ _ _)⟩
  have H3 := Aside0.mk h3
  obtain ⟨x, hx⟩ : ∃ x : Int, x = wrap64 (s[at_]'(by omega)).toNat := ⟨_, rfl⟩
  obtain ⟨y, hy⟩ : ∃ y : Int, y = wrap64 (s[at_ + bl]'(by omega)).toNat := ⟨_, rfl⟩
  rw [← hx, ← hy]
  clear hx hy
  clear hW3 t0 t1 t2 t3 t4 f2 f3 f4 h3
  obtain ⟨t0, t1, t2, t3, t4⟩ := blk5 H3.out
  obtain ⟨f2, f3, f4⟩ := blk5f H3.out
  as_aux_lemma =>
    go_still_tail 20, (by kernel_rfl)
    change wpList _ _ _ _ _ W3.drew
    have H4 : Aside0 (W3.drew.heap[R]? = some (.cells #[.string s, .int .i64 bl, .int .i64 at_, .int .i64 a3, .int .i64 b] 121 (0, 0))) := ⟨blk_drew H3.out⟩
    have HG4 : Aside0 (w.grownBy W3.drew (some R)) := ⟨gb_drew HG3.out⟩
    clear t0 t1 t2 t3 t4 f2 f3 f4 H3 HG3
    generalize W3.drew = W4 at H4 HG4 ⊢
    obtain ⟨t0, t1, t2, t3, t4⟩ := blk5 H4.out
    obtain ⟨f2, f3, f4⟩ := blk5f H4.out
    go_wp2
    go_ret
    exact ⟨rfl, ⟨by omega, _, _, blk_put (blk_put H4.out 4 _ rfl) 2 _ rfl⟩, gb_trans (gb_trans HG4.out (gb_setg _ _ _ _)) (gb_setg _ _ _ _)⟩

set_option maxHeartbeats 4000000 in
set_option maxRecDepth 100000 in
theorem rskip_end (R : Nat) (s : ByteArray) (bl at_ : Nat) (w : World) (h : Rl w R s bl at_) (h0 : 16 ≤ bl) (h1 : bl ≤ 1024) (hs : s.size ≤ 1000000) (he : s.size < at_ + bl + bl) :
    Calls Try.prog 55 #[.pointer (some ⟨R, 0, none⟩), .int .i64 bl] w fun e w' => e = .returned (.bool false) ∧ ∃ m, w' = w.drewN m := by
  obtain ⟨hle, a, b, h2⟩ := h
  obtain ⟨t0, t1, t2, t3, t4⟩ := blk5 h2
  have b0 : ((bl : Int) == 0) = false := beq_eq_false_iff_ne.mpr (by omega)
  have b1 : decide ((bl : Int) < 0) = false := decide_eq_false (by omega)
  have b2 : decide ((s.size : Int) - (bl : Int) - (at_ : Int) < (bl : Int)) = true := decide_eq_true (by omega)
  clear h2 he
  go_enter Try.func55, Try.ntmps55
  go_wp2_with fail
  go_quiet (fail)
  go_wp2_with fail
  go_ret
  exact ⟨rfl, _, rfl⟩

set_option maxHeartbeats 4000000 in
set_option maxRecDepth 100000 in
theorem rskip_calls (R : Nat) (s : ByteArray) (bl at_ : Nat) (w : World) (h : Rl w R s bl at_) (h0 : 16 ≤ bl) (h1 : bl ≤ 1024) (hs : s.size ≤ 1000000) (he : at_ + bl + bl ≤ s.size) :
    Calls Try.prog 55 #[.pointer (some ⟨R, 0, none⟩), .int .i64 bl] w fun e w' => e = .returned (.bool true) ∧ Rl w' R s bl (at_ + bl) ∧ w.grownBy w' (some R) := by
  obtain ⟨hle, a, b, h2⟩ := h
  obtain ⟨t0, t1, t2, t3, t4⟩ := blk5 h2
  obtain ⟨f2, f3, f4⟩ := blk5f h2
  have H2 := Aside0.mk h2
  have b0 : ((bl : Int) == 0) = false := beq_eq_false_iff_ne.mpr (by omega)
  have b1 : decide ((bl : Int) < 0) = false := decide_eq_false (by omega)
  have b2 : decide ((s.size : Int) - (bl : Int) - (at_ : Int) < (bl : Int)) = false := decide_eq_false (by omega)
  obtain ⟨a2, ha2⟩ : ∃ a2 : Nat, a2 = at_ + bl := ⟨_, rfl⟩
  have hp1 : (s.extract a2 (a2 + bl)).size ≤ 1024 := by rw [ByteArray.size_extract]; omega
  obtain ⟨r, hr, hr0, hr1⟩ := roll_f (s.extract a2 (a2 + bl)) (by omega) 2000000 (by omega)
  have HRC := Aside0.mk (fun wx => roll_Sum.calls 2000000 (s.extract a2 (a2 + bl)) r wx hr)
  clear h2 hr hp1
  go_enter Try.func55, Try.ntmps55
  go_wp2_with fail
  go_quiet (fail)
  go_upto_region 10 with fail
  refine wp_world (fun W3 hW3 => ?_)
  have h3 : W3.heap[R]? = some (.cells #[.string s, .int .i64 bl, .int .i64 a2, .int .i64 a, .int .i64 b] 121 (0, 0)) := by rw [hW3, ha2]; exact blk_put (blk_drewN H2.out _) 2 _ rfl
  have HG3 : Aside0 (w.grownBy W3 (some R)) := ⟨by rw [hW3]; exact gb_trans (gb_drewN (gb_refl _ _) _) (gb_setg _ _ _ _)⟩
  have H3 := Aside0.mk h3
  have HA2 := Aside0.mk ha2
  have ha3 : a2 + bl ≤ s.size := by omega
  clear ha2 hW3 t0 t1 t2 t3 t4 f2 f3 f4 h3
  obtain ⟨t0, t1, t2, t3, t4⟩ := blk5 H3.out
  have q1 : (0 : Int) ≤ (a2 : Int) := by omega
  have q2 : (a2 : Int) ≤ (a2 : Int) + (bl : Int) := by omega
  have q3 : (a2 : Int) + (bl : Int) ≤ (s.size : Int) := by omega
  have q4 : (0 : Int) ≤ (bl : Int) := by omega
  as_aux_lemma =>
    go_still_tail 17, (by kernel_rfl)
    change wpList _ _ _ _ _ W3.drew
    have H4 : Aside0 (W3.drew.heap[R]? = some (.cells #[.string s, .int .i64 bl, .int .i64 a2, .int .i64 a, .int .i64 b] 121 (0, 0))) := ⟨blk_drew H3.out⟩
    have HG4 : Aside0 (w.grownBy W3.drew (some R)) := ⟨gb_drew HG3.out⟩
    clear t0 t1 t2 t3 t4 H3 HG3
    generalize W3.drew = W4 at H4 HG4 ⊢
    have hsl : (Instr.slice 9 (.string s) (some (.int .i64 (a2 : Int))) (some (.int .i64 ((a2 : Int) + (bl : Int)))) none).run Try.prog W4 = .ok (.string (s.extract a2 (a2 + bl))) W4 := by
      rw [run_slice_string W4 9 s .i64 .i64 (a2 : Int) ((a2 : Int) + (bl : Int)) Try.underlying9 q1 q2 q3]
      congr 2
    clear q1 q2 q3 q4
    go_wp2_with fail
    simp only [hsl]
    clear hsl
    go_wp2_with (go_at_call 47; go_loud ((with_reducible refine (HRC.out _).mono ?_); rintro _ wa ⟨rfl, hdr⟩; have H5 := Aside0.mk (blk_below H4.out hdr.below); have HG5 := Aside0.mk (gb_below HG4.out hdr.below); obtain ⟨f2, f3, f4⟩ := blk5f H5.out; obtain ⟨t0, t1, t2, t3, t4⟩ := blk5 H5.out; clear hdr))
    go_ret
    refine ⟨rfl, ⟨by have := HA2.out; omega, r % 65536, r / 65536, ?_⟩, ?_⟩
    · rw [← HA2.out]
      exact blk_put (blk_put H5.out 3 _ rfl) 4 _ rfl
    · exact gb_trans (gb_trans HG5.out (gb_setg _ _ _ _)) (gb_setg _ _ _ _)
end Go.Proofs.Ytjgelmfkoefclaa.PAll
