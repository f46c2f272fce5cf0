/- A row's copy (slices.Clone). -/
import Derived.BigQuiet
import Derived.Deep.DeepMust
import Derived.RegionTactic
import Derived.Lib.LazyBuf
import Derived.Test.YtjgelmfkoefclaaGivSign
namespace Go.Proofs.Ytjgelmfkoefclaa.PAll
open Go.RowKit Go.Proofs.YtjgelmfkoefclaaW.PrintWords Go.Proofs.YtjgelmfkoefclaaW.PrintLast Go.Proofs.YtjgelmfkoefclaaW.PrintMore
set_option linter.unusedVariables false
set_option linter.unusedSimpArgs false

theorem R_new0 {α : Type} (d : Kd α) (e base : Nat) (W : World) (hb : base ≤ W.heap.size) (ok : Nat → Prop) (hok : ok W.heap.size) : d.R e (W.alloc (.cells #[] e (0, 0))) base ok (.slice (some ⟨W.heap.size, 0, none⟩) 0 0) [] := by
  refine ⟨fun k hk => ?_, [], ?_, Reps.none _ _⟩
  · have : W.heap.size = k := by simpa [Value.ownBlock] using hk
    subst this; exact hok
  · have h2 := World.ownsRow_lit (base := base) (e := e) (size := d.sz) W #[] 0 hb (by simp [maxLen]) (by simp)
    simpa using h2

set_option maxHeartbeats 2000000 in
set_option maxRecDepth 100000 in
theorem clone_ints (A : Option Addr) (n c : Nat) (xs : List Int) (hn : n ≤ 10000000) (w : World) (hC : Kd.C (Kd.int .i64) w A n xs) (h0 : A = none → c = 0) :
    Calls Try.prog 66 #[.slice A n c] w fun e w' => ∃ v, e = .returned v ∧ Kd.R (Kd.int .i64) 3 w' w.heap.size (fun _ => True) v xs ∧ Below w.heap.size w w' := by
  have HC := Aside0.mk hC
  have HN : Aside0 (xs.length = n) := ⟨hC.1⟩
  have hcap := h0
  have HEQ : ∀ (A : Option Addr) (n c : Nat) (w : World), (binOp .eql 69 (.slice A n c) (.slice none 0 0)).run Try.prog w = .ok (.bool A.isNone) w := fun A n c w => run_eql_slice_nil w 69 3 A n c Try.underlying69
  clear hC h0
  cases A with
  | none =>
    have hn0 : n = 0 := by
      rcases Nat.eq_zero_or_pos n with h | h
      · exact h
      · obtain ⟨ad, he, _⟩ := HC.out.2.2 h; cases he
    have hc0 := hcap rfl
    subst hn0 hc0
    have HX : Aside0 (xs = []) := ⟨List.eq_nil_of_length_eq_zero HN.out⟩
    clear hcap
    go_enter Try.func66, Try.ntmps66
    go_wp2_with fail
    go_ret
    refine ⟨_, rfl, ?_, Below.refl _ _⟩
    rw [HX.out]; exact Kd.R_nil _ _ _ _ _
  | some ad =>
    clear hcap
    go_enter Try.func66, Try.ntmps66
    go_wp2_with ((with_reducible refine gate_builtin (b := .append) (xs := #[.tmp 5, .tmp 6]) rfl ?_); at_builtin; go_loud (refine Kd.R_append_rows (Kd.int .i64) (Rr := (Kd.int .i64).K w) (w0 := w) (W := w.alloc (.cells #[] 3 (0, 0))) w.heap.size rfl (.tmp 5) (.tmp 6) 69 3 (.int .i64 0) 8 rfl Try.underlying69 info3 rfl (by decide) (by omega) (.slice (some ⟨w.heap.size, 0, none⟩) 0 0) [] xs (some ad) n c (fun _ => True) (fun _ => False) rfl rfl ?aO ?aR ?aK (fun _ hk => hk.elim) (fun _ _ => trivial) ?aB ?aS ?aL ?_; (case aO => exact R_new0 (Kd.int .i64) 3 w.heap.size w (Nat.le_refl _) _ trivial); (case aR => exact ReadsRow.imp_ HC.out (below_alloc (Below.refl _ _) _) (fun _ _ hp => hp)); (case aK => exact (fun x_ cs_ h_ => h_)); (case aB => exact below_alloc (Below.refl _ _) _); (case aS => simp); (case aL => simp only [List.length_nil]; omega); intro v1 w1 hR1 hB1 hG1 hO1; have HR1 := Aside0.mk hR1; have HB1 := Aside0.mk hB1; clear hR1 hB1 hG1 hO1))
    go_ret
    exact ⟨_, rfl, by simpa using HR1.out, HB1.out⟩

set_option maxHeartbeats 2000000 in
set_option maxRecDepth 100000 in
theorem clone_strs (A : Option Addr) (n c : Nat) (xs : List ByteArray) (hn : n ≤ 10000000) (w : World) (hC : Kd.C Kd.string w A n xs) (h0 : A = none → c = 0) :
    Calls Try.prog 67 #[.slice A n c] w fun e w' => ∃ v, e = .returned v ∧ Kd.R Kd.string 9 w' w.heap.size (fun _ => True) v xs ∧ Below w.heap.size w w' := by
  have HC := Aside0.mk hC
  have HN : Aside0 (xs.length = n) := ⟨hC.1⟩
  have hcap := h0
  have HEQ : ∀ (A : Option Addr) (n c : Nat) (w : World), (binOp .eql 36 (.slice A n c) (.slice none 0 0)).run Try.prog w = .ok (.bool A.isNone) w := fun A n c w => run_eql_slice_nil w 36 9 A n c Try.underlying36
  clear hC h0
  cases A with
  | none =>
    have hn0 : n = 0 := by
      rcases Nat.eq_zero_or_pos n with h | h
      · exact h
      · obtain ⟨ad, he, _⟩ := HC.out.2.2 h; cases he
    have hc0 := hcap rfl
    subst hn0 hc0
    have HX : Aside0 (xs = []) := ⟨List.eq_nil_of_length_eq_zero HN.out⟩
    clear hcap
    go_enter Try.func67, Try.ntmps67
    go_wp2_with fail
    go_ret
    refine ⟨_, rfl, ?_, Below.refl _ _⟩
    rw [HX.out]; exact Kd.R_nil _ _ _ _ _
  | some ad =>
    clear hcap
    go_enter Try.func67, Try.ntmps67
    go_wp2_with ((with_reducible refine gate_builtin (b := .append) (xs := #[.tmp 5, .tmp 6]) rfl ?_); at_builtin; go_loud (refine Kd.R_append_rows Kd.string (Rr := Kd.string.K w) (w0 := w) (W := w.alloc (.cells #[] 9 (0, 0))) w.heap.size rfl (.tmp 5) (.tmp 6) 36 9 (.string ⟨#[]⟩) 16 rfl Try.underlying36 info9 rfl (by decide) (by omega) (.slice (some ⟨w.heap.size, 0, none⟩) 0 0) [] xs (some ad) n c (fun _ => True) (fun _ => False) rfl rfl ?aO ?aR ?aK (fun _ hk => hk.elim) (fun _ _ => trivial) ?aB ?aS ?aL ?_; (case aO => exact R_new0 Kd.string 9 w.heap.size w (Nat.le_refl _) _ trivial); (case aR => exact ReadsRow.imp_ HC.out (below_alloc (Below.refl _ _) _) (fun _ _ hp => hp)); (case aK => exact (fun x_ cs_ h_ => h_)); (case aB => exact below_alloc (Below.refl _ _) _); (case aS => simp); (case aL => simp only [List.length_nil]; omega); intro v1 w1 hR1 hB1 hG1 hO1; have HR1 := Aside0.mk hR1; have HB1 := Aside0.mk hB1; clear hR1 hB1 hG1 hO1))
    go_ret
    exact ⟨_, rfl, by simpa using HR1.out, HB1.out⟩
end Go.Proofs.Ytjgelmfkoefclaa.PAll
