/- Light texts of this session, joined by wip/tools/base.py. -/
import Derived.Test.YtjgelmfkoefclaaPAllx0
import Derived.Maps.OwnSet
import Derived.Maps.Ext
import Derived.StringKeys
import Derived.Deep.AppendSrc
import Derived.Lib.SlBytesRow
import Derived.Laws.IdiomCopy
import Derived.OrdersHeld
import Derived.Deep.RegionHeld
import Derived.StillTail
import Derived.Deep.RegionLaw
import Derived.Outline
import Derived.Deep.DeepMust
import Derived.RegionTactic
import Derived.ChangeAlike
import Derived.BigQuiet
-- from StepLaw
/- Steps and their lengths. -/
namespace Go.Proofs.Ytjgelmfkoefclaa.PAll
open Go.RowKit Go.Proofs.YtjgelmfkoefclaaW.PrintWords Go.Proofs.YtjgelmfkoefclaaW.PrintLast Go.Proofs.YtjgelmfkoefclaaW.PrintMore
set_option linter.unusedVariables false
set_option linter.unusedSimpArgs false

/-- A step's length, as steps that may be have it. -/
def lenN (x : S54) : Nat := x.f1.toNat + x.f2.size
def sumN (l : List S54) : Nat := (l.map lenN).foldr (· + ·) 0
/-- Steps of which each has bytes, of one kind. -/
def StepsOk (l : List S54) : Prop := l.length ≤ 1000000 ∧ sumN l ≤ 1000000 ∧ ∀ x ∈ l, 0 < lenN x ∧ 0 ≤ x.f1 ∧ (x.f1 = 0 ∨ x.f2.size = 0)
theorem sumN_append (a b : List S54) : sumN (a ++ b) = sumN a + sumN b := by
  unfold sumN
  induction a with
  | nil => simp
  | cons x a ih => simp only [List.cons_append, List.map_cons, List.foldr_cons] at *; omega
theorem sumN_take_succ (l : List S54) (k : Nat) (h : k < l.length) : sumN (l.take (k + 1)) = sumN (l.take k) + lenN (rd_T54 l (k : Nat)) := by
  unfold rd_T54
  rw [List.take_add_one, sumN_append, Int.toNat_natCast, List.getD_eq_getElem?_getD, List.getElem?_eq_getElem h]
  simp [sumN]
theorem sumN_take_le (l : List S54) (k : Nat) : sumN (l.take k) ≤ sumN l := by
  have := sumN_append (l.take k) (l.drop k)
  rw [List.take_append_drop] at this
  omega
theorem rd68_mem (l : List S54) (k : Nat) (h : k < l.length) : rd_T54 l (k : Nat) ∈ l := by
  unfold rd_T54
  rw [Int.toNat_natCast, List.getD_eq_getElem?_getD, List.getElem?_eq_getElem h]
  exact List.getElem_mem h
theorem len_wrap (x : S54) (h1 : 0 ≤ x.f1) (h : lenN x ≤ 1000000) : wrap64 (x.f1 + (x.f2.size : Int)) = (lenN x : Nat) := by
  unfold lenN at *
  unfold wrap64
  omega
theorem sumN_take_mono (l : List S54) (a b : Nat) (h : a ≤ b) : sumN (l.take a) ≤ sumN (l.take b) := by
  have := sumN_take_le (l.take b) a
  rwa [List.take_take, Nat.min_eq_left h] at this
theorem sumN_cons (x : S54) (l : List S54) : sumN (x :: l) = lenN x + sumN l := rfl
end Go.Proofs.Ytjgelmfkoefclaa.PAll


-- from PAllx5
-- Written by a program of this session (wip/tools/hookprint.py, over the print); Lean checks it.
namespace Go.Proofs.Ytjgelmfkoefclaa.PAll
open Go.RowKit Go.Proofs.YtjgelmfkoefclaaW.PrintWords Go.Proofs.YtjgelmfkoefclaaW.PrintLast Go.Proofs.YtjgelmfkoefclaaW.PrintMore
attribute [local go_sem] max2_int min2_int max_two min_two max_three min_three max_four min_four   -- for this text's walks alone
set_option linter.unusedVariables false
set_option linter.unusedSimpArgs false

/-! ### delta_right: function 33 -/
def delta_right.f (a0_0 : Int) (a0_1 : Int) (a0_2 : ByteArray) (a1 : Int) : Option (Bool) := if a0_2.toList = ([] : List UInt8) then (if a0_1 > 0 then (if a0_0 ≥ 0 then (if a0_1 ≤ 524288 then (if a0_0 ≤ (wrap64 (524288 - a0_1)) then (if a1 < 0 then (some true) else (some (decide ((wrap64 (a0_0 + a0_1)) ≤ a1)))) else (some false)) else (some false)) else (some false)) else (some false)) else (if a0_0 = 0 then (if a0_1 = 0 then (some (decide ((a0_2.size : Int) ≤ 4096))) else (some false)) else (some false))
set_option maxHeartbeats 8000000 in
set_option maxRecDepth 100000 in
theorem delta_right.calls (a0_0 : Int) (a0_1 : Int) (a0_2 : ByteArray) (a1 : Int) (r : Bool) (w : World) (h : delta_right.f a0_0 a0_1 a0_2 a1 = some r) :
    Calls Try.prog 33 #[.agg #[.int .i64 a0_0, .int .i64 a0_1, .string a0_2], .int .i64 a1] w fun e w' => e = .returned (.bool r) ∧ Below w.heap.size w w' := by
  have hu54 := Try.underlying54
  have HB := Aside0.mk (Below.refl w.heap.size w)
  have H : (if a0_2.toList = ([] : List UInt8) then (if a0_1 > 0 then (if a0_0 ≥ 0 then (if a0_1 ≤ 524288 then (if a0_0 ≤ (wrap64 (524288 - a0_1)) then (if a1 < 0 then (some true) else (some (decide ((wrap64 (a0_0 + a0_1)) ≤ a1)))) else (some false)) else (some false)) else (some false)) else (some false)) else (if a0_0 = 0 then (if a0_1 = 0 then (some (decide ((a0_2.size : Int) ≤ 4096))) else (some false)) else (some false))) = some r := h
  clear h
  by_cases c3 : a0_2.toList = ([] : List UInt8)
  · rw [if_pos c3] at H
    have c3b0 : (a0_2.toList == ([] : List UInt8)) = true := beq_iff_eq.mpr c3
    have c3b1 : (a0_2.toList != ([] : List UInt8)) = false := bne_eq_false_iff_eq.mpr c3
    clear c3
    by_cases c4 : a0_1 > 0
    · rw [if_pos c4] at H
      have c4b0 : decide (0 < a0_1) = true := decide_eq_true c4
      clear c4
      by_cases c5 : a0_0 ≥ 0
      · rw [if_pos c5] at H
        have c5b0 : decide (0 ≤ a0_0) = true := decide_eq_true c5
        clear c5
        by_cases c6 : a0_1 ≤ 524288
        · rw [if_pos c6] at H
          have c6b0 : decide (a0_1 ≤ 524288) = true := decide_eq_true c6
          clear c6
          by_cases c7 : a0_0 ≤ (wrap64 (524288 - a0_1))
          · rw [if_pos c7] at H
            have c7b0 : decide (a0_0 ≤ (wrap64 (524288 - a0_1))) = true := decide_eq_true c7
            clear c7
            by_cases c8 : a1 < 0
            · rw [if_pos c8] at H
              have c8b0 : decide (a1 < 0) = true := decide_eq_true c8
              clear c8
              obtain rfl := Option.some.inj H
              go_enter Try.func33, Try.ntmps33
              go_wp2_with (first | ((with_reducible refine gate_dst (N := 2) rfl ?_); (try (refine gate_guard (by rfl) ?_; dsimp only)); refine box_event ?hg (N := 2) ?hd (cs := #[.int .i64 a0_0, .int .i64 a0_1, .string a0_2]) (t := 54) ?hr ?_; (case hd => rfl); (case hg => rfl); (case hr => first | (go_simp; done) | (go_simp; rfl)); intro gb115 hg w9 hbox hb; have n0_ := Aside0.mk (below_step (by repeat (first | (with_reducible first | exact HB.out | apply below_alloc | apply pw_below_drewN | apply below_drew1) | exact HB.out)) hb); have n1_ := Aside0.mk (hbox); have n2_ := Aside0.mk ((by rw [hg]; exact (below_size (by repeat (first | (with_reducible first | exact HB.out | apply below_alloc | apply pw_below_drewN | apply below_drew1) | exact HB.out))) : w.heap.size ≤ gb115)); have n3_ := Aside0.mk ((by rw [hg]; exact (below_size (by repeat (first | (with_reducible first | exact HB.out | apply below_alloc | apply pw_below_drewN | apply below_drew1) | exact HB.out))) : w.heap.size ≤ gb115)); clear HB; have HB := n0_; have BK115 := n1_; have GW115 := n2_; have GE115 := n3_; clear n0_ n1_ n2_ n3_; clear hb hbox hg; have hcz10_0 : w9.cell? ⟨gb115, 0, none⟩ = some (.int .i64 a0_0) := (blk_cell BK115.out 0).trans rfl; have hcz10_1 : w9.cell? ⟨gb115, 1, none⟩ = some (.int .i64 a0_1) := (blk_cell BK115.out 1).trans rfl; have hcz10_2 : w9.cell? ⟨gb115, 2, none⟩ = some (.string a0_2) := (blk_cell BK115.out 2).trans rfl; have hfz10_0 := blk_frozen BK115.out 0; have hfz10_1 := blk_frozen BK115.out 1; have hfz10_2 := blk_frozen BK115.out 2))
              go_ret
              exact ⟨by first | rfl | (simp [errW_none, errW_some] <;> rfl) | (simp [*, errW_none, errW_some] <;> rfl), by repeat (first | (with_reducible first | exact HB.out | apply below_alloc | apply pw_below_drewN | apply below_drew1 | refine below_set ?_ GE115.out) | exact HB.out)⟩
            · rw [if_neg c8] at H
              have c8b0 : decide (a1 < 0) = false := decide_eq_false c8
              clear c8
              obtain rfl := Option.some.inj H
              go_enter Try.func33, Try.ntmps33
              go_wp2_with (first | ((with_reducible refine gate_dst (N := 2) rfl ?_); (try (refine gate_guard (by rfl) ?_; dsimp only)); refine box_event ?hg (N := 2) ?hd (cs := #[.int .i64 a0_0, .int .i64 a0_1, .string a0_2]) (t := 54) ?hr ?_; (case hd => rfl); (case hg => rfl); (case hr => first | (go_simp; done) | (go_simp; rfl)); intro gb115 hg w11 hbox hb; have n0_ := Aside0.mk (below_step (by repeat (first | (with_reducible first | exact HB.out | apply below_alloc | apply pw_below_drewN | apply below_drew1) | exact HB.out)) hb); have n1_ := Aside0.mk (hbox); have n2_ := Aside0.mk ((by rw [hg]; exact (below_size (by repeat (first | (with_reducible first | exact HB.out | apply below_alloc | apply pw_below_drewN | apply below_drew1) | exact HB.out))) : w.heap.size ≤ gb115)); have n3_ := Aside0.mk ((by rw [hg]; exact (below_size (by repeat (first | (with_reducible first | exact HB.out | apply below_alloc | apply pw_below_drewN | apply below_drew1) | exact HB.out))) : w.heap.size ≤ gb115)); clear HB; have HB := n0_; have BK115 := n1_; have GW115 := n2_; have GE115 := n3_; clear n0_ n1_ n2_ n3_; clear hb hbox hg; have hcz12_0 : w11.cell? ⟨gb115, 0, none⟩ = some (.int .i64 a0_0) := (blk_cell BK115.out 0).trans rfl; have hcz12_1 : w11.cell? ⟨gb115, 1, none⟩ = some (.int .i64 a0_1) := (blk_cell BK115.out 1).trans rfl; have hcz12_2 : w11.cell? ⟨gb115, 2, none⟩ = some (.string a0_2) := (blk_cell BK115.out 2).trans rfl; have hfz12_0 := blk_frozen BK115.out 0; have hfz12_1 := blk_frozen BK115.out 1; have hfz12_2 := blk_frozen BK115.out 2))
              go_ret
              exact ⟨by first | rfl | (simp [errW_none, errW_some] <;> rfl) | (simp [*, errW_none, errW_some] <;> rfl), by repeat (first | (with_reducible first | exact HB.out | apply below_alloc | apply pw_below_drewN | apply below_drew1 | refine below_set ?_ GE115.out) | exact HB.out)⟩
          · rw [if_neg c7] at H
            have c7b0 : decide (a0_0 ≤ (wrap64 (524288 - a0_1))) = false := decide_eq_false c7
            clear c7
            obtain rfl := Option.some.inj H
            go_enter Try.func33, Try.ntmps33
            go_wp2_with (first | ((with_reducible refine gate_dst (N := 2) rfl ?_); (try (refine gate_guard (by rfl) ?_; dsimp only)); refine box_event ?hg (N := 2) ?hd (cs := #[.int .i64 a0_0, .int .i64 a0_1, .string a0_2]) (t := 54) ?hr ?_; (case hd => rfl); (case hg => rfl); (case hr => first | (go_simp; done) | (go_simp; rfl)); intro gb115 hg w13 hbox hb; have n0_ := Aside0.mk (below_step (by repeat (first | (with_reducible first | exact HB.out | apply below_alloc | apply pw_below_drewN | apply below_drew1) | exact HB.out)) hb); have n1_ := Aside0.mk (hbox); have n2_ := Aside0.mk ((by rw [hg]; exact (below_size (by repeat (first | (with_reducible first | exact HB.out | apply below_alloc | apply pw_below_drewN | apply below_drew1) | exact HB.out))) : w.heap.size ≤ gb115)); have n3_ := Aside0.mk ((by rw [hg]; exact (below_size (by repeat (first | (with_reducible first | exact HB.out | apply below_alloc | apply pw_below_drewN | apply below_drew1) | exact HB.out))) : w.heap.size ≤ gb115)); clear HB; have HB := n0_; have BK115 := n1_; have GW115 := n2_; have GE115 := n3_; clear n0_ n1_ n2_ n3_; clear hb hbox hg; have hcz14_0 : w13.cell? ⟨gb115, 0, none⟩ = some (.int .i64 a0_0) := (blk_cell BK115.out 0).trans rfl; have hcz14_1 : w13.cell? ⟨gb115, 1, none⟩ = some (.int .i64 a0_1) := (blk_cell BK115.out 1).trans rfl; have hcz14_2 : w13.cell? ⟨gb115, 2, none⟩ = some (.string a0_2) := (blk_cell BK115.out 2).trans rfl; have hfz14_0 := blk_frozen BK115.out 0; have hfz14_1 := blk_frozen BK115.out 1; have hfz14_2 := blk_frozen BK115.out 2))
            go_ret
            exact ⟨by first | rfl | (simp [errW_none, errW_some] <;> rfl) | (simp [*, errW_none, errW_some] <;> rfl), by repeat (first | (with_reducible first | exact HB.out | apply below_alloc | apply pw_below_drewN | apply below_drew1 | refine below_set ?_ GE115.out) | exact HB.out)⟩
        · rw [if_neg c6] at H
          have c6b0 : decide (a0_1 ≤ 524288) = false := decide_eq_false c6
          clear c6
          obtain rfl := Option.some.inj H
          go_enter Try.func33, Try.ntmps33
          go_wp2_with (first | ((with_reducible refine gate_dst (N := 2) rfl ?_); (try (refine gate_guard (by rfl) ?_; dsimp only)); refine box_event ?hg (N := 2) ?hd (cs := #[.int .i64 a0_0, .int .i64 a0_1, .string a0_2]) (t := 54) ?hr ?_; (case hd => rfl); (case hg => rfl); (case hr => first | (go_simp; done) | (go_simp; rfl)); intro gb115 hg w15 hbox hb; have n0_ := Aside0.mk (below_step (by repeat (first | (with_reducible first | exact HB.out | apply below_alloc | apply pw_below_drewN | apply below_drew1) | exact HB.out)) hb); have n1_ := Aside0.mk (hbox); have n2_ := Aside0.mk ((by rw [hg]; exact (below_size (by repeat (first | (with_reducible first | exact HB.out | apply below_alloc | apply pw_below_drewN | apply below_drew1) | exact HB.out))) : w.heap.size ≤ gb115)); have n3_ := Aside0.mk ((by rw [hg]; exact (below_size (by repeat (first | (with_reducible first | exact HB.out | apply below_alloc | apply pw_below_drewN | apply below_drew1) | exact HB.out))) : w.heap.size ≤ gb115)); clear HB; have HB := n0_; have BK115 := n1_; have GW115 := n2_; have GE115 := n3_; clear n0_ n1_ n2_ n3_; clear hb hbox hg; have hcz16_0 : w15.cell? ⟨gb115, 0, none⟩ = some (.int .i64 a0_0) := (blk_cell BK115.out 0).trans rfl; have hcz16_1 : w15.cell? ⟨gb115, 1, none⟩ = some (.int .i64 a0_1) := (blk_cell BK115.out 1).trans rfl; have hcz16_2 : w15.cell? ⟨gb115, 2, none⟩ = some (.string a0_2) := (blk_cell BK115.out 2).trans rfl; have hfz16_0 := blk_frozen BK115.out 0; have hfz16_1 := blk_frozen BK115.out 1; have hfz16_2 := blk_frozen BK115.out 2))
          go_ret
          exact ⟨by first | rfl | (simp [errW_none, errW_some] <;> rfl) | (simp [*, errW_none, errW_some] <;> rfl), by repeat (first | (with_reducible first | exact HB.out | apply below_alloc | apply pw_below_drewN | apply below_drew1 | refine below_set ?_ GE115.out) | exact HB.out)⟩
      · rw [if_neg c5] at H
        have c5b0 : decide (0 ≤ a0_0) = false := decide_eq_false c5
        clear c5
        obtain rfl := Option.some.inj H
        go_enter Try.func33, Try.ntmps33
        go_wp2_with (first | ((with_reducible refine gate_dst (N := 2) rfl ?_); (try (refine gate_guard (by rfl) ?_; dsimp only)); refine box_event ?hg (N := 2) ?hd (cs := #[.int .i64 a0_0, .int .i64 a0_1, .string a0_2]) (t := 54) ?hr ?_; (case hd => rfl); (case hg => rfl); (case hr => first | (go_simp; done) | (go_simp; rfl)); intro gb115 hg w17 hbox hb; have n0_ := Aside0.mk (below_step (by repeat (first | (with_reducible first | exact HB.out | apply below_alloc | apply pw_below_drewN | apply below_drew1) | exact HB.out)) hb); have n1_ := Aside0.mk (hbox); have n2_ := Aside0.mk ((by rw [hg]; exact (below_size (by repeat (first | (with_reducible first | exact HB.out | apply below_alloc | apply pw_below_drewN | apply below_drew1) | exact HB.out))) : w.heap.size ≤ gb115)); have n3_ := Aside0.mk ((by rw [hg]; exact (below_size (by repeat (first | (with_reducible first | exact HB.out | apply below_alloc | apply pw_below_drewN | apply below_drew1) | exact HB.out))) : w.heap.size ≤ gb115)); clear HB; have HB := n0_; have BK115 := n1_; have GW115 := n2_; have GE115 := n3_; clear n0_ n1_ n2_ n3_; clear hb hbox hg; have hcz18_0 : w17.cell? ⟨gb115, 0, none⟩ = some (.int .i64 a0_0) := (blk_cell BK115.out 0).trans rfl; have hcz18_1 : w17.cell? ⟨gb115, 1, none⟩ = some (.int .i64 a0_1) := (blk_cell BK115.out 1).trans rfl; have hcz18_2 : w17.cell? ⟨gb115, 2, none⟩ = some (.string a0_2) := (blk_cell BK115.out 2).trans rfl; have hfz18_0 := blk_frozen BK115.out 0; have hfz18_1 := blk_frozen BK115.out 1; have hfz18_2 := blk_frozen BK115.out 2))
        go_ret
        exact ⟨by first | rfl | (simp [errW_none, errW_some] <;> rfl) | (simp [*, errW_none, errW_some] <;> rfl), by repeat (first | (with_reducible first | exact HB.out | apply below_alloc | apply pw_below_drewN | apply below_drew1 | refine below_set ?_ GE115.out) | exact HB.out)⟩
    · rw [if_neg c4] at H
      have c4b0 : decide (0 < a0_1) = false := decide_eq_false c4
      clear c4
      obtain rfl := Option.some.inj H
      go_enter Try.func33, Try.ntmps33
      go_wp2_with (first | ((with_reducible refine gate_dst (N := 2) rfl ?_); (try (refine gate_guard (by rfl) ?_; dsimp only)); refine box_event ?hg (N := 2) ?hd (cs := #[.int .i64 a0_0, .int .i64 a0_1, .string a0_2]) (t := 54) ?hr ?_; (case hd => rfl); (case hg => rfl); (case hr => first | (go_simp; done) | (go_simp; rfl)); intro gb115 hg w19 hbox hb; have n0_ := Aside0.mk (below_step (by repeat (first | (with_reducible first | exact HB.out | apply below_alloc | apply pw_below_drewN | apply below_drew1) | exact HB.out)) hb); have n1_ := Aside0.mk (hbox); have n2_ := Aside0.mk ((by rw [hg]; exact (below_size (by repeat (first | (with_reducible first | exact HB.out | apply below_alloc | apply pw_below_drewN | apply below_drew1) | exact HB.out))) : w.heap.size ≤ gb115)); have n3_ := Aside0.mk ((by rw [hg]; exact (below_size (by repeat (first | (with_reducible first | exact HB.out | apply below_alloc | apply pw_below_drewN | apply below_drew1) | exact HB.out))) : w.heap.size ≤ gb115)); clear HB; have HB := n0_; have BK115 := n1_; have GW115 := n2_; have GE115 := n3_; clear n0_ n1_ n2_ n3_; clear hb hbox hg; have hcz20_0 : w19.cell? ⟨gb115, 0, none⟩ = some (.int .i64 a0_0) := (blk_cell BK115.out 0).trans rfl; have hcz20_1 : w19.cell? ⟨gb115, 1, none⟩ = some (.int .i64 a0_1) := (blk_cell BK115.out 1).trans rfl; have hcz20_2 : w19.cell? ⟨gb115, 2, none⟩ = some (.string a0_2) := (blk_cell BK115.out 2).trans rfl; have hfz20_0 := blk_frozen BK115.out 0; have hfz20_1 := blk_frozen BK115.out 1; have hfz20_2 := blk_frozen BK115.out 2))
      go_ret
      exact ⟨by first | rfl | (simp [errW_none, errW_some] <;> rfl) | (simp [*, errW_none, errW_some] <;> rfl), by repeat (first | (with_reducible first | exact HB.out | apply below_alloc | apply pw_below_drewN | apply below_drew1 | refine below_set ?_ GE115.out) | exact HB.out)⟩
  · rw [if_neg c3] at H
    have c3b0 : (a0_2.toList == ([] : List UInt8)) = false := beq_eq_false_iff_ne.mpr c3
    have c3b1 : (a0_2.toList != ([] : List UInt8)) = true := bne_iff_ne.mpr c3
    by_cases c21 : a0_0 = 0
    · rw [if_pos c21] at H
      have c21b0 : (a0_0 == 0) = true := beq_iff_eq.mpr c21
      have c21b1 : (a0_0 != 0) = false := bne_eq_false_iff_eq.mpr c21
      clear c21
      by_cases c22 : a0_1 = 0
      · rw [if_pos c22] at H
        have c22b0 : (a0_1 == 0) = true := beq_iff_eq.mpr c22
        have c22b1 : (a0_1 != 0) = false := bne_eq_false_iff_eq.mpr c22
        clear c22
        obtain rfl := Option.some.inj H
        go_enter Try.func33, Try.ntmps33
        go_wp2_with (first | ((with_reducible refine gate_dst (N := 2) rfl ?_); (try (refine gate_guard (by rfl) ?_; dsimp only)); refine box_event ?hg (N := 2) ?hd (cs := #[.int .i64 a0_0, .int .i64 a0_1, .string a0_2]) (t := 54) ?hr ?_; (case hd => rfl); (case hg => rfl); (case hr => first | (go_simp; done) | (go_simp; rfl)); intro gb115 hg w23 hbox hb; have n0_ := Aside0.mk (below_step (by repeat (first | (with_reducible first | exact HB.out | apply below_alloc | apply pw_below_drewN | apply below_drew1) | exact HB.out)) hb); have n1_ := Aside0.mk (hbox); have n2_ := Aside0.mk ((by rw [hg]; exact (below_size (by repeat (first | (with_reducible first | exact HB.out | apply below_alloc | apply pw_below_drewN | apply below_drew1) | exact HB.out))) : w.heap.size ≤ gb115)); have n3_ := Aside0.mk ((by rw [hg]; exact (below_size (by repeat (first | (with_reducible first | exact HB.out | apply below_alloc | apply pw_below_drewN | apply below_drew1) | exact HB.out))) : w.heap.size ≤ gb115)); clear HB; have HB := n0_; have BK115 := n1_; have GW115 := n2_; have GE115 := n3_; clear n0_ n1_ n2_ n3_; clear hb hbox hg; have hcz24_0 : w23.cell? ⟨gb115, 0, none⟩ = some (.int .i64 a0_0) := (blk_cell BK115.out 0).trans rfl; have hcz24_1 : w23.cell? ⟨gb115, 1, none⟩ = some (.int .i64 a0_1) := (blk_cell BK115.out 1).trans rfl; have hcz24_2 : w23.cell? ⟨gb115, 2, none⟩ = some (.string a0_2) := (blk_cell BK115.out 2).trans rfl; have hfz24_0 := blk_frozen BK115.out 0; have hfz24_1 := blk_frozen BK115.out 1; have hfz24_2 := blk_frozen BK115.out 2))
        go_ret
        exact ⟨by first | rfl | (simp [errW_none, errW_some] <;> rfl) | (simp [*, errW_none, errW_some] <;> rfl), by repeat (first | (with_reducible first | exact HB.out | apply below_alloc | apply pw_below_drewN | apply below_drew1 | refine below_set ?_ GE115.out) | exact HB.out)⟩
      · rw [if_neg c22] at H
        have c22b0 : (a0_1 == 0) = false := beq_eq_false_iff_ne.mpr c22
        have c22b1 : (a0_1 != 0) = true := bne_iff_ne.mpr c22
        obtain rfl := Option.some.inj H
        go_enter Try.func33, Try.ntmps33
        go_wp2_with (first | ((with_reducible refine gate_dst (N := 2) rfl ?_); (try (refine gate_guard (by rfl) ?_; dsimp only)); refine box_event ?hg (N := 2) ?hd (cs := #[.int .i64 a0_0, .int .i64 a0_1, .string a0_2]) (t := 54) ?hr ?_; (case hd => rfl); (case hg => rfl); (case hr => first | (go_simp; done) | (go_simp; rfl)); intro gb115 hg w25 hbox hb; have n0_ := Aside0.mk (below_step (by repeat (first | (with_reducible first | exact HB.out | apply below_alloc | apply pw_below_drewN | apply below_drew1) | exact HB.out)) hb); have n1_ := Aside0.mk (hbox); have n2_ := Aside0.mk ((by rw [hg]; exact (below_size (by repeat (first | (with_reducible first | exact HB.out | apply below_alloc | apply pw_below_drewN | apply below_drew1) | exact HB.out))) : w.heap.size ≤ gb115)); have n3_ := Aside0.mk ((by rw [hg]; exact (below_size (by repeat (first | (with_reducible first | exact HB.out | apply below_alloc | apply pw_below_drewN | apply below_drew1) | exact HB.out))) : w.heap.size ≤ gb115)); clear HB; have HB := n0_; have BK115 := n1_; have GW115 := n2_; have GE115 := n3_; clear n0_ n1_ n2_ n3_; clear hb hbox hg; have hcz26_0 : w25.cell? ⟨gb115, 0, none⟩ = some (.int .i64 a0_0) := (blk_cell BK115.out 0).trans rfl; have hcz26_1 : w25.cell? ⟨gb115, 1, none⟩ = some (.int .i64 a0_1) := (blk_cell BK115.out 1).trans rfl; have hcz26_2 : w25.cell? ⟨gb115, 2, none⟩ = some (.string a0_2) := (blk_cell BK115.out 2).trans rfl; have hfz26_0 := blk_frozen BK115.out 0; have hfz26_1 := blk_frozen BK115.out 1; have hfz26_2 := blk_frozen BK115.out 2))
        go_ret
        exact ⟨by first | rfl | (simp [errW_none, errW_some] <;> rfl) | (simp [*, errW_none, errW_some] <;> rfl), by repeat (first | (with_reducible first | exact HB.out | apply below_alloc | apply pw_below_drewN | apply below_drew1 | refine below_set ?_ GE115.out) | exact HB.out)⟩
    · rw [if_neg c21] at H
      have c21b0 : (a0_0 == 0) = false := beq_eq_false_iff_ne.mpr c21
      have c21b1 : (a0_0 != 0) = true := bne_iff_ne.mpr c21
      obtain rfl := Option.some.inj H
      go_enter Try.func33, Try.ntmps33
      go_wp2_with (first | ((with_reducible refine gate_dst (N := 2) rfl ?_); (try (refine gate_guard (by rfl) ?_; dsimp only)); refine box_event ?hg (N := 2) ?hd (cs := #[.int .i64 a0_0, .int .i64 a0_1, .string a0_2]) (t := 54) ?hr ?_; (case hd => rfl); (case hg => rfl); (case hr => first | (go_simp; done) | (go_simp; rfl)); intro gb115 hg w27 hbox hb; have n0_ := Aside0.mk (below_step (by repeat (first | (with_reducible first | exact HB.out | apply below_alloc | apply pw_below_drewN | apply below_drew1) | exact HB.out)) hb); have n1_ := Aside0.mk (hbox); have n2_ := Aside0.mk ((by rw [hg]; exact (below_size (by repeat (first | (with_reducible first | exact HB.out | apply below_alloc | apply pw_below_drewN | apply below_drew1) | exact HB.out))) : w.heap.size ≤ gb115)); have n3_ := Aside0.mk ((by rw [hg]; exact (below_size (by repeat (first | (with_reducible first | exact HB.out | apply below_alloc | apply pw_below_drewN | apply below_drew1) | exact HB.out))) : w.heap.size ≤ gb115)); clear HB; have HB := n0_; have BK115 := n1_; have GW115 := n2_; have GE115 := n3_; clear n0_ n1_ n2_ n3_; clear hb hbox hg; have hcz28_0 : w27.cell? ⟨gb115, 0, none⟩ = some (.int .i64 a0_0) := (blk_cell BK115.out 0).trans rfl; have hcz28_1 : w27.cell? ⟨gb115, 1, none⟩ = some (.int .i64 a0_1) := (blk_cell BK115.out 1).trans rfl; have hcz28_2 : w27.cell? ⟨gb115, 2, none⟩ = some (.string a0_2) := (blk_cell BK115.out 2).trans rfl; have hfz28_0 := blk_frozen BK115.out 0; have hfz28_1 := blk_frozen BK115.out 1; have hfz28_2 := blk_frozen BK115.out 2))
      go_ret
      exact ⟨by first | rfl | (simp [errW_none, errW_some] <;> rfl) | (simp [*, errW_none, errW_some] <;> rfl), by repeat (first | (with_reducible first | exact HB.out | apply below_alloc | apply pw_below_drewN | apply below_drew1 | refine below_set ?_ GE115.out) | exact HB.out)⟩

end Go.Proofs.Ytjgelmfkoefclaa.PAll


-- from PAllx6
-- Written by a program of this session (wip/tools/hookprint.py, over the print); Lean checks it.
namespace Go.Proofs.Ytjgelmfkoefclaa.PAll
open Go.RowKit Go.Proofs.YtjgelmfkoefclaaW.PrintWords Go.Proofs.YtjgelmfkoefclaaW.PrintLast Go.Proofs.YtjgelmfkoefclaaW.PrintMore
attribute [local go_sem] max2_int min2_int max_two min_two max_three min_three max_four min_four   -- for this text's walks alone
set_option linter.unusedVariables false
set_option linter.unusedSimpArgs false

/-! ### delta_Right: function 24 -/
mutual
def delta_Right.j0 : Nat → Bool → ByteArray → ByteArray → Int → List (S54) → Option (Bool)
  | 0, _, _, _, _, _ => none
  | k + 1, x31, x117000, x117001, x117002, x117003 => if x31 = true then (some false) else (delta_Right.l0 k 0 x117003 (x117003.length : Int) 0 x117000 x117001 x117002 x117003)
def delta_Right.l0 : Nat → Int → List (S54) → Int → Int → ByteArray → ByteArray → Int → List (S54) → Option (Bool)
  | 0, _, _, _, _, _, _, _, _ => none
  | k + 1, x3, x33, x34, x35, x117000, x117001, x117002, x117003 => if x35 < x34 then (if 0 ≤ x35 then (if x35 < (x33.length : Int) then ((delta_right.f ((rd_T54 x33 x35).f0) ((rd_T54 x33 x35).f1) ((rd_T54 x33 x35).f2) (-1)).bind fun t119 => (if t119 = true then (if (wrap64 (x3 + (wrap64 (((rd_T54 x33 x35).f1) + (((rd_T54 x33 x35).f2).size : Int))))) > x117002 then (some false) else (delta_Right.l0 k (wrap64 (x3 + (wrap64 (((rd_T54 x33 x35).f1) + (((rd_T54 x33 x35).f2).size : Int))))) x33 x34 (wrap64 (x35 + 1)) x117000 x117001 x117002 x117003)) else (some false))) else (none)) else (none)) else (some (x3 == x117002))
end
def delta_Right.f (k : Nat) (a0_0 : ByteArray) (a0_1 : ByteArray) (a0_2 : Int) (l0_3 : List (S54)) : Option (Bool) := if (a0_0.size : Int) = 32 then (if (a0_1.size : Int) = 32 then (if a0_2 < 0 then (delta_Right.j0 k true a0_0 a0_1 a0_2 l0_3) else (if a0_2 > 524288 then (delta_Right.j0 k true a0_0 a0_1 a0_2 l0_3) else (delta_Right.j0 k (decide ((l0_3.length : Int) > 524288)) a0_0 a0_1 a0_2 l0_3))) else (delta_Right.j0 k true a0_0 a0_1 a0_2 l0_3)) else (delta_Right.j0 k true a0_0 a0_1 a0_2 l0_3)
theorem delta_Right.mono_l : ∀ k, (∀ y0 y1 y2 y3 y4, LeO (delta_Right.j0 k y0 y1 y2 y3 y4) (delta_Right.j0 (k + 1) y0 y1 y2 y3 y4)) ∧ (∀ y0 y1 y2 y3 y4 y5 y6 y7, LeO (delta_Right.l0 k y0 y1 y2 y3 y4 y5 y6 y7) (delta_Right.l0 (k + 1) y0 y1 y2 y3 y4 y5 y6 y7))
  | 0 => ⟨fun _ _ _ _ _ r h => by simp [delta_Right.j0] at h, fun _ _ _ _ _ _ _ _ r h => by simp [delta_Right.l0] at h⟩
  | k + 1 => by
    obtain ⟨ih0, ih1⟩ := delta_Right.mono_l k
    refine ⟨?_, ?_⟩
    · intro y0 y1 y2 y3 y4
      unfold delta_Right.j0
      repeat' first
      | (with_reducible exact ih0 _ _ _ _ _)
      | (with_reducible exact ih1 _ _ _ _ _ _ _ _)
      | (with_reducible exact LeO.refl _)
      | (with_reducible exact LeO.none _)
      | (with_reducible refine LeO.ite ?_ ?_)
      | (with_reducible refine LeO.bind ?_ (fun _ => ?_))
      | exact ih0 _ _ _ _ _
      | exact ih1 _ _ _ _ _ _ _ _
      | exact LeO.none _
      | refine LeO.ite ?_ ?_
      | refine LeO.bind ?_ (fun _ => ?_)
    · intro y0 y1 y2 y3 y4 y5 y6 y7
      unfold delta_Right.l0
      repeat' first
      | (with_reducible exact ih0 _ _ _ _ _)
      | (with_reducible exact ih1 _ _ _ _ _ _ _ _)
      | (with_reducible exact LeO.refl _)
      | (with_reducible exact LeO.none _)
      | (with_reducible refine LeO.ite ?_ ?_)
      | (with_reducible refine LeO.bind ?_ (fun _ => ?_))
      | exact ih0 _ _ _ _ _
      | exact ih1 _ _ _ _ _ _ _ _
      | exact LeO.none _
      | refine LeO.ite ?_ ?_
      | refine LeO.bind ?_ (fun _ => ?_)
theorem delta_Right.mono : ∀ a0 a1 a2 a3 k, LeO (delta_Right.f k a0 a1 a2 a3) (delta_Right.f (k + 1) a0 a1 a2 a3) := by
  intro a0 a1 a2 a3 k
  obtain ⟨ih0, ih1⟩ := delta_Right.mono_l k
  unfold delta_Right.f
  repeat' first
      | (with_reducible exact ih0 _ _ _ _ _)
      | (with_reducible exact ih1 _ _ _ _ _ _ _ _)
      | (with_reducible exact LeO.refl _)
      | (with_reducible exact LeO.none _)
      | (with_reducible refine LeO.ite ?_ ?_)
      | (with_reducible refine LeO.bind ?_ (fun _ => ?_))
      | exact ih0 _ _ _ _ _
      | exact ih1 _ _ _ _ _ _ _ _
      | exact LeO.none _
      | refine LeO.ite ?_ ?_
      | refine LeO.bind ?_ (fun _ => ?_)
set_option maxHeartbeats 8000000 in
set_option maxRecDepth 100000 in
theorem delta_Right.calls (k : Nat) (a0_0 : ByteArray) (a0_1 : ByteArray) (a0_2 : Int) (A0_3 : Option Addr) (c0_3 : Nat) (l0_3 : List (S54)) (r : Bool) (w : World) (hr0_3 : Kd.C k54 w A0_3 l0_3.length l0_3) (hc0_3 : l0_3.length ≤ c0_3) (h : delta_Right.f k a0_0 a0_1 a0_2 l0_3 = some r) :
    Calls Try.prog 24 #[.agg #[.string a0_0, .string a0_1, .int .i64 a0_2, .slice A0_3 l0_3.length c0_3]] w fun e w' => e = .returned (.bool r) ∧ Below w.heap.size w w' := by
  have hu24 := Try.underlying24
  have hu54 := Try.underlying54
  have HR0_3 := Aside0.mk hr0_3
  have HC0_3 := Aside0.mk hc0_3
  clear hr0_3 hc0_3
  have HB := Aside0.mk (Below.refl w.heap.size w)
  have H : (if (a0_0.size : Int) = 32 then (if (a0_1.size : Int) = 32 then (if a0_2 < 0 then (delta_Right.j0 k true a0_0 a0_1 a0_2 l0_3) else (if a0_2 > 524288 then (delta_Right.j0 k true a0_0 a0_1 a0_2 l0_3) else (delta_Right.j0 k (decide ((l0_3.length : Int) > 524288)) a0_0 a0_1 a0_2 l0_3))) else (delta_Right.j0 k true a0_0 a0_1 a0_2 l0_3)) else (delta_Right.j0 k true a0_0 a0_1 a0_2 l0_3)) = some r := h
  clear h
  have HC2 := Aside0.mk H
  clear H
  go_enter Try.func24, Try.ntmps24
  go_upto_region 1 with (first | ((with_reducible refine gate_dst (N := 1) rfl ?_); (try (refine gate_guard (by rfl) ?_; dsimp only)); refine box_event ?hg (N := 1) ?hd (cs := #[.string a0_0, .string a0_1, .int .i64 a0_2, .slice A0_3 l0_3.length c0_3]) (t := 24) ?hr ?_; (case hd => rfl); (case hg => rfl); (case hr => first | (go_simp; done) | (go_simp; rfl)); intro gb116 hg w3 hbox hb; have n0_ := Aside0.mk (below_step (by repeat (first | (with_reducible first | exact HB.out | apply below_alloc | apply pw_below_drewN | apply below_drew1) | exact HB.out)) hb); have n1_ := Aside0.mk (hbox); have n2_ := Aside0.mk ((by rw [hg]; exact (below_size (by repeat (first | (with_reducible first | exact HB.out | apply below_alloc | apply pw_below_drewN | apply below_drew1) | exact HB.out))) : w.heap.size ≤ gb116)); have n3_ := Aside0.mk ((by rw [hg]; exact (below_size (by repeat (first | (with_reducible first | exact HB.out | apply below_alloc | apply pw_below_drewN | apply below_drew1) | exact HB.out))) : w.heap.size ≤ gb116)); clear HB; have HB := n0_; have BK116 := n1_; have GW116 := n2_; have GE116 := n3_; clear n0_ n1_ n2_ n3_; clear hb hbox hg))
  (try simp only [Act.put, List.setIfInBounds_toArray, List.set_cons_zero, List.set_cons_succ])
  go_cut [31] (fun v31 wc => ∃ (kq : Nat) (x31_1 : Bool), v31 = .bool x31_1 ∧ Aside0 (delta_Right.j0 kq x31_1 a0_0 a0_1 a0_2 l0_3 = some r) ∧ Aside0 (kq ≤ k) ∧ Aside0 (wc.heap[gb116]? = some (.cells #[.string a0_0, .string a0_1, .int .i64 a0_2, (.slice A0_3 l0_3.length c0_3)] 24 (0, 0))) ∧ Aside0 (Below w.heap.size w wc))
  case first =>
    have H := HC2.out
    clear HC2
    by_cases c4 : (a0_0.size : Int) = 32
    · rw [if_pos c4] at H
      have c4b0 : ((a0_0.size : Int) == 32) = true := beq_iff_eq.mpr c4
      have c4b1 : ((a0_0.size : Int) != 32) = false := bne_eq_false_iff_eq.mpr c4
      clear c4
      (first | rw [c4b0] | (simp only [i64_w, i32_w]; rw [c4b0]) | skip)
      by_cases c5 : (a0_1.size : Int) = 32
      · rw [if_pos c5] at H
        have c5b0 : ((a0_1.size : Int) == 32) = true := beq_iff_eq.mpr c5
        have c5b1 : ((a0_1.size : Int) != 32) = false := bne_eq_false_iff_eq.mpr c5
        clear c5
        by_cases c6 : a0_2 < 0
        · rw [if_pos c6] at H
          have c6b0 : decide (a0_2 < 0) = true := decide_eq_true c6
          clear c6
          have H' := Aside0.mk H
          clear H
          have hcz7_0 : w3.cell? ⟨gb116, 0, none⟩ = some (.string a0_0) := (blk_cell BK116.out 0).trans rfl
          have hcz7_1 : w3.cell? ⟨gb116, 1, none⟩ = some (.string a0_1) := (blk_cell BK116.out 1).trans rfl
          have hcz7_2 : w3.cell? ⟨gb116, 2, none⟩ = some (.int .i64 a0_2) := (blk_cell BK116.out 2).trans rfl
          have hcz7_3 : w3.cell? ⟨gb116, 3, none⟩ = some (.slice A0_3 l0_3.length c0_3) := (blk_cell BK116.out 3).trans rfl
          have hfz7_0 := blk_frozen BK116.out 0
          have hfz7_1 := blk_frozen BK116.out 1
          have hfz7_2 := blk_frozen BK116.out 2
          have hfz7_3 := blk_frozen BK116.out 3
          go_wp2
          go_meet
          case rel => exact ⟨_, (true), (by first | rfl | (simp; done) | (simp [*]; done)), H', ⟨by first | omega | exact Nat.le_refl _⟩, ⟨by (with_reducible repeat (first | refine blk_drewN ?_ _ | refine blk_drew ?_ | refine blk_alloc ?_ _)); exact BK116.out⟩, ⟨by repeat (first | (with_reducible first | exact HB.out | apply below_alloc | apply pw_below_drewN | apply below_drew1 | refine below_set ?_ GE116.out) | exact HB.out)⟩⟩
        · rw [if_neg c6] at H
          have c6b0 : decide (a0_2 < 0) = false := decide_eq_false c6
          clear c6
          by_cases c8 : a0_2 > 524288
          · rw [if_pos c8] at H
            have c8b0 : decide (524288 < a0_2) = true := decide_eq_true c8
            clear c8
            have H' := Aside0.mk H
            clear H
            have hcz9_0 : w3.cell? ⟨gb116, 0, none⟩ = some (.string a0_0) := (blk_cell BK116.out 0).trans rfl
            have hcz9_1 : w3.cell? ⟨gb116, 1, none⟩ = some (.string a0_1) := (blk_cell BK116.out 1).trans rfl
            have hcz9_2 : w3.cell? ⟨gb116, 2, none⟩ = some (.int .i64 a0_2) := (blk_cell BK116.out 2).trans rfl
            have hcz9_3 : w3.cell? ⟨gb116, 3, none⟩ = some (.slice A0_3 l0_3.length c0_3) := (blk_cell BK116.out 3).trans rfl
            have hfz9_0 := blk_frozen BK116.out 0
            have hfz9_1 := blk_frozen BK116.out 1
            have hfz9_2 := blk_frozen BK116.out 2
            have hfz9_3 := blk_frozen BK116.out 3
            go_wp2
            go_meet
            case rel => exact ⟨_, (true), (by first | rfl | (simp; done) | (simp [*]; done)), H', ⟨by first | omega | exact Nat.le_refl _⟩, ⟨by (with_reducible repeat (first | refine blk_drewN ?_ _ | refine blk_drew ?_ | refine blk_alloc ?_ _)); exact BK116.out⟩, ⟨by repeat (first | (with_reducible first | exact HB.out | apply below_alloc | apply pw_below_drewN | apply below_drew1 | refine below_set ?_ GE116.out) | exact HB.out)⟩⟩
          · rw [if_neg c8] at H
            have c8b0 : decide (524288 < a0_2) = false := decide_eq_false c8
            clear c8
            have H' := Aside0.mk H
            clear H
            have hcz10_0 : w3.cell? ⟨gb116, 0, none⟩ = some (.string a0_0) := (blk_cell BK116.out 0).trans rfl
            have hcz10_1 : w3.cell? ⟨gb116, 1, none⟩ = some (.string a0_1) := (blk_cell BK116.out 1).trans rfl
            have hcz10_2 : w3.cell? ⟨gb116, 2, none⟩ = some (.int .i64 a0_2) := (blk_cell BK116.out 2).trans rfl
            have hcz10_3 : w3.cell? ⟨gb116, 3, none⟩ = some (.slice A0_3 l0_3.length c0_3) := (blk_cell BK116.out 3).trans rfl
            have hfz10_0 := blk_frozen BK116.out 0
            have hfz10_1 := blk_frozen BK116.out 1
            have hfz10_2 := blk_frozen BK116.out 2
            have hfz10_3 := blk_frozen BK116.out 3
            go_wp2
            go_meet
            case rel => exact ⟨_, (decide ((l0_3.length : Int) > 524288)), (by first | rfl | (simp; done) | (simp [*]; done)), H', ⟨by first | omega | exact Nat.le_refl _⟩, ⟨by (with_reducible repeat (first | refine blk_drewN ?_ _ | refine blk_drew ?_ | refine blk_alloc ?_ _)); exact BK116.out⟩, ⟨by repeat (first | (with_reducible first | exact HB.out | apply below_alloc | apply pw_below_drewN | apply below_drew1 | refine below_set ?_ GE116.out) | exact HB.out)⟩⟩
      · rw [if_neg c5] at H
        have c5b0 : ((a0_1.size : Int) == 32) = false := beq_eq_false_iff_ne.mpr c5
        have c5b1 : ((a0_1.size : Int) != 32) = true := bne_iff_ne.mpr c5
        have H' := Aside0.mk H
        clear H
        have hcz11_0 : w3.cell? ⟨gb116, 0, none⟩ = some (.string a0_0) := (blk_cell BK116.out 0).trans rfl
        have hcz11_1 : w3.cell? ⟨gb116, 1, none⟩ = some (.string a0_1) := (blk_cell BK116.out 1).trans rfl
        have hcz11_2 : w3.cell? ⟨gb116, 2, none⟩ = some (.int .i64 a0_2) := (blk_cell BK116.out 2).trans rfl
        have hcz11_3 : w3.cell? ⟨gb116, 3, none⟩ = some (.slice A0_3 l0_3.length c0_3) := (blk_cell BK116.out 3).trans rfl
        have hfz11_0 := blk_frozen BK116.out 0
        have hfz11_1 := blk_frozen BK116.out 1
        have hfz11_2 := blk_frozen BK116.out 2
        have hfz11_3 := blk_frozen BK116.out 3
        go_wp2
        go_meet
        case rel => exact ⟨_, (true), (by first | rfl | (simp; done) | (simp [*]; done)), H', ⟨by first | omega | exact Nat.le_refl _⟩, ⟨by (with_reducible repeat (first | refine blk_drewN ?_ _ | refine blk_drew ?_ | refine blk_alloc ?_ _)); exact BK116.out⟩, ⟨by repeat (first | (with_reducible first | exact HB.out | apply below_alloc | apply pw_below_drewN | apply below_drew1 | refine below_set ?_ GE116.out) | exact HB.out)⟩⟩
    · rw [if_neg c4] at H
      have c4b0 : ((a0_0.size : Int) == 32) = false := beq_eq_false_iff_ne.mpr c4
      have c4b1 : ((a0_0.size : Int) != 32) = true := bne_iff_ne.mpr c4
      (first | rw [c4b0] | (simp only [i64_w, i32_w]; rw [c4b0]) | skip)
      have H' := Aside0.mk H
      clear H
      have hcz12_0 : w3.cell? ⟨gb116, 0, none⟩ = some (.string a0_0) := (blk_cell BK116.out 0).trans rfl
      have hcz12_1 : w3.cell? ⟨gb116, 1, none⟩ = some (.string a0_1) := (blk_cell BK116.out 1).trans rfl
      have hcz12_2 : w3.cell? ⟨gb116, 2, none⟩ = some (.int .i64 a0_2) := (blk_cell BK116.out 2).trans rfl
      have hcz12_3 : w3.cell? ⟨gb116, 3, none⟩ = some (.slice A0_3 l0_3.length c0_3) := (blk_cell BK116.out 3).trans rfl
      have hfz12_0 := blk_frozen BK116.out 0
      have hfz12_1 := blk_frozen BK116.out 1
      have hfz12_2 := blk_frozen BK116.out 2
      have hfz12_3 := blk_frozen BK116.out 3
      go_wp2
      go_meet
      case rel => exact ⟨_, (true), (by first | rfl | (simp; done) | (simp [*]; done)), H', ⟨by first | omega | exact Nat.le_refl _⟩, ⟨by (with_reducible repeat (first | refine blk_drewN ?_ _ | refine blk_drew ?_ | refine blk_alloc ?_ _)); exact BK116.out⟩, ⟨by repeat (first | (with_reducible first | exact HB.out | apply below_alloc | apply pw_below_drewN | apply below_drew1 | refine below_set ?_ GE116.out) | exact HB.out)⟩⟩
  case rest =>
    clear HC2
    try clear c2
    try clear p2
    try clear c4
    try clear c4b0
    try clear c4b1
    try clear c5
    try clear c5b0
    try clear c5b1
    try clear c6
    try clear c6b0
    try clear c8
    try clear c8b0
    try clear hcz10_0
    try clear hcz10_1
    try clear hcz10_2
    try clear hcz10_3
    try clear hcz11_0
    try clear hcz11_1
    try clear hcz11_2
    try clear hcz11_3
    try clear hcz12_0
    try clear hcz12_1
    try clear hcz12_2
    try clear hcz12_3
    try clear hcz7_0
    try clear hcz7_1
    try clear hcz7_2
    try clear hcz7_3
    try clear hcz9_0
    try clear hcz9_1
    try clear hcz9_2
    try clear hcz9_3
    try clear hfz10_0
    try clear hfz10_1
    try clear hfz10_2
    try clear hfz10_3
    try clear hfz11_0
    try clear hfz11_1
    try clear hfz11_2
    try clear hfz11_3
    try clear hfz12_0
    try clear hfz12_1
    try clear hfz12_2
    try clear hfz12_3
    try clear hfz7_0
    try clear hfz7_1
    try clear hfz7_2
    try clear hfz7_3
    try clear hfz9_0
    try clear hfz9_1
    try clear hfz9_2
    try clear hfz9_3
    obtain ⟨kq, x31_1, rfl, HA, HJ1, BK116, HB⟩ := hcut
    cases kq with
    | zero => exact absurd HA.out (by simp [delta_Right.j0])
    | succ kj1 =>
      have H := HA.out
      clear HA
      simp only [delta_Right.j0] at H
      by_cases c13 : x31_1 = true
      · subst c13
        have H1 : (some false) = some r := by rw [if_pos rfl] at H; exact H
        clear H
        have H := H1
        clear H1
        obtain rfl := Option.some.inj H
        go_wp2
        go_ret
        exact ⟨by first | rfl | (simp [errW_none, errW_some] <;> rfl) | (simp [*, errW_none, errW_some] <;> rfl), by repeat (first | (with_reducible first | exact HB.out | apply below_alloc | apply pw_below_drewN | apply below_drew1 | refine below_set ?_ GE116.out) | exact HB.out)⟩
      · replace c13 := Bool.eq_false_iff.mpr c13
        subst c13
        have H1 : (delta_Right.l0 kj1 0 l0_3 (l0_3.length : Int) 0 a0_0 a0_1 a0_2 l0_3) = some r := by rw [if_neg (show ¬ (false = true) by decide)] at H; exact H
        clear H
        have H := H1
        clear H1
        have H' := Aside0.mk H
        clear H
        have hcz14_0 : wc.cell? ⟨gb116, 0, none⟩ = some (.string a0_0) := (blk_cell BK116.out 0).trans rfl
        have hcz14_1 : wc.cell? ⟨gb116, 1, none⟩ = some (.string a0_1) := (blk_cell BK116.out 1).trans rfl
        have hcz14_2 : wc.cell? ⟨gb116, 2, none⟩ = some (.int .i64 a0_2) := (blk_cell BK116.out 2).trans rfl
        have hcz14_3 : wc.cell? ⟨gb116, 3, none⟩ = some (.slice A0_3 l0_3.length c0_3) := (blk_cell BK116.out 3).trans rfl
        have hfz14_0 := blk_frozen BK116.out 0
        have hfz14_1 := blk_frozen BK116.out 1
        have hfz14_2 := blk_frozen BK116.out 2
        have hfz14_3 := blk_frozen BK116.out 3
        go_wp2
        go_loopg [3, 35] kj1 (fun kq v3 v35 w' => ∃ (x3_2 : Int) (x35_2 : Int), v3 = .int .i64 x3_2 ∧ v35 = .int .i64 x35_2 ∧ Aside0 (delta_Right.l0 kq x3_2 l0_3 (l0_3.length : Int) x35_2 a0_0 a0_1 a0_2 l0_3 = some r) ∧ Aside0 (kq ≤ kj1) ∧ Aside0 (w'.heap[gb116]? = some (.cells #[.string a0_0, .string a0_1, .int .i64 a0_2, (.slice A0_3 l0_3.length c0_3)] 24 (0, 0))) ∧ Aside0 (Below w.heap.size w w'))
        case atStart => exact ⟨(0), (0), (by first | rfl | (simp; done) | (simp [*]; done)), (by first | rfl | (simp; done) | (simp [*]; done)), H', ⟨Nat.le_refl _⟩, ⟨by (with_reducible repeat (first | refine blk_drewN ?_ _ | refine blk_drew ?_ | refine blk_alloc ?_ _)); exact BK116.out⟩, ⟨by repeat (first | (with_reducible first | exact HB.out | apply below_alloc | apply pw_below_drewN | apply below_drew1 | refine below_set ?_ GE116.out) | exact HB.out)⟩⟩
        case round =>
          clear H'
          try clear c1
          try clear c2
          try clear p2
          try clear c4
          try clear c4b0
          try clear c4b1
          try clear c5
          try clear c5b0
          try clear c5b1
          try clear c6
          try clear c6b0
          try clear c8
          try clear c8b0
          try clear c13
          try clear hcz10_0
          try clear hcz10_1
          try clear hcz10_2
          try clear hcz10_3
          try clear hcz11_0
          try clear hcz11_1
          try clear hcz11_2
          try clear hcz11_3
          try clear hcz12_0
          try clear hcz12_1
          try clear hcz12_2
          try clear hcz12_3
          try clear hcz14_0
          try clear hcz14_1
          try clear hcz14_2
          try clear hcz14_3
          try clear hcz7_0
          try clear hcz7_1
          try clear hcz7_2
          try clear hcz7_3
          try clear hcz9_0
          try clear hcz9_1
          try clear hcz9_2
          try clear hcz9_3
          try clear hfz10_0
          try clear hfz10_1
          try clear hfz10_2
          try clear hfz10_3
          try clear hfz11_0
          try clear hfz11_1
          try clear hfz11_2
          try clear hfz11_3
          try clear hfz12_0
          try clear hfz12_1
          try clear hfz12_2
          try clear hfz12_3
          try clear hfz14_0
          try clear hfz14_1
          try clear hfz14_2
          try clear hfz14_3
          try clear hfz7_0
          try clear hfz7_1
          try clear hfz7_2
          try clear hfz7_3
          try clear hfz9_0
          try clear hfz9_1
          try clear hfz9_2
          try clear hfz9_3
          try clear p2
          obtain ⟨x3_2, x35_2, rfl, rfl, HA, HK2, BK116, HB⟩ := hrel
          cases gk with
          | zero => exact absurd HA.out (by simp [delta_Right.l0])
          | succ k2 =>
            have H := HA.out
            clear HA
            simp only [delta_Right.l0] at H
            by_cases c15 : x35_2 < (l0_3.length : Int)
            · rw [if_pos c15] at H
              have c15b0 : decide (x35_2 < (l0_3.length : Int)) = true := decide_eq_true c15
              clear c15
              by_cases c16 : 0 ≤ x35_2
              · rw [if_pos c16] at H
                have c16b0 : decide (0 ≤ x35_2) = true := decide_eq_true c16
                clear c16
                by_cases c17 : x35_2 < (l0_3.length : Int)
                · rw [if_pos c17] at H
                  have c17b0 : decide (x35_2 < (l0_3.length : Int)) = true := decide_eq_true c17
                  clear c17
                  replace H := Option.bind_eq_some_iff.mp H
                  obtain ⟨t119, A180, H⟩ := H
                  replace H : (if t119 = true then (if (wrap64 (x3_2 + (wrap64 (((rd_T54 l0_3 x35_2).f1) + (((rd_T54 l0_3 x35_2).f2).size : Int))))) > a0_2 then (some false) else (delta_Right.l0 k2 (wrap64 (x3_2 + (wrap64 (((rd_T54 l0_3 x35_2).f1) + (((rd_T54 l0_3 x35_2).f2).size : Int))))) l0_3 (l0_3.length : Int) (wrap64 (x35_2 + 1)) a0_0 a0_1 a0_2 l0_3)) else (some false)) = some r := H
                  have A18 := Aside0.mk A180
                  clear A180
                  by_cases c19 : t119 = true
                  · subst c19
                    have H1 : (if (wrap64 (x3_2 + (wrap64 (((rd_T54 l0_3 x35_2).f1) + (((rd_T54 l0_3 x35_2).f2).size : Int))))) > a0_2 then (some false) else (delta_Right.l0 k2 (wrap64 (x3_2 + (wrap64 (((rd_T54 l0_3 x35_2).f1) + (((rd_T54 l0_3 x35_2).f2).size : Int))))) l0_3 (l0_3.length : Int) (wrap64 (x35_2 + 1)) a0_0 a0_1 a0_2 l0_3)) = some r := by rw [if_pos rfl] at H; exact H
                    clear H
                    have H := H1
                    clear H1
                    by_cases c20 : (wrap64 (x3_2 + (wrap64 (((rd_T54 l0_3 x35_2).f1) + (((rd_T54 l0_3 x35_2).f2).size : Int))))) > a0_2
                    · rw [if_pos c20] at H
                      have c20b0 : decide (a0_2 < (wrap64 (x3_2 + (wrap64 (((rd_T54 l0_3 x35_2).f1) + (((rd_T54 l0_3 x35_2).f2).size : Int)))))) = true := decide_eq_true c20
                      clear c20
                      obtain rfl := Option.some.inj H
                      have p117 : 0 ≤ (x35_2 : Int) := of_decide_eq_true (by first | (with_reducible assumption) | assumption)
                      have q117 : x35_2 < (l0_3.length : Int) := of_decide_eq_true (by first | (with_reducible assumption) | assumption)
                      obtain ⟨ad117, e117, hx117_0, hx117_1, hx117_2⟩ := at_T54 HR0_3.out x35_2 p117 q117
                      cases e117
                      replace hx117_0 := (HB.out.cell (World.block_lt_of_cell? w _ hx117_0)).trans hx117_0
                      replace hx117_1 := (HB.out.cell (World.block_lt_of_cell? w _ hx117_1)).trans hx117_1
                      replace hx117_2 := (HB.out.cell (World.block_lt_of_cell? w _ hx117_2)).trans hx117_2
                      replace p117 := eq_true p117
                      replace q117 := eq_true q117
                      go_wp2_with (first | ((with_reducible refine gate_dst (N := 5) rfl ?_); (try (refine gate_guard (by rfl) ?_; dsimp only)); refine box_event ?hg (N := 5) ?hd (cs := #[.int .i64 0, .int .i64 0, .string (⟨#[]⟩ : ByteArray)]) (t := 54) ?hr ?_; (case hd => rfl); (case hg => rfl); (case hr => first | (go_simp; done) | (go_simp; rfl)); intro gb118 hg w21 hbox hb; have n0_ := Aside0.mk (blk_below (g := gb116) (o := .cells #[.string a0_0, .string a0_1, .int .i64 a0_2, .slice (some ad117) l0_3.length c0_3] 24 (0, 0)) (by (with_reducible repeat (first | refine blk_drewN ?_ _ | refine blk_drew ?_ | refine blk_alloc ?_ _)); exact BK116.out) hb); have n1_ := Aside0.mk (below_step (by repeat (first | (with_reducible first | exact HB.out | apply below_alloc | apply pw_below_drewN | apply below_drew1 | refine below_set ?_ GE116.out) | exact HB.out)) hb); have n2_ := Aside0.mk (hbox); have n3_ := Aside0.mk ((by rw [hg]; exact (below_size (by repeat (first | (with_reducible first | exact HB.out | apply below_alloc | apply pw_below_drewN | apply below_drew1 | refine below_set ?_ GE116.out) | exact HB.out))) : w.heap.size ≤ gb118)); have n4_ := Aside0.mk ((by rw [hg]; exact (below_size (by repeat (first | (with_reducible first | exact HB.out | apply below_alloc | apply pw_below_drewN | apply below_drew1 | refine below_set ?_ GE116.out) | exact HB.out))) : w.heap.size ≤ gb118)); have n5_ := Aside0.mk ((by rw [hg]; exact Nat.ne_of_lt (blk_lt (g := gb116) (o := .cells #[.string a0_0, .string a0_1, .int .i64 a0_2, .slice (some ad117) l0_3.length c0_3] 24 (0, 0)) (by (with_reducible repeat (first | refine blk_drewN ?_ _ | refine blk_drew ?_ | refine blk_alloc ?_ _)); exact BK116.out)) : gb116 ≠ gb118)); have n6_ := Aside0.mk ((by rw [hg]; exact Nat.ne_of_gt (blk_lt (g := gb116) (o := .cells #[.string a0_0, .string a0_1, .int .i64 a0_2, .slice (some ad117) l0_3.length c0_3] 24 (0, 0)) (by (with_reducible repeat (first | refine blk_drewN ?_ _ | refine blk_drew ?_ | refine blk_alloc ?_ _)); exact BK116.out)) : gb118 ≠ gb116)); clear BK116; clear HB; have BK116 := n0_; have HB := n1_; have BK118 := n2_; have GW118 := n3_; have GE118 := n4_; have NB116_118 := n5_; have NB118_116 := n6_; clear n0_ n1_ n2_ n3_ n4_ n5_ n6_; clear hb hbox hg; have hnb22 := NB118_116.out; have hnc22 := NB116_118.out; have hcz23_0 : w21.cell? ⟨gb118, 0, none⟩ = some (.int .i64 0) := (blk_cell BK118.out 0).trans rfl; have hcz23_1 : w21.cell? ⟨gb118, 1, none⟩ = some (.int .i64 0) := (blk_cell BK118.out 1).trans rfl; have hcz23_2 : w21.cell? ⟨gb118, 2, none⟩ = some (.string (⟨#[]⟩ : ByteArray)) := (blk_cell BK118.out 2).trans rfl; have hfz23_0 := blk_frozen BK118.out 0; have hfz23_1 := blk_frozen BK118.out 1; have hfz23_2 := blk_frozen BK118.out 2) | ((with_reducible refine gate_callee (f := 33) rfl ?_); refine goesL_ (some 40) rfl rfl Try.func33 (by kernel_rfl) rfl #[.agg #[.int .i64 ((rd_T54 l0_3 x35_2).f0), .int .i64 ((rd_T54 l0_3 x35_2).f1), .string ((rd_T54 l0_3 x35_2).f2)], .int .i64 (-1)] rfl (by (try simp only [List.map_toArray, List.map_cons, List.map_nil]); first | done | rfl | (simp only [List.length_drop, List.length_take]; rfl)) ?_; (with_reducible refine (delta_right.calls ((rd_T54 l0_3 x35_2).f0) ((rd_T54 l0_3 x35_2).f1) ((rd_T54 l0_3 x35_2).f2) (-1) true _ A18.out).mono ?_); rintro e w24 ⟨rfl, hb⟩; refine ⟨_, rfl, ?_⟩; have n0_ := Aside0.mk (blk_below (g := gb116) (o := .cells #[.string a0_0, .string a0_1, .int .i64 a0_2, .slice (some ad117) l0_3.length c0_3] 24 (0, 0)) (by (with_reducible repeat (first | refine blk_drewN ?_ _ | refine blk_drew ?_ | refine blk_alloc ?_ _)); refine blk_far ?_ NB116_118.out _; (with_reducible repeat (first | refine blk_drewN ?_ _ | refine blk_drew ?_ | refine blk_alloc ?_ _)); refine blk_far ?_ NB116_118.out _; (with_reducible repeat (first | refine blk_drewN ?_ _ | refine blk_drew ?_ | refine blk_alloc ?_ _)); refine blk_far ?_ NB116_118.out _; (with_reducible repeat (first | refine blk_drewN ?_ _ | refine blk_drew ?_ | refine blk_alloc ?_ _)); exact BK116.out) hb); have n1_ := Aside0.mk (blk_below (g := gb118) (o := .cells #[.int .i64 ((rd_T54 l0_3 x35_2).f0), .int .i64 ((rd_T54 l0_3 x35_2).f1), .string ((rd_T54 l0_3 x35_2).f2)] 54 (0, 0)) (by (with_reducible repeat (first | refine blk_drewN ?_ _ | refine blk_drew ?_ | refine blk_alloc ?_ _)); refine blk_put (cs := #[.int .i64 ((rd_T54 l0_3 x35_2).f0), .int .i64 ((rd_T54 l0_3 x35_2).f1), .string (⟨#[]⟩ : ByteArray)]) ?_ 2 _ rfl; (with_reducible repeat (first | refine blk_drewN ?_ _ | refine blk_drew ?_ | refine blk_alloc ?_ _)); refine blk_put (cs := #[.int .i64 ((rd_T54 l0_3 x35_2).f0), .int .i64 0, .string (⟨#[]⟩ : ByteArray)]) ?_ 1 _ rfl; (with_reducible repeat (first | refine blk_drewN ?_ _ | refine blk_drew ?_ | refine blk_alloc ?_ _)); refine blk_put (cs := #[.int .i64 0, .int .i64 0, .string (⟨#[]⟩ : ByteArray)]) ?_ 0 _ rfl; (with_reducible repeat (first | refine blk_drewN ?_ _ | refine blk_drew ?_ | refine blk_alloc ?_ _)); exact BK118.out) hb); have n2_ := Aside0.mk (below_step (by repeat (first | (with_reducible first | exact HB.out | apply below_alloc | apply pw_below_drewN | apply below_drew1 | refine below_set ?_ GE116.out | refine below_set ?_ GE118.out) | exact HB.out)) hb); clear BK116; clear BK118; clear HB; have BK116 := n0_; have BK118 := n1_; have HB := n2_; clear n0_ n1_ n2_; (try clear hb); (try clear hb2); (try clear hk); (try clear hi); have hcz25_0 : w24.cell? ⟨gb118, 0, none⟩ = some (.int .i64 ((rd_T54 l0_3 x35_2).f0)) := (blk_cell BK118.out 0).trans rfl; have hcz25_1 : w24.cell? ⟨gb118, 1, none⟩ = some (.int .i64 ((rd_T54 l0_3 x35_2).f1)) := (blk_cell BK118.out 1).trans rfl; have hcz25_2 : w24.cell? ⟨gb118, 2, none⟩ = some (.string ((rd_T54 l0_3 x35_2).f2)) := (blk_cell BK118.out 2).trans rfl; have hfz25_0 := blk_frozen BK118.out 0; have hfz25_1 := blk_frozen BK118.out 1; have hfz25_2 := blk_frozen BK118.out 2; have hcz26_0 : w24.cell? ⟨gb116, 0, none⟩ = some (.string a0_0) := (blk_cell BK116.out 0).trans rfl; have hcz26_1 : w24.cell? ⟨gb116, 1, none⟩ = some (.string a0_1) := (blk_cell BK116.out 1).trans rfl; have hcz26_2 : w24.cell? ⟨gb116, 2, none⟩ = some (.int .i64 a0_2) := (blk_cell BK116.out 2).trans rfl; have hcz26_3 : w24.cell? ⟨gb116, 3, none⟩ = some (.slice (some ad117) l0_3.length c0_3) := (blk_cell BK116.out 3).trans rfl; have hfz26_0 := blk_frozen BK116.out 0; have hfz26_1 := blk_frozen BK116.out 1; have hfz26_2 := blk_frozen BK116.out 2; have hfz26_3 := blk_frozen BK116.out 3))
                      go_ret
                      exact ⟨by first | rfl | (simp [errW_none, errW_some] <;> rfl) | (simp [*, errW_none, errW_some] <;> rfl), by repeat (first | (with_reducible first | exact HB.out | apply below_alloc | apply pw_below_drewN | apply below_drew1 | refine below_set ?_ GE116.out | refine below_set ?_ GE118.out) | exact HB.out)⟩
                    · rw [if_neg c20] at H
                      have c20b0 : decide (a0_2 < (wrap64 (x3_2 + (wrap64 (((rd_T54 l0_3 x35_2).f1) + (((rd_T54 l0_3 x35_2).f2).size : Int)))))) = false := decide_eq_false c20
                      clear c20
                      have H' := Aside0.mk H
                      clear H
                      have p117 : 0 ≤ (x35_2 : Int) := of_decide_eq_true (by first | (with_reducible assumption) | assumption)
                      have q117 : x35_2 < (l0_3.length : Int) := of_decide_eq_true (by first | (with_reducible assumption) | assumption)
                      obtain ⟨ad117, e117, hx117_0, hx117_1, hx117_2⟩ := at_T54 HR0_3.out x35_2 p117 q117
                      cases e117
                      replace hx117_0 := (HB.out.cell (World.block_lt_of_cell? w _ hx117_0)).trans hx117_0
                      replace hx117_1 := (HB.out.cell (World.block_lt_of_cell? w _ hx117_1)).trans hx117_1
                      replace hx117_2 := (HB.out.cell (World.block_lt_of_cell? w _ hx117_2)).trans hx117_2
                      replace p117 := eq_true p117
                      replace q117 := eq_true q117
                      go_wp2_with (first | ((with_reducible refine gate_dst (N := 5) rfl ?_); (try (refine gate_guard (by rfl) ?_; dsimp only)); refine box_event ?hg (N := 5) ?hd (cs := #[.int .i64 0, .int .i64 0, .string (⟨#[]⟩ : ByteArray)]) (t := 54) ?hr ?_; (case hd => rfl); (case hg => rfl); (case hr => first | (go_simp; done) | (go_simp; rfl)); intro gb118 hg w27 hbox hb; have n0_ := Aside0.mk (blk_below (g := gb116) (o := .cells #[.string a0_0, .string a0_1, .int .i64 a0_2, .slice (some ad117) l0_3.length c0_3] 24 (0, 0)) (by (with_reducible repeat (first | refine blk_drewN ?_ _ | refine blk_drew ?_ | refine blk_alloc ?_ _)); exact BK116.out) hb); have n1_ := Aside0.mk (below_step (by repeat (first | (with_reducible first | exact HB.out | apply below_alloc | apply pw_below_drewN | apply below_drew1 | refine below_set ?_ GE116.out) | exact HB.out)) hb); have n2_ := Aside0.mk (hbox); have n3_ := Aside0.mk ((by rw [hg]; exact (below_size (by repeat (first | (with_reducible first | exact HB.out | apply below_alloc | apply pw_below_drewN | apply below_drew1 | refine below_set ?_ GE116.out) | exact HB.out))) : w.heap.size ≤ gb118)); have n4_ := Aside0.mk ((by rw [hg]; exact (below_size (by repeat (first | (with_reducible first | exact HB.out | apply below_alloc | apply pw_below_drewN | apply below_drew1 | refine below_set ?_ GE116.out) | exact HB.out))) : w.heap.size ≤ gb118)); have n5_ := Aside0.mk ((by rw [hg]; exact Nat.ne_of_lt (blk_lt (g := gb116) (o := .cells #[.string a0_0, .string a0_1, .int .i64 a0_2, .slice (some ad117) l0_3.length c0_3] 24 (0, 0)) (by (with_reducible repeat (first | refine blk_drewN ?_ _ | refine blk_drew ?_ | refine blk_alloc ?_ _)); exact BK116.out)) : gb116 ≠ gb118)); have n6_ := Aside0.mk ((by rw [hg]; exact Nat.ne_of_gt (blk_lt (g := gb116) (o := .cells #[.string a0_0, .string a0_1, .int .i64 a0_2, .slice (some ad117) l0_3.length c0_3] 24 (0, 0)) (by (with_reducible repeat (first | refine blk_drewN ?_ _ | refine blk_drew ?_ | refine blk_alloc ?_ _)); exact BK116.out)) : gb118 ≠ gb116)); clear BK116; clear HB; have BK116 := n0_; have HB := n1_; have BK118 := n2_; have GW118 := n3_; have GE118 := n4_; have NB116_118 := n5_; have NB118_116 := n6_; clear n0_ n1_ n2_ n3_ n4_ n5_ n6_; clear hb hbox hg; have hnb28 := NB118_116.out; have hnc28 := NB116_118.out; have hcz29_0 : w27.cell? ⟨gb118, 0, none⟩ = some (.int .i64 0) := (blk_cell BK118.out 0).trans rfl; have hcz29_1 : w27.cell? ⟨gb118, 1, none⟩ = some (.int .i64 0) := (blk_cell BK118.out 1).trans rfl; have hcz29_2 : w27.cell? ⟨gb118, 2, none⟩ = some (.string (⟨#[]⟩ : ByteArray)) := (blk_cell BK118.out 2).trans rfl; have hfz29_0 := blk_frozen BK118.out 0; have hfz29_1 := blk_frozen BK118.out 1; have hfz29_2 := blk_frozen BK118.out 2) | ((with_reducible refine gate_callee (f := 33) rfl ?_); refine goesL_ (some 40) rfl rfl Try.func33 (by kernel_rfl) rfl #[.agg #[.int .i64 ((rd_T54 l0_3 x35_2).f0), .int .i64 ((rd_T54 l0_3 x35_2).f1), .string ((rd_T54 l0_3 x35_2).f2)], .int .i64 (-1)] rfl (by (try simp only [List.map_toArray, List.map_cons, List.map_nil]); first | done | rfl | (simp only [List.length_drop, List.length_take]; rfl)) ?_; (with_reducible refine (delta_right.calls ((rd_T54 l0_3 x35_2).f0) ((rd_T54 l0_3 x35_2).f1) ((rd_T54 l0_3 x35_2).f2) (-1) true _ A18.out).mono ?_); rintro e w30 ⟨rfl, hb⟩; refine ⟨_, rfl, ?_⟩; have n0_ := Aside0.mk (blk_below (g := gb116) (o := .cells #[.string a0_0, .string a0_1, .int .i64 a0_2, .slice (some ad117) l0_3.length c0_3] 24 (0, 0)) (by (with_reducible repeat (first | refine blk_drewN ?_ _ | refine blk_drew ?_ | refine blk_alloc ?_ _)); refine blk_far ?_ NB116_118.out _; (with_reducible repeat (first | refine blk_drewN ?_ _ | refine blk_drew ?_ | refine blk_alloc ?_ _)); refine blk_far ?_ NB116_118.out _; (with_reducible repeat (first | refine blk_drewN ?_ _ | refine blk_drew ?_ | refine blk_alloc ?_ _)); refine blk_far ?_ NB116_118.out _; (with_reducible repeat (first | refine blk_drewN ?_ _ | refine blk_drew ?_ | refine blk_alloc ?_ _)); exact BK116.out) hb); have n1_ := Aside0.mk (blk_below (g := gb118) (o := .cells #[.int .i64 ((rd_T54 l0_3 x35_2).f0), .int .i64 ((rd_T54 l0_3 x35_2).f1), .string ((rd_T54 l0_3 x35_2).f2)] 54 (0, 0)) (by (with_reducible repeat (first | refine blk_drewN ?_ _ | refine blk_drew ?_ | refine blk_alloc ?_ _)); refine blk_put (cs := #[.int .i64 ((rd_T54 l0_3 x35_2).f0), .int .i64 ((rd_T54 l0_3 x35_2).f1), .string (⟨#[]⟩ : ByteArray)]) ?_ 2 _ rfl; (with_reducible repeat (first | refine blk_drewN ?_ _ | refine blk_drew ?_ | refine blk_alloc ?_ _)); refine blk_put (cs := #[.int .i64 ((rd_T54 l0_3 x35_2).f0), .int .i64 0, .string (⟨#[]⟩ : ByteArray)]) ?_ 1 _ rfl; (with_reducible repeat (first | refine blk_drewN ?_ _ | refine blk_drew ?_ | refine blk_alloc ?_ _)); refine blk_put (cs := #[.int .i64 0, .int .i64 0, .string (⟨#[]⟩ : ByteArray)]) ?_ 0 _ rfl; (with_reducible repeat (first | refine blk_drewN ?_ _ | refine blk_drew ?_ | refine blk_alloc ?_ _)); exact BK118.out) hb); have n2_ := Aside0.mk (below_step (by repeat (first | (with_reducible first | exact HB.out | apply below_alloc | apply pw_below_drewN | apply below_drew1 | refine below_set ?_ GE116.out | refine below_set ?_ GE118.out) | exact HB.out)) hb); clear BK116; clear BK118; clear HB; have BK116 := n0_; have BK118 := n1_; have HB := n2_; clear n0_ n1_ n2_; (try clear hb); (try clear hb2); (try clear hk); (try clear hi); have hcz31_0 : w30.cell? ⟨gb118, 0, none⟩ = some (.int .i64 ((rd_T54 l0_3 x35_2).f0)) := (blk_cell BK118.out 0).trans rfl; have hcz31_1 : w30.cell? ⟨gb118, 1, none⟩ = some (.int .i64 ((rd_T54 l0_3 x35_2).f1)) := (blk_cell BK118.out 1).trans rfl; have hcz31_2 : w30.cell? ⟨gb118, 2, none⟩ = some (.string ((rd_T54 l0_3 x35_2).f2)) := (blk_cell BK118.out 2).trans rfl; have hfz31_0 := blk_frozen BK118.out 0; have hfz31_1 := blk_frozen BK118.out 1; have hfz31_2 := blk_frozen BK118.out 2; have hcz32_0 : w30.cell? ⟨gb116, 0, none⟩ = some (.string a0_0) := (blk_cell BK116.out 0).trans rfl; have hcz32_1 : w30.cell? ⟨gb116, 1, none⟩ = some (.string a0_1) := (blk_cell BK116.out 1).trans rfl; have hcz32_2 : w30.cell? ⟨gb116, 2, none⟩ = some (.int .i64 a0_2) := (blk_cell BK116.out 2).trans rfl; have hcz32_3 : w30.cell? ⟨gb116, 3, none⟩ = some (.slice (some ad117) l0_3.length c0_3) := (blk_cell BK116.out 3).trans rfl; have hfz32_0 := blk_frozen BK116.out 0; have hfz32_1 := blk_frozen BK116.out 1; have hfz32_2 := blk_frozen BK116.out 2; have hfz32_3 := blk_frozen BK116.out 3))
                      go_roundg k2
                      case measure => have := HJ1.out; have := HK2.out; omega
                      case rel => exact ⟨(wrap64 (x3_2 + (wrap64 (((rd_T54 l0_3 x35_2).f1) + (((rd_T54 l0_3 x35_2).f2).size : Int))))), (wrap64 (x35_2 + 1)), (by first | rfl | (simp; done) | (simp [*]; done)), (by first | rfl | (simp; done) | (simp [*]; done)), H', ⟨by have := HJ1.out; have := HK2.out; omega⟩, ⟨by (with_reducible repeat (first | refine blk_drewN ?_ _ | refine blk_drew ?_ | refine blk_alloc ?_ _)); exact BK116.out⟩, ⟨by repeat (first | (with_reducible first | exact HB.out | apply below_alloc | apply pw_below_drewN | apply below_drew1 | refine below_set ?_ GE116.out | refine below_set ?_ GE118.out) | exact HB.out)⟩⟩
                  · replace c19 := Bool.eq_false_iff.mpr c19
                    subst c19
                    have H1 : (some false) = some r := by rw [if_neg (show ¬ (false = true) by decide)] at H; exact H
                    clear H
                    have H := H1
                    clear H1
                    obtain rfl := Option.some.inj H
                    have p117 : 0 ≤ (x35_2 : Int) := of_decide_eq_true (by first | (with_reducible assumption) | assumption)
                    have q117 : x35_2 < (l0_3.length : Int) := of_decide_eq_true (by first | (with_reducible assumption) | assumption)
                    obtain ⟨ad117, e117, hx117_0, hx117_1, hx117_2⟩ := at_T54 HR0_3.out x35_2 p117 q117
                    cases e117
                    replace hx117_0 := (HB.out.cell (World.block_lt_of_cell? w _ hx117_0)).trans hx117_0
                    replace hx117_1 := (HB.out.cell (World.block_lt_of_cell? w _ hx117_1)).trans hx117_1
                    replace hx117_2 := (HB.out.cell (World.block_lt_of_cell? w _ hx117_2)).trans hx117_2
                    replace p117 := eq_true p117
                    replace q117 := eq_true q117
                    go_wp2_with (first | ((with_reducible refine gate_dst (N := 5) rfl ?_); (try (refine gate_guard (by rfl) ?_; dsimp only)); refine box_event ?hg (N := 5) ?hd (cs := #[.int .i64 0, .int .i64 0, .string (⟨#[]⟩ : ByteArray)]) (t := 54) ?hr ?_; (case hd => rfl); (case hg => rfl); (case hr => first | (go_simp; done) | (go_simp; rfl)); intro gb118 hg w33 hbox hb; have n0_ := Aside0.mk (blk_below (g := gb116) (o := .cells #[.string a0_0, .string a0_1, .int .i64 a0_2, .slice (some ad117) l0_3.length c0_3] 24 (0, 0)) (by (with_reducible repeat (first | refine blk_drewN ?_ _ | refine blk_drew ?_ | refine blk_alloc ?_ _)); exact BK116.out) hb); have n1_ := Aside0.mk (below_step (by repeat (first | (with_reducible first | exact HB.out | apply below_alloc | apply pw_below_drewN | apply below_drew1 | refine below_set ?_ GE116.out) | exact HB.out)) hb); have n2_ := Aside0.mk (hbox); have n3_ := Aside0.mk ((by rw [hg]; exact (below_size (by repeat (first | (with_reducible first | exact HB.out | apply below_alloc | apply pw_below_drewN | apply below_drew1 | refine below_set ?_ GE116.out) | exact HB.out))) : w.heap.size ≤ gb118)); have n4_ := Aside0.mk ((by rw [hg]; exact (below_size (by repeat (first | (with_reducible first | exact HB.out | apply below_alloc | apply pw_below_drewN | apply below_drew1 | refine below_set ?_ GE116.out) | exact HB.out))) : w.heap.size ≤ gb118)); have n5_ := Aside0.mk ((by rw [hg]; exact Nat.ne_of_lt (blk_lt (g := gb116) (o := .cells #[.string a0_0, .string a0_1, .int .i64 a0_2, .slice (some ad117) l0_3.length c0_3] 24 (0, 0)) (by (with_reducible repeat (first | refine blk_drewN ?_ _ | refine blk_drew ?_ | refine blk_alloc ?_ _)); exact BK116.out)) : gb116 ≠ gb118)); have n6_ := Aside0.mk ((by rw [hg]; exact Nat.ne_of_gt (blk_lt (g := gb116) (o := .cells #[.string a0_0, .string a0_1, .int .i64 a0_2, .slice (some ad117) l0_3.length c0_3] 24 (0, 0)) (by (with_reducible repeat (first | refine blk_drewN ?_ _ | refine blk_drew ?_ | refine blk_alloc ?_ _)); exact BK116.out)) : gb118 ≠ gb116)); clear BK116; clear HB; have BK116 := n0_; have HB := n1_; have BK118 := n2_; have GW118 := n3_; have GE118 := n4_; have NB116_118 := n5_; have NB118_116 := n6_; clear n0_ n1_ n2_ n3_ n4_ n5_ n6_; clear hb hbox hg; have hnb34 := NB118_116.out; have hnc34 := NB116_118.out; have hcz35_0 : w33.cell? ⟨gb118, 0, none⟩ = some (.int .i64 0) := (blk_cell BK118.out 0).trans rfl; have hcz35_1 : w33.cell? ⟨gb118, 1, none⟩ = some (.int .i64 0) := (blk_cell BK118.out 1).trans rfl; have hcz35_2 : w33.cell? ⟨gb118, 2, none⟩ = some (.string (⟨#[]⟩ : ByteArray)) := (blk_cell BK118.out 2).trans rfl; have hfz35_0 := blk_frozen BK118.out 0; have hfz35_1 := blk_frozen BK118.out 1; have hfz35_2 := blk_frozen BK118.out 2) | ((with_reducible refine gate_callee (f := 33) rfl ?_); refine goesL_ (some 40) rfl rfl Try.func33 (by kernel_rfl) rfl #[.agg #[.int .i64 ((rd_T54 l0_3 x35_2).f0), .int .i64 ((rd_T54 l0_3 x35_2).f1), .string ((rd_T54 l0_3 x35_2).f2)], .int .i64 (-1)] rfl (by (try simp only [List.map_toArray, List.map_cons, List.map_nil]); first | done | rfl | (simp only [List.length_drop, List.length_take]; rfl)) ?_; (with_reducible refine (delta_right.calls ((rd_T54 l0_3 x35_2).f0) ((rd_T54 l0_3 x35_2).f1) ((rd_T54 l0_3 x35_2).f2) (-1) false _ A18.out).mono ?_); rintro e w36 ⟨rfl, hb⟩; refine ⟨_, rfl, ?_⟩; have n0_ := Aside0.mk (blk_below (g := gb116) (o := .cells #[.string a0_0, .string a0_1, .int .i64 a0_2, .slice (some ad117) l0_3.length c0_3] 24 (0, 0)) (by (with_reducible repeat (first | refine blk_drewN ?_ _ | refine blk_drew ?_ | refine blk_alloc ?_ _)); refine blk_far ?_ NB116_118.out _; (with_reducible repeat (first | refine blk_drewN ?_ _ | refine blk_drew ?_ | refine blk_alloc ?_ _)); refine blk_far ?_ NB116_118.out _; (with_reducible repeat (first | refine blk_drewN ?_ _ | refine blk_drew ?_ | refine blk_alloc ?_ _)); refine blk_far ?_ NB116_118.out _; (with_reducible repeat (first | refine blk_drewN ?_ _ | refine blk_drew ?_ | refine blk_alloc ?_ _)); exact BK116.out) hb); have n1_ := Aside0.mk (blk_below (g := gb118) (o := .cells #[.int .i64 ((rd_T54 l0_3 x35_2).f0), .int .i64 ((rd_T54 l0_3 x35_2).f1), .string ((rd_T54 l0_3 x35_2).f2)] 54 (0, 0)) (by (with_reducible repeat (first | refine blk_drewN ?_ _ | refine blk_drew ?_ | refine blk_alloc ?_ _)); refine blk_put (cs := #[.int .i64 ((rd_T54 l0_3 x35_2).f0), .int .i64 ((rd_T54 l0_3 x35_2).f1), .string (⟨#[]⟩ : ByteArray)]) ?_ 2 _ rfl; (with_reducible repeat (first | refine blk_drewN ?_ _ | refine blk_drew ?_ | refine blk_alloc ?_ _)); refine blk_put (cs := #[.int .i64 ((rd_T54 l0_3 x35_2).f0), .int .i64 0, .string (⟨#[]⟩ : ByteArray)]) ?_ 1 _ rfl; (with_reducible repeat (first | refine blk_drewN ?_ _ | refine blk_drew ?_ | refine blk_alloc ?_ _)); refine blk_put (cs := #[.int .i64 0, .int .i64 0, .string (⟨#[]⟩ : ByteArray)]) ?_ 0 _ rfl; (with_reducible repeat (first | refine blk_drewN ?_ _ | refine blk_drew ?_ | refine blk_alloc ?_ _)); exact BK118.out) hb); have n2_ := Aside0.mk (below_step (by repeat (first | (with_reducible first | exact HB.out | apply below_alloc | apply pw_below_drewN | apply below_drew1 | refine below_set ?_ GE116.out | refine below_set ?_ GE118.out) | exact HB.out)) hb); clear BK116; clear BK118; clear HB; have BK116 := n0_; have BK118 := n1_; have HB := n2_; clear n0_ n1_ n2_; (try clear hb); (try clear hb2); (try clear hk); (try clear hi)))
                    go_ret
                    exact ⟨by first | rfl | (simp [errW_none, errW_some] <;> rfl) | (simp [*, errW_none, errW_some] <;> rfl), by repeat (first | (with_reducible first | exact HB.out | apply below_alloc | apply pw_below_drewN | apply below_drew1 | refine below_set ?_ GE116.out | refine below_set ?_ GE118.out) | exact HB.out)⟩
                · rw [if_neg c17] at H
                  exact absurd H (by simp)
              · rw [if_neg c16] at H
                exact absurd H (by simp)
            · rw [if_neg c15] at H
              have c15b0 : decide (x35_2 < (l0_3.length : Int)) = false := decide_eq_false c15
              clear c15
              obtain rfl := Option.some.inj H
              have hcz37_0 : wr.cell? ⟨gb116, 0, none⟩ = some (.string a0_0) := (blk_cell BK116.out 0).trans rfl
              have hcz37_1 : wr.cell? ⟨gb116, 1, none⟩ = some (.string a0_1) := (blk_cell BK116.out 1).trans rfl
              have hcz37_2 : wr.cell? ⟨gb116, 2, none⟩ = some (.int .i64 a0_2) := (blk_cell BK116.out 2).trans rfl
              have hcz37_3 : wr.cell? ⟨gb116, 3, none⟩ = some (.slice A0_3 l0_3.length c0_3) := (blk_cell BK116.out 3).trans rfl
              have hfz37_0 := blk_frozen BK116.out 0
              have hfz37_1 := blk_frozen BK116.out 1
              have hfz37_2 := blk_frozen BK116.out 2
              have hfz37_3 := blk_frozen BK116.out 3
              go_wp2
              go_ret
              exact ⟨by first | rfl | (simp [errW_none, errW_some] <;> rfl) | (simp [*, errW_none, errW_some] <;> rfl), by repeat (first | (with_reducible first | exact HB.out | apply below_alloc | apply pw_below_drewN | apply below_drew1 | refine below_set ?_ GE116.out) | exact HB.out)⟩

end Go.Proofs.Ytjgelmfkoefclaa.PAll


-- from RightLaw
/- What it is for a delta to be right: the program's answer and the reference's. -/
namespace Go.Proofs.Ytjgelmfkoefclaa.Pure
open Go.RowKit Go.Proofs.YtjgelmfkoefclaaW.PrintWords Go.Proofs.YtjgelmfkoefclaaW.PrintLast Go.Proofs.YtjgelmfkoefclaaW.PrintMore Go.Proofs.Ytjgelmfkoefclaa.PAll
set_option linter.unusedVariables false
set_option linter.unusedSimpArgs false

def stepOk (x : S54) : Prop := if x.f2.size = 0 then 0 < x.f1 ∧ 0 ≤ x.f0 ∧ x.f1 ≤ 524288 ∧ x.f0 ≤ 524288 - x.f1 else x.f0 = 0 ∧ x.f1 = 0 ∧ x.f2.size ≤ 4096
instance (x : S54) : Decidable (stepOk x) := by unfold stepOk; infer_instance
def RightP (g0 g1 : ByteArray) (size : Int) (l : List S54) : Prop := g0.size = 32 ∧ g1.size = 32 ∧ 0 ≤ size ∧ size ≤ 524288 ∧ (∀ x ∈ l, stepOk x) ∧ (sumN l : Int) = size
instance (g0 g1 : ByteArray) (size : Int) (l : List S54) : Decidable (RightP g0 g1 size l) := by unfold RightP; infer_instance
def rightV (g0 g1 : ByteArray) (size : Int) (l : List S54) : Bool := decide (RightP g0 g1 size l)

theorem nil_size (s : ByteArray) : s.toList = ([] : List UInt8) ↔ s.size = 0 := by
  have h : s.toList.length = s.size := by rw [ByteArray.toList_eq]; exact data_length s
  rw [← h]
  exact List.length_eq_zero_iff.symm
theorem stepOk_len {x : S54} (h : stepOk x) : 0 < lenN x ∧ 0 ≤ x.f1 ∧ (x.f1 = 0 ∨ x.f2.size = 0) ∧ lenN x ≤ 524288 ∧ wrap64 (x.f1 + (x.f2.size : Int)) = (lenN x : Nat) := by
  unfold stepOk at h
  unfold lenN
  split at h
  · rename_i h0
    refine ⟨by omega, by omega, .inr h0, by omega, ?_⟩
    unfold wrap64; omega
  · rename_i h0
    refine ⟨by omega, by omega, .inl h.2.1, by omega, ?_⟩
    unfold wrap64; omega
theorem right_f (x : S54) (h0 : -9223372036854775808 ≤ x.f0) (h1 : x.f0 ≤ 9223372036854775807) : delta_right.f x.f0 x.f1 x.f2 (-1) = some (decide (stepOk x)) := by
  unfold delta_right.f
  by_cases hs : x.f2.size = 0
  · rw [if_pos ((nil_size _).2 hs)]
    by_cases a1 : x.f1 > 0
    · rw [if_pos a1]
      by_cases a2 : x.f0 ≥ 0
      · rw [if_pos a2]
        by_cases a3 : x.f1 ≤ 524288
        · rw [if_pos a3]
          have hw : wrap64 (524288 - x.f1) = 524288 - x.f1 := by unfold wrap64; omega
          rw [hw]
          by_cases a4 : x.f0 ≤ 524288 - x.f1
          · rw [if_pos a4, if_pos (by decide)]
            exact congrArg some (decide_eq_true (by unfold stepOk; rw [if_pos hs]; omega)).symm
          · rw [if_neg a4]; exact congrArg some (decide_eq_false (by unfold stepOk; rw [if_pos hs]; omega)).symm
        · rw [if_neg a3]; exact congrArg some (decide_eq_false (by unfold stepOk; rw [if_pos hs]; omega)).symm
      · rw [if_neg a2]; exact congrArg some (decide_eq_false (by unfold stepOk; rw [if_pos hs]; omega)).symm
    · rw [if_neg a1]; exact congrArg some (decide_eq_false (by unfold stepOk; rw [if_pos hs]; omega)).symm
  · rw [if_neg (fun h => hs ((nil_size _).1 h))]
    by_cases a1 : x.f0 = 0
    · rw [if_pos a1]
      by_cases a2 : x.f1 = 0
      · rw [if_pos a2]
        by_cases a3 : x.f2.size ≤ 4096
        · rw [decide_eq_true (show (x.f2.size : Int) ≤ 4096 by omega)]
          exact congrArg some (decide_eq_true (by unfold stepOk; rw [if_neg hs]; omega)).symm
        · rw [decide_eq_false (show ¬ (x.f2.size : Int) ≤ 4096 by omega)]
          exact congrArg some (decide_eq_false (by unfold stepOk; rw [if_neg hs]; omega)).symm
      · rw [if_neg a2]; exact congrArg some (decide_eq_false (by unfold stepOk; rw [if_neg hs]; omega)).symm
    · rw [if_neg a1]; exact congrArg some (decide_eq_false (by unfold stepOk; rw [if_neg hs]; omega)).symm
theorem rdS_nat (l : List S54) (i : Nat) (h : i < l.length) : rd_T54 l (i : Int) = l[i] := by
  unfold rd_T54
  rw [Int.toNat_natCast, List.getD_eq_getElem?_getD, List.getElem?_eq_getElem h]; rfl
theorem wrap_nat (a b : Nat) (h : a + b ≤ 4000000) : wrap64 ((a : Int) + (b : Int)) = ((a + b : Nat) : Int) := by unfold wrap64; omega
def restB (size : Int) (n : Nat) (l : List S54) : Bool := decide ((∀ x ∈ l, stepOk x) ∧ ((n + sumN l : Nat) : Int) = size)
theorem restB_nil (size : Int) (n : Nat) : restB size n [] = ((n : Int) == size) := by
  unfold restB
  rw [Bool.eq_iff_iff, decide_eq_true_eq, beq_iff_eq]
  simp [sumN]
theorem restB_bad (size : Int) (n : Nat) (x : S54) (l : List S54) (h : ¬ stepOk x) : restB size n (x :: l) = false := by
  unfold restB
  exact decide_eq_false (fun hh => h (hh.1 x (List.mem_cons_self ..)))
theorem restB_big (size : Int) (n : Nat) (l : List S54) (h : size < n) : restB size n l = false := by
  unfold restB
  exact decide_eq_false (fun hh => by have := hh.2; omega)
theorem restB_cons (size : Int) (n : Nat) (x : S54) (l : List S54) (h : stepOk x) : restB size n (x :: l) = restB size (n + lenN x) l := by
  unfold restB
  rw [Bool.eq_iff_iff, decide_eq_true_eq, decide_eq_true_eq, sumN_cons]
  constructor
  · rintro ⟨a, b⟩; exact ⟨fun y hy => a y (List.mem_cons_of_mem _ hy), by rw [← b, Nat.add_assoc]⟩
  · rintro ⟨a, b⟩
    refine ⟨fun y hy => ?_, by rw [← b, Nat.add_assoc]⟩
    rcases List.mem_cons.mp hy with rfl | hy
    · exact h
    · exact a y hy
def In64 (l : List S54) : Prop := ∀ x ∈ l, -9223372036854775808 ≤ x.f0 ∧ x.f0 ≤ 9223372036854775807
theorem right_l0 (l : List S54) (hin : In64 l) (g0 g1 : ByteArray) (size : Int) (hs0 : 0 ≤ size) (hs1 : size ≤ 524288) (hl : l.length ≤ 1000000) (d : Nat) : ∀ (k i n : Nat), l.length - i = d → i ≤ l.length → (n : Int) ≤ size → d < k →
    delta_Right.l0 k (n : Nat) l (l.length : Int) (i : Nat) g0 g1 size l = some (restB size n (l.drop i)) := by
  induction d with
  | zero =>
    intro k i n hd hi hn hk
    obtain ⟨k, rfl⟩ : ∃ m, k = m + 1 := ⟨k - 1, by omega⟩
    rw [delta_Right.l0, if_neg (by omega), List.drop_of_length_le (by omega), restB_nil]
  | succ d ih =>
    intro k i n hd hi hn hk
    obtain ⟨k, rfl⟩ : ∃ m, k = m + 1 := ⟨k - 1, by omega⟩
    have hil : i < l.length := by omega
    have hdr : l.drop i = l[i] :: l.drop (i + 1) := List.drop_eq_getElem_cons hil
    have hmem : l[i] ∈ l := List.getElem_mem hil
    rw [delta_Right.l0, if_pos (by omega), if_pos (by omega), if_pos (by omega), rdS_nat l i hil]
    have hb := hin _ hmem
    rw [hdr]
    clear hdr
    obtain ⟨x, hx⟩ : ∃ x, l[i] = x := ⟨_, rfl⟩
    rw [hx] at hb ⊢
    rw [right_f x hb.1 hb.2, Option.bind_some]
    by_cases hok : stepOk x
    · rw [if_pos (decide_eq_true hok)]
      obtain ⟨s1, s2, s3, s4, s5⟩ := stepOk_len hok
      rw [s5, wrap_nat _ _ (by omega), restB_cons _ _ _ _ hok]
      by_cases hb : ((n + lenN x : Nat) : Int) > size
      · rw [if_pos hb, restB_big _ _ _ (by omega)]
      · rw [if_neg hb, show wrap64 ((i : Int) + 1) = ((i + 1 : Nat) : Int) from wrap_nat i 1 (by omega), ih k (i + 1) (n + lenN x) (by omega) (by omega) (by omega) (by omega)]
    · rw [if_neg (by rw [decide_eq_true_eq]; exact hok), restB_bad _ _ _ _ hok]
theorem sumN_ge (l : List S54) (h : ∀ x ∈ l, stepOk x) : l.length ≤ sumN l := by
  induction l with
  | nil => simp [sumN]
  | cons x l ih =>
    have := ih (fun y hy => h y (List.mem_cons_of_mem _ hy))
    have hx := stepOk_len (h x (List.mem_cons_self ..))
    rw [sumN_cons, List.length_cons]
    omega
theorem Right_f (g0 g1 : ByteArray) (size : Int) (l : List S54) (hin : In64 l) (hl : l.length ≤ 1000000) (k : Nat) (hk : l.length + 2 < k) : delta_Right.f k g0 g1 size l = some (rightV g0 g1 size l) := by
  have hfalse : ∀ k, 0 < k → ∀ a b c d, delta_Right.j0 k true a b c d = some false := fun k hk a b c d => by
    obtain ⟨k, rfl⟩ : ∃ m, k = m + 1 := ⟨k - 1, by omega⟩
    rw [delta_Right.j0, if_pos rfl]
  unfold delta_Right.f
  by_cases h0 : (g0.size : Int) = 32
  · rw [if_pos h0]
    by_cases h1 : (g1.size : Int) = 32
    · rw [if_pos h1]
      by_cases h2 : size < 0
      · rw [if_pos h2, hfalse k (by omega)]; exact congrArg some (decide_eq_false (fun h => by unfold RightP at h; omega)).symm
      · rw [if_neg h2]
        by_cases h3 : size > 524288
        · rw [if_pos h3, hfalse k (by omega)]; exact congrArg some (decide_eq_false (fun h => by unfold RightP at h; omega)).symm
        · rw [if_neg h3]
          by_cases h4 : (l.length : Int) > 524288
          · rw [decide_eq_true h4, hfalse k (by omega)]
            exact congrArg some (decide_eq_false (fun h => by have := sumN_ge l h.2.2.2.2.1; have := h.2.2.2.2.2; omega)).symm
          · rw [decide_eq_false h4]
            obtain ⟨k, rfl⟩ : ∃ m, k = m + 1 := ⟨k - 1, by omega⟩
            rw [delta_Right.j0, if_neg (by decide)]
            have := right_l0 l hin g0 g1 size (by omega) (by omega) hl l.length k 0 0 (by omega) (by omega) (by omega) (by omega)
            rw [List.drop_zero] at this
            refine this.trans (congrArg some ?_)
            unfold restB rightV
            rw [Bool.eq_iff_iff, decide_eq_true_eq, decide_eq_true_eq, Nat.zero_add]
            unfold RightP
            constructor
            · rintro ⟨a, b⟩; exact ⟨by omega, by omega, by omega, by omega, a, b⟩
            · rintro ⟨_, _, _, _, a, b⟩; exact ⟨a, b⟩
    · rw [if_neg h1, hfalse k (by omega)]; exact congrArg some (decide_eq_false (fun h => by unfold RightP at h; omega)).symm
  · rw [if_neg h0, hfalse k (by omega)]; exact congrArg some (decide_eq_false (fun h => by unfold RightP at h; omega)).symm
theorem RightP.ok {g0 g1 : ByteArray} {size : Int} {l : List S54} (h : RightP g0 g1 size l) : StepsOk l := by
  obtain ⟨_, _, _, h3, h4, h5⟩ := h
  refine ⟨by have := sumN_ge l h4; omega, by omega, fun x hx => ?_⟩
  obtain ⟨a, b, c, _⟩ := stepOk_len (h4 x hx)
  exact ⟨a, b, c⟩
end Go.Proofs.Ytjgelmfkoefclaa.Pure


-- from MarkLaw
/- The ideal book: what it holds, what a mark is, and what a call of it keeps. -/
namespace Go.Proofs.Ytjgelmfkoefclaa.PAll
open Go.RowKit Go.Proofs.YtjgelmfkoefclaaW.PrintWords Go.Proofs.YtjgelmfkoefclaaW.PrintLast Go.Proofs.YtjgelmfkoefclaaW.PrintMore
set_option linter.unusedVariables false
set_option linter.unusedSimpArgs false

instance baLaw : LawfulBEq ByteArray where
  eq_of_beq {a b} h := by
    have h2 : (a.data == b.data) = true := h
    exact ByteArray.ext (by simpa using h2)
  rfl {a} := by
    show (a.data == a.data) = true
    simp
/-! ### a number as a mark -/
def numB (n : Int) (i : Nat) : Int := (shr .i64 n (8 * ((i % 8 : Nat) : Int))) % 256
def numV (n : Int) : ByteArray := strOfNums ((List.range 32).map (numB n))
theorem strOfNums_size (xs : List Int) : (strOfNums xs).size = xs.length := by simp [strOfNums, ByteArray.size]
theorem numV_size (n : Int) : (numV n).size = 32 := by unfold numV; rw [strOfNums_size]; simp
theorem strOfNums_get (xs : List Int) (i : Nat) (h : i < xs.length) (h0 : 0 ≤ xs[i]) (h1 : xs[i] < 256) : bt (strOfNums xs) (i : Nat) = xs[i] := by
  unfold bt
  rw [dif_pos (by rw [strOfNums_size]; simpa using h)]
  simp only [Int.toNat_natCast]
  have e : (strOfNums xs)[i]'(by rw [strOfNums_size]; exact h) = UInt8.ofNat (xs[i]).toNat := by
    unfold strOfNums
    show (List.map (fun n => UInt8.ofNat n.toNat) xs).toArray[i]'(by simpa using h) = _
    simp
  rw [e]
  simp only [UInt8.toNat_ofNat']
  omega
theorem numB_bounds (n : Int) (i : Nat) : 0 ≤ numB n i ∧ numB n i < 256 := by unfold numB; omega
theorem numV_get (n : Int) (i : Nat) (h : i < 32) : bt (numV n) (i : Nat) = numB n i := by
  unfold numV
  have hl : i < ((List.range 32).map (numB n)).length := by simpa using h
  have hg : ((List.range 32).map (numB n))[i] = numB n i := by simp
  have hb := numB_bounds n i
  rw [strOfNums_get _ i hl (by rw [hg]; exact hb.1) (by rw [hg]; exact hb.2), hg]
theorem numB_nat (n : Nat) (j : Nat) (hj : j < 8) : numB n j = ((n / 2 ^ (8 * j) % 256 : Nat) : Int) := by
  unfold numB shr
  rw [show j % 8 = j by omega]
  have h1 : (8 * ((j : Nat) : Int)).toNat = 8 * j := by omega
  rw [h1, show IntKind.i64.bits = 64 from rfl, Nat.min_eq_left (by omega)]
  rw [Int.natCast_emod, Int.natCast_ediv, Int.natCast_pow]
  rfl
theorem numV_inj (n m : Nat) (hn : n < 16777216) (hm : m < 16777216) (h : numV n = numV m) : n = m := by
  have e : ∀ j, j < 8 → n / 2 ^ (8 * j) % 256 = m / 2 ^ (8 * j) % 256 := fun j hj => by
    have h1 := numV_get n j (by omega)
    have h2 := numV_get m j (by omega)
    rw [h, h2, numB_nat n j hj, numB_nat m j hj] at h1
    omega
  have e0 := e 0 (by omega)
  have e1 := e 1 (by omega)
  have e2 := e 2 (by omega)
  simp only [Nat.mul_zero, Nat.pow_zero, Nat.div_one, Nat.mul_one, show 8 * 2 = 16 from rfl, show (2 : Nat) ^ 8 = 256 from rfl, show (2 : Nat) ^ 16 = 65536 from rfl] at e0 e1 e2
  omega
/-- The bytes that are laid so far. -/
def numC (n : Int) (i : Nat) : Array Value := ((List.range i).map (fun j => Value.int .u8 (numB n j)) ++ List.replicate (32 - i) (Value.int .u8 0)).toArray
theorem numC_get (n : Int) (i : Nat) (h : i < 32) : (numC n i)[i]? = some (.int .u8 0) := by
  unfold numC
  rw [List.getElem?_toArray, List.getElem?_append_right (by simp), List.getElem?_replicate]
  simp only [List.length_map, List.length_range, Nat.sub_self]
  rw [if_pos (by omega)]
theorem numC_put (n : Int) (i : Nat) (h : i < 32) : (numC n i).setIfInBounds i (.int .u8 (numB n i)) = numC n (i + 1) := by
  unfold numC
  rw [List.setIfInBounds_toArray, List.set_append_right (h := by simp), List.range_succ, List.map_append, List.append_assoc]
  congr 2
  rw [show 32 - i = (32 - (i + 1)) + 1 by omega, List.replicate_succ]
  simp
theorem numC_end (n : Int) (j : Nat) (h : j < 32) : (numC n 32)[j]? = some (.int .u8 (numB n j)) := by
  unfold numC
  rw [List.getElem?_toArray]
  simp [h]

/-! ### what the book holds -/
abbrev BD := DataW Unit
def kstr (s : ByteArray) : Lit := .string s.data.toList
theorem kstr_inj {s t : ByteArray} (h : kstr s = kstr t) : s = t := by
  unfold kstr at h
  injection h with h
  exact ByteArray.ext (Array.toList_inj.mp h)
def putN (m : BD) (x : ByteArray × Nat) : BD := m.put (kstr x.1) (.lit (.int .i64 ((x.2 + 1 : Nat) : Int)))
def bookD (l : List ByteArray) : BD := l.zipIdx.foldl putN (.map [])
theorem bookD_snoc (l : List ByteArray) (s : ByteArray) : bookD (l ++ [s]) = (bookD l).put (kstr s) (.lit (.int .i64 ((l.length + 1 : Nat) : Int))) := by
  unfold bookD
  rw [List.zipIdx_append, List.foldl_append]
  simp [putN]
theorem kstr_key (s : ByteArray) : Go.WideAt.IsKeyLit (kstr s) := by unfold kstr; trivial
theorem list_snoc {P : List ByteArray → Prop} (h0 : P []) (h1 : ∀ l s, P l → P (l ++ [s])) (l : List ByteArray) : P l := by
  have key : ∀ n (l : List ByteArray), l.length = n → P l := by
    intro n
    induction n with
    | zero => intro l hl; rw [List.eq_nil_of_length_eq_zero hl]; exact h0
    | succ n ih =>
      intro l hl
      have hne : l ≠ [] := fun e => by rw [e] at hl; simp at hl
      rw [← List.dropLast_concat_getLast hne]
      exact h1 _ _ (ih _ (by rw [List.length_dropLast]; omega))
  exact key l.length l rfl
theorem bookD_tidy (l : List ByteArray) : Maps.Tidy (bookD l) := by
  induction l using list_snoc with
  | h0 => exact Maps.tidy_empty
  | h1 l s ih => rw [bookD_snoc]; exact ih.put (kstr_key s) _
theorem bookD_isMap (l : List ByteArray) : Maps.IsMap (bookD l) := (bookD_tidy l).isMap
theorem bookD_has (l : List ByteArray) (s : ByteArray) : Maps.has (bookD l) (kstr s) = decide (s ∈ l) := by
  induction l using list_snoc with
  | h0 => rfl
  | h1 l t ih =>
    rw [bookD_snoc]
    by_cases h : t = s
    · subst h
      rw [Maps.has_put_same (bookD_isMap l) (kstr_key t)]
      simp
    · rw [Maps.has_put_other (fun e => h (kstr_inj e).symm), ih]
      simp only [List.mem_append, List.mem_singleton, decide_eq_decide]
      constructor
      · exact Or.inl
      · rintro (h2 | h2)
        · exact h2
        · exact absurd h2.symm h
theorem bookD_at (l : List ByteArray) (hn : l.Nodup) (s : ByteArray) (h : s ∈ l) (z : BD) : (bookD l).atKey (kstr s) z = .lit (.int .i64 ((l.idxOf s + 1 : Nat) : Int)) := by
  induction l using list_snoc with
  | h0 => cases h
  | h1 l t ih =>
    rw [bookD_snoc]
    have hnl : l.Nodup := (List.nodup_append.mp hn).1
    by_cases ht : t = s
    · subst ht
      have hnt : t ∉ l := fun hm => (List.nodup_append.mp hn).2.2 t hm t (by simp) rfl
      rw [Maps.atKey_put_same (bookD_isMap l) (kstr_key t), List.idxOf_append, if_neg hnt]
      simp
    · have hm : s ∈ l := by
        rcases List.mem_append.mp h with h | h
        · exact h
        · exact absurd (List.mem_singleton.mp h).symm ht
      rw [Maps.atKey_put_other (fun e => ht (kstr_inj e).symm), ih hnl hm, List.idxOf_append, if_pos hm]
theorem bookD_size (l : List ByteArray) (hn : l.Nodup) : Maps.size (bookD l) = l.length := by
  induction l using list_snoc with
  | h0 => rfl
  | h1 l t ih =>
    have hnl : l.Nodup := (List.nodup_append.mp hn).1
    have hnt : t ∉ l := fun hm => (List.nodup_append.mp hn).2.2 t hm t (by simp) rfl
    rw [bookD_snoc, Maps.size_put (bookD_tidy l), bookD_has, decide_eq_false hnt, ih hnl]
    simp
/-- The texts behind a mark. -/
def addT (l : List ByteArray) (s : ByteArray) : List ByteArray := if s ∈ l then l else l ++ [s]
/-- A text's mark, of those seen. -/
def markV (l : List ByteArray) (s : ByteArray) : ByteArray := numV ((l.idxOf s + 1 : Nat) : Int)
theorem addT_nodup {l : List ByteArray} (h : l.Nodup) (s : ByteArray) : (addT l s).Nodup := by
  unfold addT
  split
  · exact h
  · rename_i hs
    rw [List.nodup_append]
    exact ⟨h, by simp, fun a ha b hb => by rw [List.mem_singleton.mp hb]; rintro rfl; exact hs ha⟩
theorem addT_mem (l : List ByteArray) (s : ByteArray) : s ∈ addT l s := by unfold addT; split <;> simp_all
theorem addT_keep (l : List ByteArray) (s t : ByteArray) (h : t ∈ l) : t ∈ addT l s := by unfold addT; split <;> simp_all
theorem addT_length (l : List ByteArray) (s : ByteArray) : (addT l s).length ≤ l.length + 1 ∧ l.length ≤ (addT l s).length := by unfold addT; split <;> simp
theorem markV_size (l : List ByteArray) (s : ByteArray) : (markV l s).size = 32 := numV_size _
/-- Elder marks stay. -/
def Ext (l l' : List ByteArray) : Prop := ∃ r, l' = l ++ r
theorem Ext.refl (l : List ByteArray) : Ext l l := ⟨[], by simp⟩
theorem Ext.trans {a b c : List ByteArray} (h : Ext a b) (k : Ext b c) : Ext a c := by
  obtain ⟨r, rfl⟩ := h
  obtain ⟨t, rfl⟩ := k
  exact ⟨r ++ t, by simp⟩
theorem Ext.add (l : List ByteArray) (s : ByteArray) : Ext l (addT l s) := by
  unfold addT
  split
  · exact Ext.refl l
  · exact ⟨[s], rfl⟩
theorem Ext.mem {l l' : List ByteArray} (h : Ext l l') {s : ByteArray} (hs : s ∈ l) : s ∈ l' := by
  obtain ⟨r, rfl⟩ := h
  exact List.mem_append_left _ hs
theorem Ext.mark {l l' : List ByteArray} (h : Ext l l') {s : ByteArray} (hs : s ∈ l) : markV l' s = markV l s := by
  obtain ⟨r, rfl⟩ := h
  unfold markV
  rw [List.idxOf_append, if_pos hs]
theorem markV_inj {l : List ByteArray} (hl : l.length ≤ 10000000) {s t : ByteArray} (hs : s ∈ l) (ht : t ∈ l) (h : markV l s = markV l t) : s = t := by
  unfold markV at h
  have h1 := List.idxOf_lt_length_of_mem hs
  have h2 := List.idxOf_lt_length_of_mem ht
  have := numV_inj _ _ (by omega) (by omega) h
  have e : l.idxOf s = l.idxOf t := by omega
  have g1 := List.getElem_idxOf h1
  have g2 := List.getElem_idxOf h2
  rw [← g1, ← g2]
  simp only [e]

/-- The block b of w is an ideal book whose map lies in block M, and that has seen the texts l. -/
structure Bk (w : World) (b M : Nat) (l : List ByteArray) : Prop where
  blk : ∃ cs, w.heap[b]? = some (.cells cs 67 (0, 0)) ∧ cs[72]? = some (.bool false) ∧ cs[73]? = some (.map (some M)) ∧ cs[74]? = some (.bool true)
  own : w.ownsMap Try.prog 9 (plainElem (H := Unit) Try.prog 3) M l.length (bookD l)
  nd : l.Nodup
  ne : b ≠ M
theorem Bk.lt {w : World} {b M : Nat} {l : List ByteArray} (h : Bk w b M l) : M < w.heap.size := h.own.lt
theorem Bk.ltb {w : World} {b M : Nat} {l : List ByteArray} (h : Bk w b M l) : b < w.heap.size := by obtain ⟨cs, h1, _⟩ := h.blk; exact blk_lt h1
theorem Bk.grown {w w' : World} {b M : Nat} {l : List ByteArray} {row : Option Nat} (h : Bk w b M l) (hg : w.grownBy w' row) (h1 : some b ≠ row) (h2 : some M ≠ row) : Bk w' b M l := by
  obtain ⟨cs, c1, c2⟩ := h.blk
  exact ⟨⟨cs, blk_grown c1 hg h1, c2⟩, h.own.kept hg h2, h.nd, h.ne⟩
theorem grown_below {w w' : World} (h : Below w.heap.size w w') : w.grownBy w' none := ⟨h.os, h.tape, h.output, h.size, fun k hk _ => h.block k hk⟩
theorem Bk.below {w w' : World} {b M : Nat} {l : List ByteArray} (h : Bk w b M l) (hb : Below w.heap.size w w') : Bk w' b M l := h.grown (grown_below hb) (by simp) (by simp)
theorem gb_refl (w : World) (row : Option Nat) : w.grownBy w row := ⟨rfl, rfl, rfl, Nat.le_refl _, fun _ _ _ => rfl⟩
theorem gb_trans {a b c : World} {row : Option Nat} (h : a.grownBy b row) (k : b.grownBy c row) : a.grownBy c row :=
  ⟨k.os.trans h.os, k.tape.trans h.tape, k.output.trans h.output, Nat.le_trans h.size k.size, fun i hi hn => (k.block i (Nat.lt_of_lt_of_le hi h.size) hn).trans (h.block i hi hn)⟩
theorem gb_of {w w' : World} (h : Below w.heap.size w w') (row : Option Nat) : w.grownBy w' row := ⟨h.os, h.tape, h.output, h.size, fun k hk _ => h.block k hk⟩
/-- One frame behind another, the second one's rows being new. -/
theorem gb_below {a b c : World} {row : Option Nat} (h : a.grownBy b row) (k : Below b.heap.size b c) : a.grownBy c row := gb_trans h (gb_of k row)
theorem below_gb {a b : World} {M base : Nat} (h : a.grownBy b (some M)) (hM : base ≤ M) (hb : base ≤ a.heap.size) : Below base a b := ⟨h.os, h.tape, h.output, h.size, fun k hk => h.block k (by omega) (fun e => by injection e with e; omega)⟩
/-- A step that writes a row of the call's own, or a block of its own. -/
theorem gb_own {a b c : World} {row row2 : Option Nat} (h : a.grownBy b row) (k : b.grownBy c row2) (hr : ∀ g, row2 = some g → a.heap.size ≤ g) : a.grownBy c row :=
  ⟨k.os.trans h.os, k.tape.trans h.tape, k.output.trans h.output, Nat.le_trans h.size k.size, fun i hi hn => (k.block i (Nat.lt_of_lt_of_le hi h.size) (fun e => by have := hr i e.symm; omega)).trans (h.block i hi hn)⟩
theorem gb_set {a b : World} {row : Option Nat} (h : a.grownBy b row) {p : Addr} (hp : a.heap.size ≤ p.block) (u : Value) : a.grownBy (b.setCell p u) row :=
  ⟨h.os, h.tape, h.output, by simp only [World.setCell, Array.size_modify]; exact h.size, fun i hi hn => (Below.heap_setCell b p u i (by omega)).trans (h.block i hi hn)⟩
theorem Bk.set {w : World} {b M : Nat} {l : List ByteArray} (h : Bk w b M l) {p : Addr} (h1 : b ≠ p.block) (h2 : M ≠ p.block) (u : Value) : Bk (w.setCell p u) b M l := by
  refine h.grown (row := some p.block) ⟨rfl, rfl, rfl, by simp [World.setCell], fun i hi hn => Below.heap_setCell w p u i (fun e => hn (by rw [e]))⟩ (fun e => h1 (by injection e)) (fun e => h2 (by injection e))
/-- Rows of elements of two types lie apart. -/
theorem R_apart {α β : Type} {d : Kd α} {d' : Kd β} {e e' base base' : Nat} {w : World} {ok ok' : Nat → Prop} {v v' : Value} {xs : List α} {ys : List β} (h : d.R e w base ok v xs) (h' : d'.R e' w base' ok' v' ys) (hne : e ≠ e') : ∀ k, v.ownBlock = some k → some k ≠ v'.ownBlock := by
  intro k hk hk'
  obtain ⟨i1, o1⟩ := Kd.R_own h
  obtain ⟨i2, o2⟩ := Kd.R_own h'
  obtain ⟨c1, g1⟩ := own_typed o1 k hk
  obtain ⟨c2, g2⟩ := own_typed o2 k hk'.symm
  rw [g1] at g2
  injection g2 with g2
  injection g2 with _ g2
  exact hne g2
theorem blk_gb {a b : World} {M g : Nat} {o : Obj} (h : a.grownBy b (some M)) (hg : a.heap[g]? = some o) (hne : g ≠ M) : b.heap[g]? = some o := blk_grown hg h (fun e => hne (by injection e))
end Go.Proofs.Ytjgelmfkoefclaa.PAll


-- from PAllx42
-- Written by a program of this session (wip/tools/hookprint.py, over the print); Lean checks it.
namespace Go.Proofs.Ytjgelmfkoefclaa.PAll
open Go.RowKit Go.Proofs.YtjgelmfkoefclaaW.PrintWords Go.Proofs.YtjgelmfkoefclaaW.PrintLast Go.Proofs.YtjgelmfkoefclaaW.PrintMore
attribute [local go_sem] max2_int min2_int max_two min_two max_three min_three max_four min_four   -- for this text's walks alone
set_option linter.unusedVariables false
set_option linter.unusedSimpArgs false

/-! ### roll_Sum: function 47 -/
def roll_Sum.l0 : Nat → ByteArray → Int → Int → Int → Int → Option (Int)
  | 0, _, _, _, _, _ => none
  | k + 1, x0, x3, x4, x7, x8 => if x8 < x7 then (if 0 ≤ x8 then (if x8 < (x0.size : Int) then (roll_Sum.l0 k x0 (wrap64 (x3 + (wrap64 (bt x0 x8)))) (wrap64 (x4 + (wrap64 (x3 + (wrap64 (bt x0 x8)))))) x7 (wrap64 (x8 + 1))) else (none)) else (none)) else (some (wrap64 ((Int.tmod x3 65536) + (wrap64 ((Int.tmod x4 65536) * 65536)))))
def roll_Sum.f (k : Nat) (a0 : ByteArray) : Option (Int) := roll_Sum.l0 k a0 0 0 (a0.size : Int) 0
theorem roll_Sum.mono_l : ∀ k, (∀ y0 y1 y2 y3 y4, LeO (roll_Sum.l0 k y0 y1 y2 y3 y4) (roll_Sum.l0 (k + 1) y0 y1 y2 y3 y4))
  | 0 => fun _ _ _ _ _ r h => by simp [roll_Sum.l0] at h
  | k + 1 => by
    have ih0 := roll_Sum.mono_l k
    · intro y0 y1 y2 y3 y4
      unfold roll_Sum.l0
      repeat' first
      | (with_reducible exact ih0 _ _ _ _ _)
      | (with_reducible exact LeO.refl _)
      | (with_reducible exact LeO.none _)
      | (with_reducible refine LeO.ite ?_ ?_)
      | (with_reducible refine LeO.bind ?_ (fun _ => ?_))
      | exact ih0 _ _ _ _ _
      | exact LeO.none _
      | refine LeO.ite ?_ ?_
      | refine LeO.bind ?_ (fun _ => ?_)
theorem roll_Sum.mono : ∀ a0 k, LeO (roll_Sum.f k a0) (roll_Sum.f (k + 1) a0) := by
  intro a0 k
  have ih0 := roll_Sum.mono_l k
  unfold roll_Sum.f
  repeat' first
      | (with_reducible exact ih0 _ _ _ _ _)
      | (with_reducible exact LeO.refl _)
      | (with_reducible exact LeO.none _)
      | (with_reducible refine LeO.ite ?_ ?_)
      | (with_reducible refine LeO.bind ?_ (fun _ => ?_))
      | exact ih0 _ _ _ _ _
      | exact LeO.none _
      | refine LeO.ite ?_ ?_
      | refine LeO.bind ?_ (fun _ => ?_)
set_option maxHeartbeats 8000000 in
set_option maxRecDepth 100000 in
theorem roll_Sum.calls (k : Nat) (a0 : ByteArray) (r : Int) (w : World) (h : roll_Sum.f k a0 = some r) :
    Calls Try.prog 47 #[.string a0] w fun e w' => e = .returned (.int .i64 r) ∧ Drawn0 w w' := by
  have H : (roll_Sum.l0 k a0 0 0 (a0.size : Int) 0) = some r := h
  clear h
  have H' := Aside0.mk H
  clear H
  go_enter Try.func47, Try.ntmps47
  go_wp2
  go_loopg [3, 4, 8] k (fun kq v3 v4 v8 w' => ∃ (x3_1 : Int) (x4_1 : Int) (x8_1 : Int), v3 = .int .i64 x3_1 ∧ v4 = .int .i64 x4_1 ∧ v8 = .int .i64 x8_1 ∧ Aside0 (roll_Sum.l0 kq a0 x3_1 x4_1 (a0.size : Int) x8_1 = some r) ∧ Aside0 (kq ≤ k) ∧ Drawn0 w w')
  case atStart => exact ⟨(0), (0), (0), (by first | rfl | (simp; done) | (simp [*]; done)), (by first | rfl | (simp; done) | (simp [*]; done)), (by first | rfl | (simp; done) | (simp [*]; done)), H', ⟨Nat.le_refl _⟩, by repeat (first | exact Drawn0.refl _ | apply Drawn0.step)⟩
  case round =>
    clear H'
    obtain ⟨x3_1, x4_1, x8_1, rfl, rfl, rfl, HA, HK1, ⟨m1, rfl⟩⟩ := hrel
    cases gk with
    | zero => exact absurd HA.out (by simp [roll_Sum.l0])
    | succ k1 =>
      have H := HA.out
      clear HA
      simp only [roll_Sum.l0] at H
      by_cases c2 : x8_1 < (a0.size : Int)
      · rw [if_pos c2] at H
        have c2b0 : decide (x8_1 < (a0.size : Int)) = true := decide_eq_true c2
        clear c2
        by_cases c3 : 0 ≤ x8_1
        · rw [if_pos c3] at H
          have c3b0 : decide (0 ≤ x8_1) = true := decide_eq_true c3
          clear c3
          by_cases c4 : x8_1 < (a0.size : Int)
          · rw [if_pos c4] at H
            have c4b0 : decide (x8_1 < (a0.size : Int)) = true := decide_eq_true c4
            clear c4
            have H' := Aside0.mk H
            clear H
            have p5 : 0 ≤ (x8_1 : Int) := of_decide_eq_true (by first | (with_reducible assumption) | assumption)
            have q5 : x8_1 < (a0.size : Int) := of_decide_eq_true (by first | (with_reducible assumption) | assumption)
            have hx5 := bt_at a0 x8_1
            replace p5 := eq_true p5
            replace q5 := eq_true q5
            go_wp2
            go_roundg k1
            case measure => have := HK1.out; omega
            case rel => exact ⟨(wrap64 (x3_1 + (wrap64 (bt a0 x8_1)))), (wrap64 (x4_1 + (wrap64 (x3_1 + (wrap64 (bt a0 x8_1)))))), (wrap64 (x8_1 + 1)), (by first | rfl | (simp; done) | (simp [*]; done)), (by first | rfl | (simp; done) | (simp [*]; done)), (by first | rfl | (simp; done) | (simp [*]; done)), H', ⟨by have := HK1.out; omega⟩, by repeat (first | exact Drawn0.refl _ | apply Drawn0.step)⟩
          · rw [if_neg c4] at H
            exact absurd H (by simp)
        · rw [if_neg c3] at H
          exact absurd H (by simp)
      · rw [if_neg c2] at H
        have c2b0 : decide (x8_1 < (a0.size : Int)) = false := decide_eq_false c2
        clear c2
        obtain rfl := Option.some.inj H
        go_wp2
        go_ret
        exact ⟨by first | rfl | (simp; done) | (simp [*]; done), by repeat (first | exact Drawn0.refl _ | apply Drawn0.step)⟩

end Go.Proofs.Ytjgelmfkoefclaa.PAll


-- from PAllx41
-- Written by a program of this session (wip/tools/hookprint.py, over the print); Lean checks it.
namespace Go.Proofs.Ytjgelmfkoefclaa.PAll
open Go.RowKit Go.Proofs.YtjgelmfkoefclaaW.PrintWords Go.Proofs.YtjgelmfkoefclaaW.PrintLast Go.Proofs.YtjgelmfkoefclaaW.PrintMore
attribute [local go_sem] max2_int min2_int max_two min_two max_three min_three max_four min_four   -- for this text's walks alone
set_option linter.unusedVariables false
set_option linter.unusedSimpArgs false

/-! ### sign_piece: function 46 -/
def sign_piece.f (a0 : ByteArray) (a1 : Int) (a2 : Int) : Option (ByteArray) := if 0 ≤ (wrap64 (a1 * a2)) then (if (wrap64 (a1 * a2)) ≤ (mn (wrap64 ((wrap64 (a1 + 1)) * a2)) (a0.size : Int)) then (if (mn (wrap64 ((wrap64 (a1 + 1)) * a2)) (a0.size : Int)) ≤ (a0.size : Int) then (some (a0.extract ((wrap64 (a1 * a2)) : Int).toNat ((mn (wrap64 ((wrap64 (a1 + 1)) * a2)) (a0.size : Int)) : Int).toNat)) else (none)) else (none)) else (none)
set_option maxHeartbeats 8000000 in
set_option maxRecDepth 100000 in
theorem sign_piece.calls (a0 : ByteArray) (a1 : Int) (a2 : Int) (r : ByteArray) (w : World) (h : sign_piece.f a0 a1 a2 = some r) :
    Calls Try.prog 46 #[.string a0, .int .i64 a1, .int .i64 a2] w fun e w' => e = .returned (.string r) ∧ Below w.heap.size w w' := by
  have HB := Aside0.mk (Below.refl w.heap.size w)
  have H : (if 0 ≤ (wrap64 (a1 * a2)) then (if (wrap64 (a1 * a2)) ≤ (mn (wrap64 ((wrap64 (a1 + 1)) * a2)) (a0.size : Int)) then (if (mn (wrap64 ((wrap64 (a1 + 1)) * a2)) (a0.size : Int)) ≤ (a0.size : Int) then (some (a0.extract ((wrap64 (a1 * a2)) : Int).toNat ((mn (wrap64 ((wrap64 (a1 + 1)) * a2)) (a0.size : Int)) : Int).toNat)) else (none)) else (none)) else (none)) = some r := h
  clear h
  obtain ⟨ji4, hji4⟩ : ∃ j_ : Int, (mn (wrap64 ((wrap64 (a1 + 1)) * a2)) (a0.size : Int)) = j_ := ⟨_, rfl⟩
  replace H : (if 0 ≤ (wrap64 (a1 * a2)) then (if (wrap64 (a1 * a2)) ≤ (ji4) then (if (ji4) ≤ (a0.size : Int) then (some (a0.extract ((wrap64 (a1 * a2)) : Int).toNat ((ji4) : Int).toNat)) else (none)) else (none)) else (none)) = some r := by first | (rw [hji4] at H; exact H) | (simp only [hji4] at H ⊢; exact H)
  have hji4_ : (if (a0.size : Int) < (wrap64 ((wrap64 (a1 + 1)) * a2)) then (a0.size : Int) else (wrap64 ((wrap64 (a1 + 1)) * a2))) = ji4 := hji4
  obtain ⟨ji5, hji5⟩ : ∃ j_ : Int, (wrap64 (a1 * a2)) = j_ := ⟨_, rfl⟩
  replace H : (if 0 ≤ (ji5) then (if (ji5) ≤ (ji4) then (if (ji4) ≤ (a0.size : Int) then (some (a0.extract ((ji5) : Int).toNat ((ji4) : Int).toNat)) else (none)) else (none)) else (none)) = some r := by first | (rw [hji5] at H; exact H) | (simp only [hji5] at H ⊢; exact H)
  have hji5w : (IntKind.i64.wrap (a1 * a2)) = ji5 := (i64_w _).trans hji5
  by_cases c6 : 0 ≤ (ji5)
  · rw [if_pos c6] at H
    have c6b0 := eq_true c6
    have c6b1 : decide (0 ≤ (ji5)) = true := decide_eq_true c6
    clear c6
    by_cases c7 : (ji5) ≤ (ji4)
    · rw [if_pos c7] at H
      have c7b0 := eq_true c7
      have c7b1 : decide ((ji5) ≤ (ji4)) = true := decide_eq_true c7
      clear c7
      by_cases c8 : (ji4) ≤ (a0.size : Int)
      · rw [if_pos c8] at H
        have c8b0 := eq_true c8
        have c8b1 : decide ((ji4) ≤ (a0.size : Int)) = true := decide_eq_true c8
        clear c8
        obtain rfl := Option.some.inj H
        go_enter Try.func46, Try.ntmps46
        go_wp2
        go_ret
        exact ⟨by first | rfl | (simp [errW_none, errW_some] <;> rfl) | (simp only [← hji4, ← hji5]; first | rfl | (simp [errW_none, errW_some] <;> rfl)) | (simp [*, errW_none, errW_some] <;> rfl), by repeat (first | (with_reducible first | exact HB.out | apply below_alloc | apply pw_below_drewN | apply below_drew1) | exact HB.out)⟩
      · rw [if_neg c8] at H
        exact absurd H (by simp)
    · rw [if_neg c7] at H
      exact absurd H (by simp)
  · rw [if_neg c6] at H
    exact absurd H (by simp)

end Go.Proofs.Ytjgelmfkoefclaa.PAll


-- from PAllx40
-- Written by a program of this session (wip/tools/hookprint.py, over the print); Lean checks it.
namespace Go.Proofs.Ytjgelmfkoefclaa.PAll
open Go.RowKit Go.Proofs.YtjgelmfkoefclaaW.PrintWords Go.Proofs.YtjgelmfkoefclaaW.PrintLast Go.Proofs.YtjgelmfkoefclaaW.PrintMore
attribute [local go_sem] max2_int min2_int max_two min_two max_three min_three max_four min_four   -- for this text's walks alone
set_option linter.unusedVariables false
set_option linter.unusedSimpArgs false

/-! ### sign_count: function 45 -/
def sign_count.f (a0 : Int) (a1 : Int) : Option (Int) := if a1 = 0 then (none) else (some (wrap64 (Int.tdiv (wrap64 ((wrap64 (a0 + a1)) - 1)) a1)))
set_option maxHeartbeats 8000000 in
set_option maxRecDepth 100000 in
theorem sign_count.calls (a0 : Int) (a1 : Int) (r : Int) (w : World) (h : sign_count.f a0 a1 = some r) :
    Calls Try.prog 45 #[.int .i64 a0, .int .i64 a1] w fun e w' => e = .returned (.int .i64 r) ∧ Drawn0 w w' := by
  have H : (if a1 = 0 then (none) else (some (wrap64 (Int.tdiv (wrap64 ((wrap64 (a0 + a1)) - 1)) a1)))) = some r := h
  clear h
  by_cases c3 : a1 = 0
  · rw [if_pos c3] at H
    exact absurd H (by simp)
  · rw [if_neg c3] at H
    have c3b0 : (a1 == 0) = false := beq_eq_false_iff_ne.mpr c3
    have c3b1 : (a1 != 0) = true := bne_iff_ne.mpr c3
    obtain rfl := Option.some.inj H
    go_enter Try.func45, Try.ntmps45
    go_wp2
    go_ret
    exact ⟨by first | rfl | (simp; done) | (simp [*]; done), by repeat (first | exact Drawn0.refl _ | apply Drawn0.step)⟩

end Go.Proofs.Ytjgelmfkoefclaa.PAll


-- from PAllx39
-- Written by a program of this session (wip/tools/hookprint.py, over the print); Lean checks it.
namespace Go.Proofs.Ytjgelmfkoefclaa.PAll
open Go.RowKit Go.Proofs.YtjgelmfkoefclaaW.PrintWords Go.Proofs.YtjgelmfkoefclaaW.PrintLast Go.Proofs.YtjgelmfkoefclaaW.PrintMore
attribute [local go_sem] max2_int min2_int max_two min_two max_three min_three max_four min_four   -- for this text's walks alone
set_option linter.unusedVariables false
set_option linter.unusedSimpArgs false

/-! ### sign_fits: function 44 -/
def sign_fits.f (a0 : Int) : Option (Bool) := if a0 ≥ 16 then (some (decide (a0 ≤ 1024))) else (some false)
set_option maxHeartbeats 8000000 in
set_option maxRecDepth 100000 in
theorem sign_fits.calls (a0 : Int) (r : Bool) (w : World) (h : sign_fits.f a0 = some r) :
    Calls Try.prog 44 #[.int .i64 a0] w fun e w' => e = .returned (.bool r) ∧ Drawn0 w w' := by
  have H : (if a0 ≥ 16 then (some (decide (a0 ≤ 1024))) else (some false)) = some r := h
  clear h
  by_cases c2 : a0 ≥ 16
  · rw [if_pos c2] at H
    have c2b0 : decide (16 ≤ a0) = true := decide_eq_true c2
    clear c2
    obtain rfl := Option.some.inj H
    go_enter Try.func44, Try.ntmps44
    go_wp2
    go_ret
    exact ⟨by first | rfl | (simp; done) | (simp [*]; done), by repeat (first | exact Drawn0.refl _ | apply Drawn0.step)⟩
  · rw [if_neg c2] at H
    have c2b0 : decide (16 ≤ a0) = false := decide_eq_false c2
    clear c2
    obtain rfl := Option.some.inj H
    go_enter Try.func44, Try.ntmps44
    go_wp2
    go_ret
    exact ⟨by first | rfl | (simp; done) | (simp [*]; done), by repeat (first | exact Drawn0.refl _ | apply Drawn0.step)⟩

end Go.Proofs.Ytjgelmfkoefclaa.PAll


-- from SignLaw
/- Blocks of a text, their number and their weak sums. -/
namespace Go.Proofs.Ytjgelmfkoefclaa.PAll
open Go.RowKit Go.Proofs.YtjgelmfkoefclaaW.PrintWords Go.Proofs.YtjgelmfkoefclaaW.PrintLast Go.Proofs.YtjgelmfkoefclaaW.PrintMore
set_option linter.unusedVariables false
set_option linter.unusedSimpArgs false

theorem wN (m : Nat) (h : m ≤ 1000000000000000) : wrap64 (m : Int) = (m : Int) := by unfold wrap64; omega
theorem wA (a b : Nat) (h : a + b ≤ 1000000000000000) : wrap64 ((a : Int) + (b : Int)) = ((a + b : Nat) : Int) := by unfold wrap64; omega
theorem wM (a b : Nat) (h : a * b ≤ 1000000000000000) : wrap64 ((a : Int) * (b : Int)) = ((a * b : Nat) : Int) := by rw [← Int.natCast_mul]; exact wN _ h
theorem roll_l0 (s : ByteArray) (hs : s.size ≤ 524288) (d : Nat) : ∀ (k i a b : Nat), s.size - i = d → i ≤ s.size → a ≤ 255 * i → b ≤ 133693440 * i → d < k →
    ∃ r : Int, roll_Sum.l0 k s (a : Nat) (b : Nat) (s.size : Int) (i : Nat) = some r ∧ 0 ≤ r ∧ r ≤ 4294967295 := by
  induction d with
  | zero =>
    intro k i a b hd hi ha hb hk
    obtain ⟨k, rfl⟩ : ∃ m, k = m + 1 := ⟨k - 1, by omega⟩
    rw [roll_Sum.l0, if_neg (by omega)]
    refine ⟨_, rfl, ?_⟩
    have e1 : Int.tmod (a : Int) 65536 = ((a % 65536 : Nat) : Int) := rfl
    have e2 : Int.tmod (b : Int) 65536 = ((b % 65536 : Nat) : Int) := rfl
    rw [e1, e2, show (65536 : Int) = ((65536 : Nat) : Int) from rfl, wM (b % 65536) 65536 (by omega), wA (a % 65536) (b % 65536 * 65536) (by omega)]
    omega
  | succ d ih =>
    intro k i a b hd hi ha hb hk
    obtain ⟨k, rfl⟩ : ∃ m, k = m + 1 := ⟨k - 1, by omega⟩
    rw [roll_Sum.l0, if_pos (by omega), if_pos (by omega), if_pos (by omega)]
    obtain ⟨h0, h1⟩ := bt_range s (i : Nat)
    obtain ⟨c, hc⟩ := Int.eq_ofNat_of_zero_le h0
    rw [hc] at h1 ⊢
    rw [wN c (by omega), wA a c (by omega), wA b (a + c) (by omega), show wrap64 ((i : Int) + 1) = ((i + 1 : Nat) : Int) from wA i 1 (by omega)]
    exact ih k (i + 1) (a + c) (b + (a + c)) (by omega) (by omega) (by omega) (by omega) (by omega)
theorem roll_f (s : ByteArray) (hs : s.size ≤ 524288) (k : Nat) (hk : s.size < k) : ∃ r : Int, roll_Sum.f k s = some r ∧ 0 ≤ r ∧ r ≤ 4294967295 := by
  unfold roll_Sum.f
  exact roll_l0 s hs s.size k 0 0 0 (by omega) (by omega) (by omega) (by omega) hk
def nB (size bl : Nat) : Nat := (size + bl - 1) / bl
def blockV (s : ByteArray) (bl i : Nat) : ByteArray := s.extract (i * bl) (min ((i + 1) * bl) s.size)
def blocksV (s : ByteArray) (bl : Nat) : List ByteArray := (List.range (nB s.size bl)).map (blockV s bl)
theorem nB_lt {size bl i : Nat} (hb : 0 < bl) (h : i < nB size bl) : i * bl < size := by
  unfold nB at h
  have h1 := Nat.div_mul_le_self (size + bl - 1) bl
  have h2 : (i + 1) * bl ≤ (size + bl - 1) / bl * bl := Nat.mul_le_mul_right _ h
  rw [Nat.succ_mul] at h2
  omega
theorem nB_le (size bl : Nat) (hb : 0 < bl) : nB size bl ≤ size := by
  unfold nB
  rcases Nat.eq_zero_or_pos size with h | h
  · subst h
    rw [Nat.div_eq_of_lt (by omega)]; exact Nat.le_refl _
  · have : (size + bl - 1) / bl < size + 1 := by
      rw [Nat.div_lt_iff_lt_mul hb, Nat.succ_mul]
      have : size ≤ size * bl := Nat.le_mul_of_pos_right _ hb
      omega
    omega
theorem count_f (size bl : Nat) (h0 : 0 < bl) (h1 : size ≤ 1000000) (h2 : bl ≤ 1000000) : sign_count.f (size : Nat) (bl : Nat) = some ((nB size bl : Nat) : Int) := by
  unfold sign_count.f
  rw [if_neg (by omega)]
  have w2 : wrap64 (((size + bl : Nat) : Int) - 1) = ((size + bl - 1 : Nat) : Int) := by rw [show ((size + bl : Nat) : Int) - 1 = ((size + bl - 1 : Nat) : Int) by omega]; exact wN _ (by omega)
  rw [wA size bl (by omega), w2]
  clear w2
  have e : Int.tdiv ((size + bl - 1 : Nat) : Int) (bl : Int) = ((nB size bl : Nat) : Int) := rfl
  rw [e]
  have := nB_le size bl h0
  rw [wN _ (by omega)]
theorem piece_f (s : ByteArray) (bl i : Nat) (hs : s.size ≤ 1000000) (hb : bl ≤ 1000000) (hi : i * bl ≤ s.size) (hi2 : i ≤ 1000000) : sign_piece.f s (i : Nat) (bl : Nat) = some (blockV s bl i) := by
  unfold sign_piece.f blockV
  have hm : (i + 1) * bl ≤ 2000000 := by rw [Nat.succ_mul]; omega
  have hm2 : mn ((((i + 1) * bl : Nat)) : Int) (s.size : Int) = ((min ((i + 1) * bl) s.size : Nat) : Int) := by unfold mn; split <;> omega
  have hle : i * bl ≤ (i + 1) * bl := Nat.mul_le_mul_right _ (Nat.le_succ _)
  rw [wM i bl (by omega), show wrap64 ((i : Int) + 1) = ((i + 1 : Nat) : Int) from wA i 1 (by omega), wM (i + 1) bl (by omega), hm2, if_pos (by omega), if_pos (by omega), if_pos (by omega), Int.toNat_natCast, Int.toNat_natCast]
theorem fits_yes (bl : Int) (h0 : 16 ≤ bl) (h1 : bl ≤ 1024) : sign_fits.f bl = some true := by
  unfold sign_fits.f
  rw [if_pos h0, decide_eq_true h1]
theorem fits_no (bl : Int) (h : bl < 16 ∨ 1024 < bl) : sign_fits.f bl = some false := by
  unfold sign_fits.f
  by_cases h0 : bl ≥ 16
  · rw [if_pos h0, decide_eq_false (by omega)]
  · rw [if_neg h0]
theorem blockV_size (s : ByteArray) (bl i : Nat) : (blockV s bl i).size ≤ bl := by
  unfold blockV
  rw [ByteArray.size_extract, Nat.succ_mul]
  omega
theorem blockV_size2 (s : ByteArray) (bl i : Nat) : (blockV s bl i).size ≤ s.size := by
  unfold blockV
  rw [ByteArray.size_extract]
  omega

/-! ### the state of the signing loop -/
structure Sg (w wr : World) (b M : Nat) (l' : List ByteArray) (bl n : Int) (vW vS : Value) (ws : List Int) (ss : List ByteArray) : Prop where
  gb : w.grownBy wr (some M)
  bk : Bk wr b M l'
  bo : b < w.heap.size ∧ M < w.heap.size
  z : wr.heap[w.heap.size]? = some (.cells #[.int .i64 0, .int .i64 0, .slice none 0 0, .slice none 0 0] 71 (0, 0))
  g : wr.heap[w.heap.size + 1]? = some (.cells #[.int .i64 bl, .int .i64 n, vW, vS] 71 (0, 0))
  rw_ : Kd.R (Kd.int .i64) 3 wr (w.heap.size + 2) (fun _ => True) vW ws
  rs : Kd.R Kd.string 9 wr (w.heap.size + 2) (fun _ => True) vS ss
section
variable {w wr wx : World} {b M : Nat} {l' l2 : List ByteArray} {bl n : Int} {vW vS : Value} {ws : List Int} {ss : List ByteArray}
theorem Sg.below (h : Sg w wr b M l' bl n vW vS ws ss) (hb : Below wr.heap.size wr wx) : Sg w wx b M l' bl n vW vS ws ss :=
  ⟨gb_below h.gb hb, h.bk.below hb, h.bo, blk_below h.z hb, blk_below h.g hb, Kd.R_below h.rw_ hb, Kd.R_below h.rs hb⟩
theorem Sg.mark (h : Sg w wr b M l' bl n vW vS ws ss) (hg : wr.grownBy wx (some M)) (hk : Bk wx b M l2) : Sg w wx b M l2 bl n vW vS ws ss :=
  ⟨gb_trans h.gb hg, hk, h.bo, blk_gb hg h.z (by have := h.bo; omega), blk_gb hg h.g (by have := h.bo; omega),
    Kd.R_grown2 h.rw_ rfl hg (fun k hk e => by injection hk with hk; have := Kd.R_base h.rw_ k e.symm; have := h.bo; omega),
    Kd.R_grown2 h.rs rfl hg (fun k hk e => by injection hk with hk; have := Kd.R_base h.rs k e.symm; have := h.bo; omega)⟩
theorem Sg.putW (h : Sg w wr b M l' bl n vW vS ws ss) {v1 : Value} {w1 : World} {ws1 : List Int} (hR : Kd.R (Kd.int .i64) 3 w1 (w.heap.size + 2) (fun _ => True) v1 ws1) (hG : wr.grownBy w1 vW.ownBlock) (hO : v1.ownBlock = vW.ownBlock ∨ ∃ g, v1.ownBlock = some g ∧ wr.heap.size ≤ g) :
    Sg w (w1.setCell ⟨w.heap.size + 1, 2, none⟩ v1) b M l' bl n v1 vS ws1 ss := by
  have hb : ∀ k, vW.ownBlock = some k → w.heap.size + 2 ≤ k := fun k hk => Kd.R_base h.rw_ k hk
  have hsz : w.heap.size + 1 < wr.heap.size := blk_lt h.g
  refine ⟨gb_set (gb_own h.gb hG (fun k hk => by have := hb k hk; omega)) (by show w.heap.size ≤ w.heap.size + 1; omega) _, ?_, h.bo, ?_, ?_, ?_, ?_⟩
  · refine (h.bk.grown hG (fun e => by have := hb b e.symm; have := h.bo; omega) (fun e => by have := hb M e.symm; have := h.bo; omega)).set (by show b ≠ w.heap.size + 1; have := h.bo; omega) (by show M ≠ w.heap.size + 1; have := h.bo; omega) _
  · exact blk_far (blk_grown h.z hG (fun e => by have := hb _ e.symm; omega)) (by show w.heap.size ≠ w.heap.size + 1; omega) _
  · exact blk_put (blk_grown h.g hG (fun e => by have := hb _ e.symm; omega)) 2 _ rfl
  · refine Kd.R_mono (Kd.R_far (p := ⟨w.heap.size + 1, 2, none⟩) (Kd.R_mono (Kd.R_bound hR) (ok' := fun k => w.heap.size + 2 ≤ k) (fun k hk => hk.2.1)) (fun k hk => by show k ≠ w.heap.size + 1; omega) _) (fun _ _ => trivial)
  · refine Kd.R_mono (Kd.R_far (p := ⟨w.heap.size + 1, 2, none⟩) (Kd.R_mono (Kd.R_bound (Kd.R_grown2 h.rs rfl hG (fun k hk => R_apart h.rw_ h.rs (by decide) k hk))) (ok' := fun k => w.heap.size + 2 ≤ k) (fun k hk => hk.2.1)) (fun k hk => by show k ≠ w.heap.size + 1; omega) _) (fun _ _ => trivial)
theorem Sg.putS (h : Sg w wr b M l' bl n vW vS ws ss) {v1 : Value} {w1 : World} {ss1 : List ByteArray} (hR : Kd.R Kd.string 9 w1 (w.heap.size + 2) (fun _ => True) v1 ss1) (hG : wr.grownBy w1 vS.ownBlock) (hO : v1.ownBlock = vS.ownBlock ∨ ∃ g, v1.ownBlock = some g ∧ wr.heap.size ≤ g) :
    Sg w (w1.setCell ⟨w.heap.size + 1, 3, none⟩ v1) b M l' bl n vW v1 ws ss1 := by
  have hb : ∀ k, vS.ownBlock = some k → w.heap.size + 2 ≤ k := fun k hk => Kd.R_base h.rs k hk
  have hsz : w.heap.size + 1 < wr.heap.size := blk_lt h.g
  refine ⟨gb_set (gb_own h.gb hG (fun k hk => by have := hb k hk; omega)) (by show w.heap.size ≤ w.heap.size + 1; omega) _, ?_, h.bo, ?_, ?_, ?_, ?_⟩
  · refine (h.bk.grown hG (fun e => by have := hb b e.symm; have := h.bo; omega) (fun e => by have := hb M e.symm; have := h.bo; omega)).set (by show b ≠ w.heap.size + 1; have := h.bo; omega) (by show M ≠ w.heap.size + 1; have := h.bo; omega) _
  · exact blk_far (blk_grown h.z hG (fun e => by have := hb _ e.symm; omega)) (by show w.heap.size ≠ w.heap.size + 1; omega) _
  · exact blk_put (blk_grown h.g hG (fun e => by have := hb _ e.symm; omega)) 3 _ rfl
  · refine Kd.R_mono (Kd.R_far (p := ⟨w.heap.size + 1, 3, none⟩) (Kd.R_mono (Kd.R_bound (Kd.R_grown2 h.rw_ rfl hG (fun k hk => R_apart h.rs h.rw_ (by decide) k hk))) (ok' := fun k => w.heap.size + 2 ≤ k) (fun k hk => hk.2.1)) (fun k hk => by show k ≠ w.heap.size + 1; omega) _) (fun _ _ => trivial)
  · refine Kd.R_mono (Kd.R_far (p := ⟨w.heap.size + 1, 3, none⟩) (Kd.R_mono (Kd.R_bound hR) (ok' := fun k => w.heap.size + 2 ≤ k) (fun k hk => hk.2.1)) (fun k hk => by show k ≠ w.heap.size + 1; omega) _) (fun _ _ => trivial)
/-- What a signature leaves. -/
structure Sd (w wr : World) (b M : Nat) (l' : List ByteArray) (vW vS : Value) (ws : List Int) (ss : List ByteArray) : Prop where
  gb : w.grownBy wr (some M)
  bk : Bk wr b M l'
  bo : b < w.heap.size ∧ M < w.heap.size
  rw_ : Kd.R (Kd.int .i64) 3 wr (w.heap.size + 2) (fun _ => True) vW ws
  rs : Kd.R Kd.string 9 wr (w.heap.size + 2) (fun _ => True) vS ss
theorem Sg.done (h : Sg w wr b M l' bl n vW vS ws ss) : Sd w wr b M l' vW vS ws ss := ⟨h.gb, h.bk, h.bo, h.rw_, h.rs⟩
theorem Sd.set (h : Sd w wr b M l' vW vS ws ss) (j : Nat) (u : Value) : Sd w (wr.setCell ⟨w.heap.size, j, none⟩ u) b M l' vW vS ws ss :=
  ⟨gb_set h.gb (Nat.le_refl _) u, h.bk.set (by show b ≠ w.heap.size; have := h.bo; omega) (by show M ≠ w.heap.size; have := h.bo; omega) u, h.bo,
    Kd.R_mono (Kd.R_far (p := ⟨w.heap.size, j, none⟩) (Kd.R_mono (Kd.R_bound h.rw_) (ok' := fun k => w.heap.size + 2 ≤ k) (fun k hk => hk.2.1)) (fun k hk => by show k ≠ w.heap.size; omega) u) (fun _ _ => trivial),
    Kd.R_mono (Kd.R_far (p := ⟨w.heap.size, j, none⟩) (Kd.R_mono (Kd.R_bound h.rs) (ok' := fun k => w.heap.size + 2 ≤ k) (fun k hk => hk.2.1)) (fun k hk => by show k ≠ w.heap.size; omega) u) (fun _ _ => trivial)⟩
end
end Go.Proofs.Ytjgelmfkoefclaa.PAll


-- from TextLaw
/- A row of bytes of the call's own that need not begin at its block's head (b = b[n:]; b = append(b, ..)). -/
namespace Go.Proofs.Ytjgelmfkoefclaa.PAll
open Go.RowKit Go.Proofs.YtjgelmfkoefclaaW.PrintWords Go.Proofs.YtjgelmfkoefclaaW.PrintLast Go.Proofs.YtjgelmfkoefclaaW.PrintMore
set_option linter.unusedVariables false
set_option linter.unusedSimpArgs false

/-- The bytes t lie in a row of the call's own (from base on), wherever in it. -/
def Tx (w : World) (base : Nat) (v : Value) (t : ByteArray) (e : TypeId := 5) : Prop :=
  (v = .slice none 0 0 ∧ t.size = 0) ∨ ∃ g o cap, v = .slice (some ⟨g, o, none⟩) t.size cap ∧ base ≤ g ∧ t.size ≤ cap ∧ g < w.heap.size ∧ Lib.Bytes w g o t ∧ (∀ j, j < cap → (w.cell? ⟨g, o + j, none⟩).isSome = true ∧ w.frozen? ⟨g, o + j, none⟩ = false) ∧ ∃ cur, w.heap[g]? = some (.cells cur e (0, 0))
theorem Tx.slice {w : World} {base : Nat} {v : Value} {t : ByteArray} (h : Tx w base v t) : ∃ A c, v = .slice A t.size c ∧ t.size ≤ c := by
  rcases h with ⟨rfl, h⟩ | ⟨g, o, cap, rfl, _, h, _⟩
  · exact ⟨none, 0, by rw [h], by omega⟩
  · exact ⟨_, cap, rfl, h⟩
theorem Tx.lt {w : World} {base : Nat} {v : Value} {t : ByteArray} (h : Tx w base v t) : ∀ k, v.ownBlock = some k → base ≤ k ∧ k < w.heap.size := by
  rcases h with ⟨rfl, h⟩ | ⟨g, o, cap, rfl, h1, _, h2, _⟩
  · intro k hk; simp [Value.ownBlock] at hk
  · intro k hk
    have : g = k := by simpa [Value.ownBlock] using hk
    subst this; exact ⟨h1, h2⟩
/-- Frames. -/
theorem Tx.grown {w w' : World} {base : Nat} {v : Value} {t : ByteArray} {row : Option Nat} (h : Tx w base v t) (hg : w.grownBy w' row) (hne : ∀ k, v.ownBlock = some k → some k ≠ row) : Tx w' base v t := by
  rcases h with h | ⟨g, o, cap, rfl, h1, h2, h3, h4, h5⟩
  · exact .inl h
  · obtain ⟨h5, cur, h6⟩ := h5
    have hb := hg.block g h3 (hne g (by simp [Value.ownBlock]))
    refine .inr ⟨g, o, cap, rfl, h1, h2, Nat.lt_of_lt_of_le h3 hg.size, fun i hi => ?_, fun j hj => ?_, cur, hb.trans h6⟩
    · exact (World.cell?_of_block (a := ⟨g, o + i, none⟩) hb).trans (h4 i hi)
    · rw [World.cell?_of_block (a := ⟨g, o + j, none⟩) hb, World.frozen?_of_block (a := ⟨g, o + j, none⟩) hb]
      exact h5 j hj
theorem Tx.below {w w' : World} {base : Nat} {v : Value} {t : ByteArray} (h : Tx w base v t) (hb : Below w.heap.size w w') : Tx w' base v t := h.grown (gb_of hb none) (fun k _ e => by cases e)
theorem setCells_heap (b : Nat) : ∀ (vs : List Value) (o : Nat) (w : World), (∀ k, k ≠ b → (w.setCells b o vs).heap[k]? = w.heap[k]?) ∧ (w.setCells b o vs).heap.size = w.heap.size ∧ (w.setCells b o vs).os = w.os ∧ (w.setCells b o vs).tape = w.tape ∧ (w.setCells b o vs).output = w.output
  | [], _, _ => ⟨fun _ _ => rfl, rfl, rfl, rfl, rfl⟩
  | v :: r, o, w => by
    obtain ⟨h1, h2, h3, h4, h5⟩ := setCells_heap b r (o + 1) (w.setCell ⟨b, o, none⟩ v)
    refine ⟨fun k hk => (h1 k hk).trans (Below.heap_setCell w ⟨b, o, none⟩ v k hk), h2.trans (by simp [World.setCell]), h3, h4, h5⟩
theorem gb_setCells (w : World) (b o : Nat) (vs : List Value) : w.grownBy (w.setCells b o vs) (some b) := by
  obtain ⟨h1, h2, h3, h4, h5⟩ := setCells_heap b vs o w
  exact ⟨h3, h4, h5, Nat.le_of_eq h2.symm, fun k _ hn => h1 k (fun e => hn (by rw [e]))⟩
theorem setCells_block (b : Nat) {e : TypeId} : ∀ (vs : List Value) (o : Nat) (w : World) (cur : Array Value), w.heap[b]? = some (.cells cur e (0, 0)) → ∃ cur', (w.setCells b o vs).heap[b]? = some (.cells cur' e (0, 0))
  | [], _, _, cur, h => ⟨cur, h⟩
  | v :: r, o, w, cur, h => setCells_block b r (o + 1) (w.setCell ⟨b, o, none⟩ v) _ (blk_put h o v rfl)
theorem Tx.ne {w : World} {base g t' : Nat} {v : Value} {t : ByteArray} {e : TypeId} {cs : Array Value} (h : Tx w base v t e) (hb : w.heap[g]? = some (.cells cs t' (0, 0))) (hne : e ≠ t') : ∀ k, v.ownBlock = some k → k ≠ g := by
  rcases h with ⟨rfl, h⟩ | ⟨g', o, cap, rfl, h1, _, h2, _, _, cur, h6⟩
  · intro k hk; simp [Value.ownBlock] at hk
  · intro k hk hkg
    have : g' = k := by simpa [Value.ownBlock] using hk
    subst this; subst hkg
    rw [hb] at h6
    injection h6 with h6; injection h6 with _ h6
    exact hne h6.symm
theorem byteCells_get (y : ByteArray) (j : Nat) (h : j < y.size) : (byteCells y)[j]? = some (.int .u8 (y[j].toNat : Int)) := by
  unfold byteCells
  have hl : j < y.data.toList.length := by rw [Array.length_toList]; exact h
  rw [List.getElem?_map, List.getElem?_eq_getElem hl]
  rfl
theorem get_app (t y : ByteArray) (i : Nat) (h : i < (t ++ y).size) : (t ++ y)[i] = if hi : i < t.size then t[i] else y[i - t.size]'(by rw [ByteArray.size_append] at h; omega) := by
  by_cases hi : i < t.size
  · rw [dif_pos hi]
    exact ByteArray.getElem_append_left hi
  · rw [dif_neg hi]
    exact ByteArray.getElem_append_right (by omega)
theorem byteCells_append (t y : ByteArray) : byteCells t ++ byteCells y = byteCells (t ++ y) := by
  unfold byteCells
  rw [ByteArray.data_append, Array.toList_append, List.map_append]
/-- The law on append. -/
theorem run_append_tx {P : Program} (w : World) (base : Nat) (t tx ty e : TypeId) (i : TypeInfo) (ht : P.underlying t = some (.slice e)) (hi : P.info? e = some i) (hz : i.zero = some (.int .u8 0)) (h1 : i.size = 1) (hb1 : i.bytes = 1)
    (v : Value) (s : ByteArray) (hv : Tx w base v s e) (x : Value) (y : ByteArray) (hs : Src P 1 tx x y.size (byteCells y) w) (hl : s.size + y.size ≤ 1099511627776) (hbase : base ≤ w.heap.size) :
    ∃ v' w', (Builtin.append_ #[t, tx] ty #[v, x]).run P w = .ok v' w' ∧ Tx w' base v' (s ++ y) e ∧ w.grownBy w' v.ownBlock ∧ (v'.ownBlock = v.ownBlock ∨ v'.ownBlock = some w.heap.size) := by
  have hs1 : Src P i.size tx x y.size (byteCells y) w := by rw [h1]; exact hs
  have hbl : ∀ (u : ByteArray), (byteCells u).length = u.size := byteCells_length
  have grown : ∀ (bs : Option Addr) (old cap : Nat), old = s.size → cap < s.size + y.size → (Builtin.firstCells i.size old (.slice bs old cap)).run P w.drew = .ok (byteCells s).toArray w.drew → ∃ v' w', (Builtin.append_ #[t, tx] ty #[.slice bs old cap, x]).run P w = .ok v' w' ∧ Tx w' base v' (s ++ y) e ∧ (∀ row, w.grownBy w' row) ∧ v'.ownBlock = some w.heap.size := by
    intro bs old cap ho hc hold
    subst ho
    have hr := run_append_grow_src (P := P) w t tx ty e i (.int .u8 0) ht hi hz bs s.size cap (byteCells s) hold x y.size (byteCells y) hs1 hc (by omega) (growslice_fits hc (by rw [hb1]; omega))
    have hge := grownCap_ge w (s.size + y.size) cap e
    have hsz : (s ++ y).size = s.size + y.size := ByteArray.size_append
    refine ⟨_, _, hr, .inr ⟨w.heap.size, 0, grownCap w (s.size + y.size) cap e, by rw [hsz], hbase, by rw [hsz]; exact hge, by simp, ?_, ?_, _, heap_alloc_new w.drew _⟩, fun row => ⟨rfl, rfl, rfl, by simp, fun k hk _ => Below.heap_alloc w.drew _ k hk⟩, rfl⟩
    · intro j hj
      rw [byteCells_append, Nat.zero_add]
      have hb : (w.drew.alloc (.cells ((byteCells (s ++ y)).toArray ++ Builtin.zeroCells (Value.int .u8 0).cells (grownCap w (s.size + y.size) cap e - (s.size + y.size))) e)).heap[w.heap.size]? = some (.cells ((byteCells (s ++ y)).toArray ++ Builtin.zeroCells (Value.int .u8 0).cells (grownCap w (s.size + y.size) cap e - (s.size + y.size))) e (0, 0)) := heap_alloc_new w.drew _
      rw [blk_cell hb j, Array.getElem?_append_left (by rw [List.size_toArray, hbl]; exact hj)]
      simp only [List.getElem?_toArray]
      exact byteCells_get _ j hj
    · intro j hj
      rw [byteCells_append, Nat.zero_add]
      have hb : (w.drew.alloc (.cells ((byteCells (s ++ y)).toArray ++ Builtin.zeroCells (Value.int .u8 0).cells (grownCap w (s.size + y.size) cap e - (s.size + y.size))) e)).heap[w.heap.size]? = some (.cells ((byteCells (s ++ y)).toArray ++ Builtin.zeroCells (Value.int .u8 0).cells (grownCap w (s.size + y.size) cap e - (s.size + y.size))) e (0, 0)) := heap_alloc_new w.drew _
      refine ⟨?_, blk_frozen hb j⟩
      rw [blk_cell hb j]
      have hlen : j < ((byteCells (s ++ y)).toArray ++ Builtin.zeroCells (Value.int .u8 0).cells (grownCap w (s.size + y.size) cap e - (s.size + y.size))).size := by
        rw [Array.size_append, List.size_toArray, hbl, size_zeroCells, hsz]
        show j < s.size + y.size + (grownCap w (s.size + y.size) cap e - (s.size + y.size)) * 1
        omega
      rw [Array.getElem?_eq_getElem hlen]
      rfl
  rcases hv with ⟨rfl, h0⟩ | ⟨g, o, cap, rfl, g1, g2, g3, g4, g5, cur, g6⟩
  · have hold : (Builtin.firstCells i.size 0 (.slice none 0 0)).run P w.drew = .ok (byteCells s).toArray w.drew := by
      have e : byteCells s = [] := List.eq_nil_of_length_eq_zero (by rw [hbl]; exact h0)
      rw [e]; exact run_firstCells_none w.drew i.size 0 0 0
    rcases Nat.eq_zero_or_pos y.size with hy | hy
    · have ey : byteCells y = [] := List.eq_nil_of_length_eq_zero (by rw [hbl]; exact hy)
      have hc0 := hs1.cells
      rw [ey, hy] at hc0
      have hl0 := hs1.len
      rw [hy] at hl0
      refine ⟨.slice none 0 0, w, ?_, .inl ⟨rfl, by rw [ByteArray.size_append]; omega⟩, gb_refl _ _, .inl rfl⟩
      rcases hs1.kind with ⟨e', hk⟩ | hk <;> simp [Builtin.append_, run_underlying ht, run_underlying hk, sizeOf, typeInfo, hi, hl0, hc0]
    · obtain ⟨v', w', hr, h2, h3, h4⟩ := grown none 0 0 h0.symm (by omega) hold
      exact ⟨v', w', hr, h2, h3 _, .inr h4⟩
  · by_cases hroom : s.size + y.size ≤ cap
    · have hc : ∀ j, j < (byteCells y).length → (w.cell? ⟨g, o + s.size * i.size + j, none⟩).isSome = true := fun j hj => by
        rw [hbl] at hj; rw [h1, Nat.mul_one, Nat.add_assoc]; exact (g5 (s.size + j) (by omega)).1
      have hf : ∀ j, j < (byteCells y).length → w.frozen? ⟨g, o + s.size * i.size + j, none⟩ = false := fun j hj => by
        rw [hbl] at hj; rw [h1, Nat.mul_one, Nat.add_assoc]; exact (g5 (s.size + j) (by omega)).2
      have hr := run_append_room_src (P := P) w t tx ty e i ht hi g o s.size cap x y.size (byteCells y) hs1 hroom hc hf
      have hsz : (s ++ y).size = s.size + y.size := ByteArray.size_append
      rw [h1, Nat.mul_one] at hr hc
      refine ⟨_, _, hr, .inr ⟨g, o, cap, by rw [hsz], g1, by omega, by rw [(setCells_heap g _ _ _).2.1]; exact g3, fun j hj => ?_, fun j hj => ?_, setCells_block g _ _ _ _ g6⟩, gb_setCells _ _ _ _, .inl rfl⟩
      · rw [get_app s y j hj]
        by_cases hjs : j < s.size
        · rw [dif_pos hjs, World.cell?_setCells_out g _ _ _ _ (fun _ _ => .inl (by show o + j < o + s.size; omega))]
          exact g4 j hjs
        · rw [dif_neg hjs]
          have h9 := World.cell?_setCells_in g (byteCells y) (o + s.size) w hc (j - s.size) (by rw [hbl]; omega)
          rw [show o + j = o + s.size + (j - s.size) by omega, h9]
          have h8 := byteCells_get y (j - s.size) (by omega)
          rw [List.getElem?_eq_getElem (by rw [hbl]; omega)] at h8
          exact h8
      · rw [World.frozen?_setCells]
        refine ⟨?_, (g5 j hj).2⟩
        by_cases hin : s.size ≤ j ∧ j < s.size + y.size
        · have h9 := World.cell?_setCells_in g (byteCells y) (o + s.size) w hc (j - s.size) (by rw [hbl]; omega)
          rw [show o + j = o + s.size + (j - s.size) by omega, h9]; rfl
        · rw [World.cell?_setCells_out g _ _ _ _ (fun _ _ => by
            rw [hbl]; show o + j < o + s.size ∨ o + s.size + y.size ≤ o + j; omega)]
          exact (g5 j hj).1
    · have hold : (Builtin.firstCells i.size s.size (.slice (some ⟨g, o, none⟩) s.size cap)).run P w.drew = .ok (byteCells s).toArray w.drew :=
        run_firstCells_some w.drew i.size s.size ⟨g, o, none⟩ s.size cap (byteCells s) (by rw [hbl, h1, Nat.mul_one]) (fun j u hj => by
          have hjl : j < s.size := by have := (List.getElem?_eq_some_iff.1 hj).1; rw [hbl] at this; exact this
          rw [byteCells_get s j hjl] at hj
          rw [Addr.add_lit, ← hj]
          exact g4 j hjl)
      obtain ⟨v', w', hr, h2, h3, h4⟩ := grown (some ⟨g, o, none⟩) s.size cap rfl (by omega) hold
      exact ⟨v', w', hr, h2, h3 _, .inr h4⟩
/-- At the operation; for the walk; at a step of a region that draws. -/
theorem wp_append_tx {P : Program} (w : World) {o : Oper} {a : Act} {K : Act → World → Prop} {Q : Exit → Act → World → Prop} (base : Nat) (sl x : Operand) (t tx e : TypeId)
    (ho : o.op = .call { callee := .builtin .append, args := #[sl, x], argTypes := #[t, tx] }) (ht : P.underlying t = some (.slice e)) (hinfo : (P.info? e).map (fun i => (i.zero, i.size, i.bytes)) = some (some (.int .u8 0), 1, 1))
    (v : Value) (s : ByteArray) (hsv : a.eval sl = v) (hv : Tx w base v s e) (xv : Value) (y : ByteArray) (hx : a.eval x = xv) (hs : Src P 1 tx xv y.size (byteCells y) w) (hl : s.size + y.size ≤ 1099511627776) (hbase : base ≤ w.heap.size)
    (h : ∀ v' w', Tx w' base v' (s ++ y) e → w.grownBy w' v.ownBlock → (v'.ownBlock = v.ownBlock ∨ v'.ownBlock = some w.heap.size) → K (a.put o.dst v') w') : o.wp P a w K Q := by
  obtain ⟨i, hi, hzz⟩ := Option.map_eq_some_iff.1 hinfo
  simp only [Prod.mk.injEq] at hzz
  obtain ⟨hz0, hz1, hz2⟩ := hzz
  obtain ⟨v', w', hr, h2, h3, h4⟩ := run_append_tx (P := P) w base t tx o.type e i ht hi hz0 hz1 hz2 v s hv xv y hs hl hbase
  unfold Oper.wp execOp
  simp only [ho, resolve, invoke, builtin, Sem.run_bind, Sem.run_pure, Result.andThen_ok, List.map_toArray, List.map_cons, List.map_nil, hsv, hx, hr]
  exact h v' w' h2 h3 h4
theorem wpList_append_tx {P : Program} (w : World) {ops : Array Oper} {rest : List Oper} {o : Oper} {a : Act} {Q : Exit → Act → World → Prop} (base : Nat) (hgd : o.guard = none) (sl x : Operand) (t tx e : TypeId)
    (ho : o.op = .call { callee := .builtin .append, args := #[sl, x], argTypes := #[t, tx] }) (ht : P.underlying t = some (.slice e)) (hinfo : (P.info? e).map (fun i => (i.zero, i.size, i.bytes)) = some (some (.int .u8 0), 1, 1))
    (v : Value) (s : ByteArray) (hsv : a.eval sl = v) (hv : Tx w base v s e) (xv : Value) (y : ByteArray) (hx : a.eval x = xv) (hs : Src P 1 tx xv y.size (byteCells y) w) (hl : s.size + y.size ≤ 1099511627776) (hbase : base ≤ w.heap.size)
    (h : ∀ v' w', Tx w' base v' (s ++ y) e → w.grownBy w' v.ownBlock → (v'.ownBlock = v.ownBlock ∨ v'.ownBlock = some w.heap.size) → wpList P ops Q rest (a.put o.dst v') w') : wpList P ops Q (o :: rest) a w :=
  wpList_plain hgd fun _ hK => wp_append_tx w base sl x t tx e ho ht hinfo v s hsv hv xv y hx hs hl hbase fun v' w' h2 h3 h4 => hK _ _ (h v' w' h2 h3 h4)
theorem step_append_tx {P : Program} (w : World) {ops : Array Oper} {o : Oper} {a : Act} {K : Act → World → Prop} {Q : Exit → Act → World → Prop} {E : Prop} (base : Nat) (hw : Region.wanted o (yielded ops a.tmps) = true) (sl x : Operand) (t tx e : TypeId)
    (ho : o.op = .call { callee := .builtin .append, args := #[sl, x], argTypes := #[t, tx] }) (ht : P.underlying t = some (.slice e)) (hinfo : (P.info? e).map (fun i => (i.zero, i.size, i.bytes)) = some (some (.int .u8 0), 1, 1))
    (v : Value) (s : ByteArray) (hsv : a.eval sl = v) (hv : Tx w base v s e) (xv : Value) (y : ByteArray) (hx : a.eval x = xv) (hs : Src P 1 tx xv y.size (byteCells y) w) (hl : s.size + y.size ≤ 1099511627776) (hbase : base ≤ w.heap.size)
    (h : ∀ v' w', Tx w' base v' (s ++ y) e → w.grownBy w' v.ownBlock → (v'.ownBlock = v.ownBlock ∨ v'.ownBlock = some w.heap.size) → K (a.put o.dst v') w') :
    if Region.wanted o (yielded ops a.tmps) = true then Oper.wp P o a w K Q else E := by
  rw [if_pos hw]
  exact wp_append_tx w base sl x t tx e ho ht hinfo v s hsv hv xv y hx hs hl hbase h
/-- One byte, laid by the statement itself. -/
def b1 (c : UInt8) : ByteArray := ⟨#[c]⟩
theorem src_byte {P : Program} (W : World) {t e : TypeId} (ht : P.underlying t = some (.slice e)) (c : UInt8) : Src P 1 t (.slice (some ⟨W.heap.size, 0, none⟩) 1 1) (b1 c).size (byteCells (b1 c)) (W.alloc (.cells #[.int .u8 (c.toNat : Int)] e (0, 0))) := by
  refine Src.ofSlice _ ht ⟨W.heap.size, 0, none⟩ 1 1 (byteCells (b1 c)) rfl (fun j u hj => ?_) (fun u hu => ?_)
  · match j, hj with
    | 0, hj =>
      have : u = .int .u8 (c.toNat : Int) := (Option.some.inj hj).symm
      subst this
      rw [Addr.add_lit]
      exact (blk_cell (blk_new W _) 0).trans rfl
    | n + 1, hj => cases hj
  · have : u = .int .u8 (c.toNat : Int) := List.mem_singleton.mp hu
    subst this; rfl
/-- The row's beginning is dropped. -/
theorem Tx.drop {w : World} {base : Nat} {t : ByteArray} {A : Option Addr} {c m : Nat} (h : Tx w base (.slice A t.size c) t) (hm : m ≤ t.size) : Tx w base (.slice (if c = m then A else A.map (·.add m)) (t.size - m) (c - m)) (t.extract m t.size) := by
  have hsz : (t.extract m t.size).size = t.size - m := by rw [ByteArray.size_extract]; omega
  rcases h with ⟨h1, h2⟩ | ⟨g, o, cap, h1, g1, g2, g3, g4, g5, cur, g6⟩
  · injection h1 with h1 h1b h1c
    subst h1 h1c
    left
    have : m = 0 := by omega
    subst this
    exact ⟨by simp [h2], by omega⟩
  · injection h1 with h1 h1b h1c
    subst h1 h1c
    right
    by_cases hc : c = m
    · rw [if_pos hc]
      refine ⟨g, o, c - m, by rw [hsz], g1, by omega, g3, fun i hi => ?_, fun j hj => ?_, cur, g6⟩
      · omega
      · omega
    · rw [if_neg hc]
      refine ⟨g, o + m, c - m, by rw [hsz]; simp [Addr.add], g1, by omega, g3, fun i hi => ?_, fun j hj => ?_, cur, g6⟩
      · rw [Nat.add_assoc, g4 (m + i) (by omega)]
        rw [ByteArray.getElem_extract]
      · rw [Nat.add_assoc]; exact g5 (m + j) (by omega)
theorem Tx.pos {w : World} {base : Nat} {t : ByteArray} {A : Option Addr} {n c : Nat} (h : Tx w base (.slice A n c) t) (hp : 0 < t.size) : ∃ g o, A = some ⟨g, o, none⟩ ∧ Lib.Bytes w g o t := by
  rcases h with ⟨_, h2⟩ | ⟨g, o, cap, h1, g1, g2, g3, g4, g5⟩
  · omega
  · injection h1 with h1
    exact ⟨g, o, h1, g4⟩
theorem bytes_gb {w w' : World} {row : Option Nat} {g o : Nat} {t : ByteArray} (h : Lib.Bytes w g o t) (hg : w.grownBy w' row) (hne : some g ≠ row) : Lib.Bytes w' g o t := fun i hi =>
  (World.cell?_of_block (a := ⟨g, o + i, none⟩) (hg.block g (World.block_lt_of_cell? w ⟨g, o + i, none⟩ (h i hi)) hne)).trans (h i hi)
end Go.Proofs.Ytjgelmfkoefclaa.PAll


-- from FlushLaw
/- A text as steps of at most 4096 bytes. -/
namespace Go.Proofs.Ytjgelmfkoefclaa.PAll
open Go.RowKit Go.Proofs.YtjgelmfkoefclaaW.PrintWords Go.Proofs.YtjgelmfkoefclaaW.PrintLast Go.Proofs.YtjgelmfkoefclaaW.PrintMore
set_option linter.unusedVariables false
set_option linter.unusedSimpArgs false

/-- A text as steps of at most 4096 bytes (k: at least as many as there are bytes). -/
def flushN : Nat → ByteArray → List S54
  | 0, _ => []
  | k + 1, s => if s.size = 0 then [] else ⟨0, 0, s.extract 0 (min s.size 4096)⟩ :: flushN k (s.extract (min s.size 4096) s.size)
theorem flushN_succ (k : Nat) (s : ByteArray) (h : s.size ≤ k) : flushN (k + 1) s = flushN k s := by
  induction k generalizing s with
  | zero => have h0 : s.size = 0 := by omega
            simp [flushN, h0]
  | succ k ih =>
    rw [flushN]
    conv => rhs; rw [flushN]
    split
    · rfl
    · rw [ih]
      simp [ByteArray.size_extract]; omega
theorem flushN_more (k d : Nat) (s : ByteArray) (h : s.size ≤ k) : flushN (k + d) s = flushN k s := by
  induction d with
  | zero => rfl
  | succ d ih => rw [← Nat.add_assoc, flushN_succ _ _ (by omega), ih]
theorem flushN_step (t : ByteArray) (h : t.size ≠ 0) : flushN t.size t = ⟨0, 0, t.extract 0 (min t.size 4096)⟩ :: flushN (t.extract (min t.size 4096) t.size).size (t.extract (min t.size 4096) t.size) := by
  have e : t.size = (t.extract (min t.size 4096) t.size).size + (min t.size 4096 - 1) + 1 := by simp [ByteArray.size_extract]; omega
  rw [show flushN t.size t = flushN ((t.extract (min t.size 4096) t.size).size + (min t.size 4096 - 1) + 1) t from by rw [← e], flushN, if_neg h, flushN_more _ _ _ (Nat.le_refl _)]
theorem flushN_zero (t : ByteArray) (h : t.size = 0) : flushN t.size t = [] := by rw [h, flushN]
theorem flushN_length (k : Nat) (s : ByteArray) : (flushN k s).length ≤ s.size := by
  induction k generalizing s with
  | zero => simp [flushN]
  | succ k ih =>
    rw [flushN]
    split
    · simp
    · have := ih (s.extract (min s.size 4096) s.size)
      simp only [ByteArray.size_extract] at this
      simp only [List.length_cons]
      omega
end Go.Proofs.Ytjgelmfkoefclaa.PAll


-- from PAllx56
-- Written by a program of this session (wip/tools/hookprint.py, over the print); Lean checks it.
namespace Go.Proofs.Ytjgelmfkoefclaa.PAll
open Go.RowKit Go.Proofs.YtjgelmfkoefclaaW.PrintWords Go.Proofs.YtjgelmfkoefclaaW.PrintLast Go.Proofs.YtjgelmfkoefclaaW.PrintMore
attribute [local go_sem] max2_int min2_int max_two min_two max_three min_three max_four min_four   -- for this text's walks alone
set_option linter.unusedVariables false
set_option linter.unusedSimpArgs false

/-! ### cmp_isNaN_int: function 88 -/
def cmp_isNaN_int.f (a0 : Int) : Option (Bool) := some (a0 != a0)
set_option maxHeartbeats 8000000 in
set_option maxRecDepth 100000 in
theorem cmp_isNaN_int.calls (a0 : Int) (r : Bool) (w : World) (h : cmp_isNaN_int.f a0 = some r) :
    Calls Try.prog 88 #[.int .i64 a0] w fun e w' => e = .returned (.bool r) ∧ Drawn0 w w' := by
  have H : (some (a0 != a0)) = some r := h
  clear h
  obtain rfl := Option.some.inj H
  go_enter Try.func88, Try.ntmps88
  go_wp2
  go_ret
  exact ⟨by first | rfl | (simp; done) | (simp [*]; done), by repeat (first | exact Drawn0.refl _ | apply Drawn0.step)⟩

end Go.Proofs.Ytjgelmfkoefclaa.PAll


-- from PAllx57
-- Written by a program of this session (wip/tools/hookprint.py, over the print); Lean checks it.
namespace Go.Proofs.Ytjgelmfkoefclaa.PAll
open Go.RowKit Go.Proofs.YtjgelmfkoefclaaW.PrintWords Go.Proofs.YtjgelmfkoefclaaW.PrintLast Go.Proofs.YtjgelmfkoefclaaW.PrintMore
attribute [local go_sem] max2_int min2_int max_two min_two max_three min_three max_four min_four   -- for this text's walks alone
set_option linter.unusedVariables false
set_option linter.unusedSimpArgs false

/-! ### cmp_Less_int: function 84 -/
def cmp_Less_int.f (a0 : Int) (a1 : Int) : Option (Bool) := (cmp_isNaN_int.f a0).bind fun t348 => (if t348 = true then ((cmp_isNaN_int.f a1).bind fun t349 => (if t349 = true then (some (decide (a0 < a1))) else (some true))) else (some (decide (a0 < a1))))
set_option maxHeartbeats 8000000 in
set_option maxRecDepth 100000 in
theorem cmp_Less_int.calls (a0 : Int) (a1 : Int) (r : Bool) (w : World) (h : cmp_Less_int.f a0 a1 = some r) :
    Calls Try.prog 84 #[.int .i64 a0, .int .i64 a1] w fun e w' => e = .returned (.bool r) ∧ Drawn0 w w' := by
  have H : ((cmp_isNaN_int.f a0).bind fun t348 => (if t348 = true then ((cmp_isNaN_int.f a1).bind fun t349 => (if t349 = true then (some (decide (a0 < a1))) else (some true))) else (some (decide (a0 < a1))))) = some r := h
  clear h
  replace H := Option.bind_eq_some_iff.mp H
  obtain ⟨t348, A30, H⟩ := H
  replace H : (if t348 = true then ((cmp_isNaN_int.f a1).bind fun t349 => (if t349 = true then (some (decide (a0 < a1))) else (some true))) else (some (decide (a0 < a1)))) = some r := H
  have A3 := Aside0.mk A30
  clear A30
  by_cases c4 : t348 = true
  · subst c4
    have H1 : ((cmp_isNaN_int.f a1).bind fun t349 => (if t349 = true then (some (decide (a0 < a1))) else (some true))) = some r := by rw [if_pos rfl] at H; exact H
    clear H
    have H := H1
    clear H1
    replace H := Option.bind_eq_some_iff.mp H
    obtain ⟨t349, A50, H⟩ := H
    replace H : (if t349 = true then (some (decide (a0 < a1))) else (some true)) = some r := H
    have A5 := Aside0.mk A50
    clear A50
    by_cases c6 : t349 = true
    · subst c6
      have H1 : (some (decide (a0 < a1))) = some r := by rw [if_pos rfl] at H; exact H
      clear H
      have H := H1
      clear H1
      obtain rfl := Option.some.inj H
      go_enter Try.func84, Try.ntmps84
      go_wp2_with (first | ((with_reducible refine gate_callee (f := 88) rfl ?_); refine goesL_ (some 6) rfl rfl Try.func88 (by kernel_rfl) rfl #[.int .i64 a0] rfl (by (try simp only [List.map_toArray, List.map_cons, List.map_nil]); first | done | rfl | (simp only [List.length_drop, List.length_take]; rfl)) ?_; (with_reducible refine (cmp_isNaN_int.calls a0 true _ A3.out).mono ?_); rintro e w' ⟨rfl, ⟨nd, rfl⟩⟩; refine ⟨_, rfl, ?_⟩) | (go_at_call 88; (with_reducible refine (cmp_isNaN_int.calls a1 true _ A5.out).mono ?_); rintro e w' ⟨rfl, ⟨nd, rfl⟩⟩))
      go_ret
      exact ⟨by first | rfl | (simp; done) | (simp [*]; done), by repeat (first | exact Drawn0.refl _ | apply Drawn0.step)⟩
    · replace c6 := Bool.eq_false_iff.mpr c6
      subst c6
      have H1 : (some true) = some r := by rw [if_neg (show ¬ (false = true) by decide)] at H; exact H
      clear H
      have H := H1
      clear H1
      obtain rfl := Option.some.inj H
      go_enter Try.func84, Try.ntmps84
      go_wp2_with (first | ((with_reducible refine gate_callee (f := 88) rfl ?_); refine goesL_ (some 6) rfl rfl Try.func88 (by kernel_rfl) rfl #[.int .i64 a0] rfl (by (try simp only [List.map_toArray, List.map_cons, List.map_nil]); first | done | rfl | (simp only [List.length_drop, List.length_take]; rfl)) ?_; (with_reducible refine (cmp_isNaN_int.calls a0 true _ A3.out).mono ?_); rintro e w' ⟨rfl, ⟨nd, rfl⟩⟩; refine ⟨_, rfl, ?_⟩) | (go_at_call 88; (with_reducible refine (cmp_isNaN_int.calls a1 false _ A5.out).mono ?_); rintro e w' ⟨rfl, ⟨nd, rfl⟩⟩))
      go_ret
      exact ⟨by first | rfl | (simp; done) | (simp [*]; done), by repeat (first | exact Drawn0.refl _ | apply Drawn0.step)⟩
  · replace c4 := Bool.eq_false_iff.mpr c4
    subst c4
    have H1 : (some (decide (a0 < a1))) = some r := by rw [if_neg (show ¬ (false = true) by decide)] at H; exact H
    clear H
    have H := H1
    clear H1
    obtain rfl := Option.some.inj H
    go_enter Try.func84, Try.ntmps84
    go_wp2_with (first | ((with_reducible refine gate_callee (f := 88) rfl ?_); refine goesL_ (some 6) rfl rfl Try.func88 (by kernel_rfl) rfl #[.int .i64 a0] rfl (by (try simp only [List.map_toArray, List.map_cons, List.map_nil]); first | done | rfl | (simp only [List.length_drop, List.length_take]; rfl)) ?_; (with_reducible refine (cmp_isNaN_int.calls a0 false _ A3.out).mono ?_); rintro e w' ⟨rfl, ⟨nd, rfl⟩⟩; refine ⟨_, rfl, ?_⟩))
    go_ret
    exact ⟨by first | rfl | (simp; done) | (simp [*]; done), by repeat (first | exact Drawn0.refl _ | apply Drawn0.step)⟩

end Go.Proofs.Ytjgelmfkoefclaa.PAll


-- from PAllx58
-- Written by a program of this session (wip/tools/hookprint.py, over the print); Lean checks it.
namespace Go.Proofs.Ytjgelmfkoefclaa.PAll
open Go.RowKit Go.Proofs.YtjgelmfkoefclaaW.PrintWords Go.Proofs.YtjgelmfkoefclaaW.PrintLast Go.Proofs.YtjgelmfkoefclaaW.PrintMore
attribute [local go_sem] max2_int min2_int max_two min_two max_three min_three max_four min_four   -- for this text's walks alone
set_option linter.unusedVariables false
set_option linter.unusedSimpArgs false

/-! ### slices_isNaN_int: function 85 -/
def slices_isNaN_int.f (a0 : Int) : Option (Bool) := some (a0 != a0)
set_option maxHeartbeats 8000000 in
set_option maxRecDepth 100000 in
theorem slices_isNaN_int.calls (a0 : Int) (r : Bool) (w : World) (h : slices_isNaN_int.f a0 = some r) :
    Calls Try.prog 85 #[.int .i64 a0] w fun e w' => e = .returned (.bool r) ∧ Drawn0 w w' := by
  have H : (some (a0 != a0)) = some r := h
  clear h
  obtain rfl := Option.some.inj H
  go_enter Try.func85, Try.ntmps85
  go_wp2
  go_ret
  exact ⟨by first | rfl | (simp; done) | (simp [*]; done), by repeat (first | exact Drawn0.refl _ | apply Drawn0.step)⟩

end Go.Proofs.Ytjgelmfkoefclaa.PAll


-- from PAllx59
-- Written by a program of this session (wip/tools/hookprint.py, over the print); Lean checks it.
namespace Go.Proofs.Ytjgelmfkoefclaa.PAll
open Go.RowKit Go.Proofs.YtjgelmfkoefclaaW.PrintWords Go.Proofs.YtjgelmfkoefclaaW.PrintLast Go.Proofs.YtjgelmfkoefclaaW.PrintMore
attribute [local go_sem] max2_int min2_int max_two min_two max_three min_three max_four min_four   -- for this text's walks alone
set_option linter.unusedVariables false
set_option linter.unusedSimpArgs false

/-! ### slices_BinarySearch_int_int: function 78 -/
def slices_BinarySearch_int_int.l0 : Nat → List Int → Int → Int → Int → Int → Option (Int × Bool)
  | 0, _, _, _, _, _ => none
  | k + 1, x0, x1, x6, x7, x8 => if x7 < x8 then (if 0 ≤ (wrap64 ((IntKind.u64.wrap (wrap64 (x7 + x8))) / 2)) then (if (wrap64 ((IntKind.u64.wrap (wrap64 (x7 + x8))) / 2)) < (x0.length : Int) then ((cmp_Less_int.f (rd x0 (wrap64 ((IntKind.u64.wrap (wrap64 (x7 + x8))) / 2))) x1).bind fun t351 => (if t351 = true then (slices_BinarySearch_int_int.l0 k x0 x1 x6 (wrap64 ((wrap64 ((IntKind.u64.wrap (wrap64 (x7 + x8))) / 2)) + 1)) x8) else (slices_BinarySearch_int_int.l0 k x0 x1 x6 x7 (wrap64 ((IntKind.u64.wrap (wrap64 (x7 + x8))) / 2))))) else (none)) else (none)) else (if x7 < x6 then (if 0 ≤ x7 then (if x7 < (x0.length : Int) then (if (rd x0 x7) = x1 then (some (x7, true)) else ((slices_isNaN_int.f (rd x0 x7)).bind fun t354 => (if t354 = true then ((slices_isNaN_int.f x1).bind fun t355 => (some (x7, t355))) else (some (x7, false))))) else (none)) else (none)) else (some (x7, false)))
def slices_BinarySearch_int_int.f (k : Nat) (l0 : List Int) (a1 : Int) : Option (Int × Bool) := slices_BinarySearch_int_int.l0 k l0 a1 (l0.length : Int) 0 (l0.length : Int)
theorem slices_BinarySearch_int_int.mono_l : ∀ k, (∀ y0 y1 y2 y3 y4, LeO (slices_BinarySearch_int_int.l0 k y0 y1 y2 y3 y4) (slices_BinarySearch_int_int.l0 (k + 1) y0 y1 y2 y3 y4))
  | 0 => fun _ _ _ _ _ r h => by simp [slices_BinarySearch_int_int.l0] at h
  | k + 1 => by
    have ih0 := slices_BinarySearch_int_int.mono_l k
    · intro y0 y1 y2 y3 y4
      unfold slices_BinarySearch_int_int.l0
      repeat' first
      | (with_reducible exact ih0 _ _ _ _ _)
      | (with_reducible exact LeO.refl _)
      | (with_reducible exact LeO.none _)
      | (with_reducible refine LeO.ite ?_ ?_)
      | (with_reducible refine LeO.bind ?_ (fun _ => ?_))
      | exact ih0 _ _ _ _ _
      | exact LeO.none _
      | refine LeO.ite ?_ ?_
      | refine LeO.bind ?_ (fun _ => ?_)
theorem slices_BinarySearch_int_int.mono : ∀ a0 a1 k, LeO (slices_BinarySearch_int_int.f k a0 a1) (slices_BinarySearch_int_int.f (k + 1) a0 a1) := by
  intro a0 a1 k
  have ih0 := slices_BinarySearch_int_int.mono_l k
  unfold slices_BinarySearch_int_int.f
  repeat' first
      | (with_reducible exact ih0 _ _ _ _ _)
      | (with_reducible exact LeO.refl _)
      | (with_reducible exact LeO.none _)
      | (with_reducible refine LeO.ite ?_ ?_)
      | (with_reducible refine LeO.bind ?_ (fun _ => ?_))
      | exact ih0 _ _ _ _ _
      | exact LeO.none _
      | refine LeO.ite ?_ ?_
      | refine LeO.bind ?_ (fun _ => ?_)
set_option maxHeartbeats 8000000 in
set_option maxRecDepth 100000 in
theorem slices_BinarySearch_int_int.calls (k : Nat) (A0 : Option Addr) (c0 : Nat) (l0 : List Int) (a1 : Int) (r1 : Int) (r2 : Bool) (w : World) (hr0 : Kd.C (Kd.int .i64) w A0 l0.length l0) (hc0 : l0.length ≤ c0) (h : slices_BinarySearch_int_int.f k l0 a1 = some (r1, r2)) :
    Calls Try.prog 78 #[.slice A0 l0.length c0, .int .i64 a1] w fun e w' => e = .returned (.tuple #[.int .i64 r1, .bool r2]) ∧ Drawn0 w w' := by
  have HR0 := Aside0.mk hr0
  have HC0 := Aside0.mk hc0
  clear hr0 hc0
  have H : (slices_BinarySearch_int_int.l0 k l0 a1 (l0.length : Int) 0 (l0.length : Int)) = some (r1, r2) := h
  clear h
  have H' := Aside0.mk H
  clear H
  go_enter Try.func78, Try.ntmps78
  go_wp2
  go_loopg [7, 8] k (fun kq v7 v8 w' => ∃ (x7_1 : Int) (x8_1 : Int), v7 = .int .i64 x7_1 ∧ v8 = .int .i64 x8_1 ∧ Aside0 (slices_BinarySearch_int_int.l0 kq l0 a1 (l0.length : Int) x7_1 x8_1 = some (r1, r2)) ∧ Aside0 (kq ≤ k) ∧ Drawn0 w w')
  case atStart => exact ⟨(0), ((l0.length : Int)), (by first | rfl | (simp; done) | (simp [*]; done)), (by first | rfl | (simp; done) | (simp [*]; done)), H', ⟨Nat.le_refl _⟩, by repeat (first | exact Drawn0.refl _ | apply Drawn0.step)⟩
  case round =>
    clear H'
    try clear p2
    obtain ⟨x7_1, x8_1, rfl, rfl, HA, HK1, ⟨m1, rfl⟩⟩ := hrel
    cases gk with
    | zero => exact absurd HA.out (by simp [slices_BinarySearch_int_int.l0])
    | succ k1 =>
      have H := HA.out
      clear HA
      simp only [slices_BinarySearch_int_int.l0] at H
      by_cases c3 : x7_1 < x8_1
      · rw [if_pos c3] at H
        have c3b0 : decide (x7_1 < x8_1) = true := decide_eq_true c3
        clear c3
        obtain ⟨ji4, hji4⟩ : ∃ j_ : Int, (wrap64 ((IntKind.u64.wrap (wrap64 (x7_1 + x8_1))) / 2)) = j_ := ⟨_, rfl⟩
        replace H : (if 0 ≤ (ji4) then (if (ji4) < (l0.length : Int) then ((cmp_Less_int.f (rd l0 (ji4)) a1).bind fun t351 => (if t351 = true then (slices_BinarySearch_int_int.l0 k1 l0 a1 (l0.length : Int) (wrap64 ((ji4) + 1)) x8_1) else (slices_BinarySearch_int_int.l0 k1 l0 a1 (l0.length : Int) x7_1 ji4))) else (none)) else (none)) = some (r1, r2) := by first | (rw [hji4] at H; exact H) | (simp only [hji4] at H ⊢; exact H)
        have hji4w : (IntKind.i64.wrap ((IntKind.u64.wrap (wrap64 (x7_1 + x8_1))) / 2)) = ji4 := (i64_w _).trans hji4
        by_cases c5 : 0 ≤ (ji4)
        · rw [if_pos c5] at H
          have c5b0 : decide (0 ≤ (ji4)) = true := decide_eq_true c5
          clear c5
          by_cases c6 : (ji4) < (l0.length : Int)
          · rw [if_pos c6] at H
            have c6b0 : decide ((ji4) < (l0.length : Int)) = true := decide_eq_true c6
            clear c6
            replace H := Option.bind_eq_some_iff.mp H
            obtain ⟨t351, A70, H⟩ := H
            replace H : (if t351 = true then (slices_BinarySearch_int_int.l0 k1 l0 a1 (l0.length : Int) (wrap64 ((ji4) + 1)) x8_1) else (slices_BinarySearch_int_int.l0 k1 l0 a1 (l0.length : Int) x7_1 ji4)) = some (r1, r2) := H
            have A7 := Aside0.mk A70
            clear A70
            by_cases c8 : t351 = true
            · subst c8
              have H1 : (slices_BinarySearch_int_int.l0 k1 l0 a1 (l0.length : Int) (wrap64 ((ji4) + 1)) x8_1) = some (r1, r2) := by rw [if_pos rfl] at H; exact H
              clear H
              have H := H1
              clear H1
              have H' := Aside0.mk H
              clear H
              have p350 : 0 ≤ ((ji4) : Int) := of_decide_eq_true (by first | (with_reducible assumption) | assumption)
              have q350 : (ji4) < (l0.length : Int) := of_decide_eq_true (by first | (with_reducible assumption) | assumption)
              obtain ⟨ad350, e350, hx350_0⟩ := Kd.at_int HR0.out (ji4) p350 q350
              cases e350
              replace p350 := eq_true p350
              replace q350 := eq_true q350
              go_wp2_with (first | ((with_reducible refine gate_callee (f := 84) rfl ?_); refine goesL_ (some 27) rfl rfl Try.func84 (by kernel_rfl) rfl #[.int .i64 (rd l0 (ji4)), .int .i64 a1] rfl (by (try simp only [List.map_toArray, List.map_cons, List.map_nil]); first | done | (simp only [hji4]; rfl) | rfl | (simp only [List.length_drop, List.length_take]; rfl)) ?_; (with_reducible refine (cmp_Less_int.calls (rd l0 (ji4)) a1 true _ A7.out).mono ?_); rintro e w' ⟨rfl, ⟨nd, rfl⟩⟩; refine ⟨_, rfl, ?_⟩))
              go_roundg k1
              case measure => have := HK1.out; omega
              case rel => exact ⟨(wrap64 ((ji4) + 1)), (x8_1), (by first | rfl | (simp; done) | (simp only [← hji4] <;> (first | rfl | simp)) | (simp [*]; done)), (by first | rfl | (simp; done) | (simp [*]; done)), H', ⟨by have := HK1.out; omega⟩, by repeat (first | exact Drawn0.refl _ | apply Drawn0.step)⟩
            · replace c8 := Bool.eq_false_iff.mpr c8
              subst c8
              have H1 : (slices_BinarySearch_int_int.l0 k1 l0 a1 (l0.length : Int) x7_1 ji4) = some (r1, r2) := by rw [if_neg (show ¬ (false = true) by decide)] at H; exact H
              clear H
              have H := H1
              clear H1
              have H' := Aside0.mk H
              clear H
              have p350 : 0 ≤ ((ji4) : Int) := of_decide_eq_true (by first | (with_reducible assumption) | assumption)
              have q350 : (ji4) < (l0.length : Int) := of_decide_eq_true (by first | (with_reducible assumption) | assumption)
              obtain ⟨ad350, e350, hx350_0⟩ := Kd.at_int HR0.out (ji4) p350 q350
              cases e350
              replace p350 := eq_true p350
              replace q350 := eq_true q350
              go_wp2_with (first | ((with_reducible refine gate_callee (f := 84) rfl ?_); refine goesL_ (some 27) rfl rfl Try.func84 (by kernel_rfl) rfl #[.int .i64 (rd l0 (ji4)), .int .i64 a1] rfl (by (try simp only [List.map_toArray, List.map_cons, List.map_nil]); first | done | (simp only [hji4]; rfl) | rfl | (simp only [List.length_drop, List.length_take]; rfl)) ?_; (with_reducible refine (cmp_Less_int.calls (rd l0 (ji4)) a1 false _ A7.out).mono ?_); rintro e w' ⟨rfl, ⟨nd, rfl⟩⟩; refine ⟨_, rfl, ?_⟩))
              go_roundg k1
              case measure => have := HK1.out; omega
              case rel => exact ⟨(x7_1), (ji4), (by first | rfl | (simp; done) | (simp [*]; done)), (by first | rfl | (simp; done) | (simp only [← hji4] <;> (first | rfl | simp)) | (simp [*]; done)), H', ⟨by have := HK1.out; omega⟩, by repeat (first | exact Drawn0.refl _ | apply Drawn0.step)⟩
          · rw [if_neg c6] at H
            exact absurd H (by simp)
        · rw [if_neg c5] at H
          exact absurd H (by simp)
      · rw [if_neg c3] at H
        have c3b0 : decide (x7_1 < x8_1) = false := decide_eq_false c3
        clear c3
        by_cases c9 : x7_1 < (l0.length : Int)
        · rw [if_pos c9] at H
          have c9b0 : decide (x7_1 < (l0.length : Int)) = true := decide_eq_true c9
          clear c9
          by_cases c10 : 0 ≤ x7_1
          · rw [if_pos c10] at H
            have c10b0 : decide (0 ≤ x7_1) = true := decide_eq_true c10
            clear c10
            by_cases c11 : x7_1 < (l0.length : Int)
            · rw [if_pos c11] at H
              have c11b0 : decide (x7_1 < (l0.length : Int)) = true := decide_eq_true c11
              clear c11
              by_cases c12 : (rd l0 x7_1) = a1
              · rw [if_pos c12] at H
                have c12b0 : ((rd l0 x7_1) == a1) = true := beq_iff_eq.mpr c12
                have c12b1 : ((rd l0 x7_1) != a1) = false := bne_eq_false_iff_eq.mpr c12
                clear c12
                simp only [Option.some.injEq, Prod.mk.injEq] at H
                obtain ⟨rfl, rfl⟩ := H
                have p352 : 0 ≤ (x7_1 : Int) := of_decide_eq_true (by first | (with_reducible assumption) | assumption)
                have q352 : x7_1 < (l0.length : Int) := of_decide_eq_true (by first | (with_reducible assumption) | assumption)
                obtain ⟨ad352, e352, hx352_0⟩ := Kd.at_int HR0.out x7_1 p352 q352
                cases e352
                replace p352 := eq_true p352
                replace q352 := eq_true q352
                go_wp2
                go_ret2
                exact ⟨by first | rfl | (simp; done) | (simp [*]; done), by repeat (first | exact Drawn0.refl _ | apply Drawn0.step)⟩
              · rw [if_neg c12] at H
                have c12b0 : ((rd l0 x7_1) == a1) = false := beq_eq_false_iff_ne.mpr c12
                have c12b1 : ((rd l0 x7_1) != a1) = true := bne_iff_ne.mpr c12
                replace H := Option.bind_eq_some_iff.mp H
                obtain ⟨t354, A130, H⟩ := H
                replace H : (if t354 = true then ((slices_isNaN_int.f a1).bind fun t355 => (some (x7_1, t355))) else (some (x7_1, false))) = some (r1, r2) := H
                have A13 := Aside0.mk A130
                clear A130
                by_cases c14 : t354 = true
                · subst c14
                  have H1 : ((slices_isNaN_int.f a1).bind fun t355 => (some (x7_1, t355))) = some (r1, r2) := by rw [if_pos rfl] at H; exact H
                  clear H
                  have H := H1
                  clear H1
                  replace H := Option.bind_eq_some_iff.mp H
                  obtain ⟨t355, A150, H⟩ := H
                  replace H : (some (x7_1, t355)) = some (r1, r2) := H
                  have A15 := Aside0.mk A150
                  clear A150
                  simp only [Option.some.injEq, Prod.mk.injEq] at H
                  obtain ⟨rfl, rfl⟩ := H
                  have p352 : 0 ≤ (x7_1 : Int) := of_decide_eq_true (by first | (with_reducible assumption) | assumption)
                  have q352 : x7_1 < (l0.length : Int) := of_decide_eq_true (by first | (with_reducible assumption) | assumption)
                  obtain ⟨ad352, e352, hx352_0⟩ := Kd.at_int HR0.out x7_1 p352 q352
                  cases e352
                  replace p352 := eq_true p352
                  replace q352 := eq_true q352
                  have p353 : 0 ≤ (x7_1 : Int) := of_decide_eq_true (by first | (with_reducible assumption) | assumption)
                  have q353 : x7_1 < (l0.length : Int) := of_decide_eq_true (by first | (with_reducible assumption) | assumption)
                  obtain ⟨ad353, e353, hx353_0⟩ := Kd.at_int HR0.out x7_1 p353 q353
                  obtain rfl : ad352 = ad353 := (by injection e353)
                  replace p353 := eq_true p353
                  replace q353 := eq_true q353
                  go_wp2_with (first | (go_at_call 85; (with_reducible refine (slices_isNaN_int.calls (rd l0 x7_1) true _ A13.out).mono ?_); rintro e w' ⟨rfl, ⟨nd, rfl⟩⟩) | (go_at_call 85; (with_reducible refine (slices_isNaN_int.calls a1 t355 _ A15.out).mono ?_); rintro e w' ⟨rfl, ⟨nd, rfl⟩⟩))
                  go_ret2
                  exact ⟨by first | rfl | (simp; done) | (simp [*]; done), by repeat (first | exact Drawn0.refl _ | apply Drawn0.step)⟩
                · replace c14 := Bool.eq_false_iff.mpr c14
                  subst c14
                  have H1 : (some (x7_1, false)) = some (r1, r2) := by rw [if_neg (show ¬ (false = true) by decide)] at H; exact H
                  clear H
                  have H := H1
                  clear H1
                  simp only [Option.some.injEq, Prod.mk.injEq] at H
                  obtain ⟨rfl, rfl⟩ := H
                  have p352 : 0 ≤ (x7_1 : Int) := of_decide_eq_true (by first | (with_reducible assumption) | assumption)
                  have q352 : x7_1 < (l0.length : Int) := of_decide_eq_true (by first | (with_reducible assumption) | assumption)
                  obtain ⟨ad352, e352, hx352_0⟩ := Kd.at_int HR0.out x7_1 p352 q352
                  cases e352
                  replace p352 := eq_true p352
                  replace q352 := eq_true q352
                  have p353 : 0 ≤ (x7_1 : Int) := of_decide_eq_true (by first | (with_reducible assumption) | assumption)
                  have q353 : x7_1 < (l0.length : Int) := of_decide_eq_true (by first | (with_reducible assumption) | assumption)
                  obtain ⟨ad353, e353, hx353_0⟩ := Kd.at_int HR0.out x7_1 p353 q353
                  obtain rfl : ad352 = ad353 := (by injection e353)
                  replace p353 := eq_true p353
                  replace q353 := eq_true q353
                  go_wp2_with (first | (go_at_call 85; (with_reducible refine (slices_isNaN_int.calls (rd l0 x7_1) false _ A13.out).mono ?_); rintro e w' ⟨rfl, ⟨nd, rfl⟩⟩))
                  go_ret2
                  exact ⟨by first | rfl | (simp; done) | (simp [*]; done), by repeat (first | exact Drawn0.refl _ | apply Drawn0.step)⟩
            · rw [if_neg c11] at H
              exact absurd H (by simp)
          · rw [if_neg c10] at H
            exact absurd H (by simp)
        · rw [if_neg c9] at H
          have c9b0 : decide (x7_1 < (l0.length : Int)) = false := decide_eq_false c9
          clear c9
          simp only [Option.some.injEq, Prod.mk.injEq] at H
          obtain ⟨rfl, rfl⟩ := H
          go_wp2
          go_ret2
          exact ⟨by first | rfl | (simp; done) | (simp [*]; done), by repeat (first | exact Drawn0.refl _ | apply Drawn0.step)⟩

end Go.Proofs.Ytjgelmfkoefclaa.PAll


