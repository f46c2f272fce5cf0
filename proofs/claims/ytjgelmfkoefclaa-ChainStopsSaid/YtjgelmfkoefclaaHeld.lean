/- A region that draws its order: what only reads goes first, under a condition on the cells, though other operations that make memory may come up ahead of it; the last operations, which wait for all that, as they stand. -/
import Derived.OrdersHeld
import Derived.Deep.RegionHeld
import Derived.StillTail
import Derived.Test.YtjgelmfkoefclaaPAllx0
namespace Go.Proofs.Ytjgelmfkoefclaa.PAll
open Go.RowKit
set_option linter.unusedVariables false

section
variable {P : Program} {ops : Array Oper} {Q : Exit → Act → World → Prop} {md : Region.Mode} {S : World → Prop}

/-- Whatever order is picked, and S holds behind each operation ahead of number N. -/
def wpAnyE (P : Program) (md : Region.Mode) (ops : Array Oper) (Q : Exit → Act → World → Prop) (S : World → Prop) (N : Nat) : Nat → Array Bool → Act → World → Prop
  | 0, listed, a, w => Region.ready md ops listed = [] ∧ Q .normal a w
  | f + 1, listed, a, w => (Region.ready md ops listed = [] → Q .normal a w) ∧ ∀ i ∈ Region.ready md ops listed, wpOp P ops Q i (fun a' w' => (i < N → S w') ∧ wpAnyE P md ops Q S N f (listed.setIfInBounds i true) a' w') a w
theorem wpAny_of_E {N : Nat} : ∀ (f : Nat) (listed : Array Bool) (a : Act) (w : World), wpAnyE P md ops Q S N f listed a w → wpAny P md ops Q f listed a w
  | 0, _, _, _, h => h
  | f + 1, _, _, _, h => ⟨h.1, fun i hi => wpOp_mono (fun a' w' h' => wpAny_of_E f _ a' w' h'.2) (h.2 i hi)⟩
theorem wpAnyE_first {N i : Nat} {oi : Oper} {v : Value} (hi : ops[i]? = some oi) (hsel : ∀ (j : Nat) (o : Oper) cs b, ops[j]? = some o → o.op ≠ .select cs b)
    (hQ : ∀ c a w, Q (.panic c) (a.put oi.dst v) w → Q (.panic c) a w) (hs : Region.sinkB md ops N = true) (hc : Region.chainB md ops N = true) (hN : N < ops.size) (hin : i < N) :
    ∀ (f : Nat) (listed : Array Bool) (a : Act) (w : World), HeadInv md ops N listed →
      (∀ j oj, ops[j]? = some oj → j ≠ i → listed.getD j true = false → (∀ e ∈ oj.after, Region.binds md e = true → e.on ≠ i) → oi.apart ops oj = true) →
      i ∈ Region.ready md ops listed → YieldsIf P ops S oi v a → S w →
      wpAnyE P md ops Q S N f (listed.setIfInBounds i true) (a.put oi.dst v) w → wpAnyE P md ops Q S N (f + 1) listed a w := by
  intro f
  induction f with
  | zero =>
    intro listed a w _ _ hr hy hS H
    refine ⟨fun h => absurd hr (by rw [h]; simp), fun j hj => ?_⟩
    by_cases hji : j = i
    · subst hji; exact hy.wpOp hi hS ⟨fun _ => hS, H⟩
    · have h1 := ready_mono hj hji
      rw [H.1] at h1
      cases h1
  | succ f ih =>
    intro listed a w inv hfree hr hy hS H
    have hun := (mem_ready.1 hr).1
    refine ⟨fun h => absurd hr (by rw [h]; simp), fun j hj => ?_⟩
    by_cases hji : j = i
    · subst hji; exact hy.wpOp hi hS ⟨fun _ => hS, H⟩
    · have hjN : j < N := by
        rcases Nat.lt_or_ge j N with h | h
        · exact h
        · exact absurd hj (tail_waits hs hc hN inv _ i rfl hin hun j h)
      obtain ⟨hjun, oj, hoj, hall⟩ := mem_ready.1 hj
      have hnot : ∀ e ∈ oj.after, Region.binds md e = true → e.on ≠ i := fun e he hb heq => by
        have h2 := hall e he hb
        rw [heq, getD_both hun] at h2
        cases h2
      have h2 := wpOp_putIf hoj (hfree j oj hoj hji hjun hnot) (fun cs b => hsel i oi cs b hi) (fun cs b => hsel j oj cs b hoj) hQ hy (H.2 j (ready_mono hj hji))
      refine wpOp_mono (fun a' w' h3 => ⟨fun _ => h3.2.1 hjN, ih (listed.setIfInBounds j true) a' w' (inv.set hj hjN) (fun k ok hk hki hunk hno => ?_) (ready_mono hr (Ne.symm hji)) h3.1 (h3.2.1 hjN) ?_⟩) h2
      · refine hfree k ok hk hki ?_ hno
        by_cases hjk : j = k
        · subst hjk; exact hjun
        · rw [getD_set_ne true hjk] at hunk; exact hunk
      · rw [Array.setIfInBounds_comm _ _ hji]
        exact h3.2.2
/-- What only reads, in the order of the text. -/
def wpHeld (P : Program) (ops : Array Oper) (S : World → Prop) (K : Act → Prop) : List Oper → Act → Prop
  | [], a => K a
  | o :: rest, a => ∃ v, YieldsIf P ops S o v a ∧ wpHeld P ops S K rest (a.put o.dst v)
theorem wpHeld_step {K : Act → Prop} {o : Oper} {rest : List Oper} {a : Act} {v : Value} (hw : Region.wanted o (yielded ops a.tmps) = true) (hy : ∀ w, S w → (execOp a.eval o).run P w = .ok (.value v) w) (h : wpHeld P ops S K rest (a.put o.dst v)) : wpHeld P ops S K (o :: rest) a :=
  ⟨v, .inl ⟨hw, hy⟩, h⟩
theorem wpHeld_nil {K : Act → Prop} {a : Act} (h : K a) : wpHeld P ops S K [] a := h
/-- The rest, in the order of the text: S holds behind the first m of them. -/
def wpListS (P : Program) (ops : Array Oper) (Q : Exit → Act → World → Prop) (S : World → Prop) : Nat → List Oper → Act → World → Prop
  | m + 1, o :: rest, a, w => if Region.wanted o (yielded ops a.tmps) then o.wp P a w (fun a' w' => S w' ∧ wpListS P ops Q S m rest a' w') Q ∨ (o.asks P a w ∧ LetsOut Q) else S w ∧ wpListS P ops Q S m rest (a.put o.dst undef) w
  | _, l, a, w => wpList P ops Q l a w
theorem wpListS_zero {l : List Oper} {a : Act} {w : World} (h : wpList P ops Q l a w) : wpListS P ops Q S 0 l a w := by
  unfold wpListS; exact h
theorem wpListS_step {m : Nat} {o : Oper} {rest : List Oper} {a : Act} {w : World} (h : ∀ K : Act → World → Prop, Shut (∀ a w, S w → wpListS P ops Q S m rest a w → K a w) → if Region.wanted o (yielded ops a.tmps) = true then Oper.wp P o a w K Q else K (a.put o.dst undef) w) : wpListS P ops Q S (m + 1) (o :: rest) a w := by
  have h1 := h (fun a' w' => S w' ∧ wpListS P ops Q S m rest a' w') (fun a' w' h2 h3 => ⟨h2, h3⟩)
  unfold wpListS
  by_cases hw : Region.wanted o (yielded ops a.tmps) = true
  · rw [if_pos hw] at h1 ⊢
    exact .inl h1
  · rw [if_neg hw] at h1 ⊢
    exact h1
theorem wpAnyE_seq {N : Nat} : ∀ (l : List Oper) (m k : Nat) (listed : Array Bool) (a : Act) (w : World), (∀ j, l[j]? = ops[k + j]?) → k + m = N →
    Region.seqB md ops l.length k listed = true → wpListS P ops Q S m l a w → wpAnyE P md ops Q S N l.length listed a w
  | [], m, _, _, a, w, _, _, hB, h => by
    have h2 : wpList P ops Q [] a w := by
      cases m <;> (unfold wpListS at h; exact h)
    exact ⟨by simpa [Region.seqB] using hB, h2⟩
  | o :: l, m, k, listed, a, w, hl, hm, hB, h => by
    have h0 : ops[k]? = some o := by simpa using (hl 0).symm
    have hl' : ∀ j, l[j]? = ops[k + 1 + j]? := fun j => by have := hl (j + 1); simpa [Nat.add_assoc, Nat.add_comm 1 j] using this
    simp only [List.length_cons, Region.seqB, Bool.and_eq_true, decide_eq_true_eq] at hB
    refine ⟨fun h1 => (by rw [hB.1] at h1; cases h1), fun i hi => ?_⟩
    rw [hB.1] at hi
    have hik : i = k := by simpa using hi
    subst hik
    cases m with
    | zero =>
      unfold wpListS at h
      have hw : wpOp P ops Q i (wpList P ops Q l) a w := by unfold wpOp; simp only [h0]; exact h
      refine wpOp_mono (fun a' w' h' => ⟨fun hlt => (by omega), ?_⟩) hw
      -- N = i: nothing more is asked of S
      exact wpAnyE_late l (i + 1) _ a' w' (by omega) hl' hB.2 h'
    | succ m =>
      have hw : wpOp P ops Q i (fun a' w' => S w' ∧ wpListS P ops Q S m l a' w') a w := by unfold wpOp; simp only [h0]; unfold wpListS at h; exact h
      exact wpOp_mono (fun a' w' h' => ⟨fun _ => h'.1, wpAnyE_seq l m (i + 1) _ a' w' hl' (by omega) hB.2 h'.2⟩) hw
where
  wpAnyE_late {N : Nat} : ∀ (l : List Oper) (k : Nat) (listed : Array Bool) (a : Act) (w : World), N ≤ k → (∀ j, l[j]? = ops[k + j]?) →
      Region.seqB md ops l.length k listed = true → wpList P ops Q l a w → wpAnyE P md ops Q S N l.length listed a w
    | [], _, _, _, _, _, _, hB, h => ⟨by simpa [Region.seqB] using hB, h⟩
    | o :: l, k, listed, a, w, hk, hl, hB, h => by
      have h0 : ops[k]? = some o := by simpa using (hl 0).symm
      have hl' : ∀ j, l[j]? = ops[k + 1 + j]? := fun j => by have := hl (j + 1); simpa [Nat.add_assoc, Nat.add_comm 1 j] using this
      simp only [List.length_cons, Region.seqB, Bool.and_eq_true, decide_eq_true_eq] at hB
      refine ⟨fun h1 => (by rw [hB.1] at h1; cases h1), fun i hi => ?_⟩
      rw [hB.1] at hi
      have hik : i = k := by simpa using hi
      subst hik
      have hw : wpOp P ops Q i (wpList P ops Q l) a w := by unfold wpOp; simp only [h0]; exact h
      exact wpOp_mono (fun a' w' h' => ⟨fun hlt => (by omega), wpAnyE_late l (i + 1) _ a' w' (by omega) hl' hB.2 h'⟩) hw
theorem wpAnyE_lex {N g n m : Nat} (hsel : Region.noSelect ops = true) (hQ : ∀ d c v (a : Act) w, Q (.panic c) (a.put d v) w → Q (.panic c) a w) (hs : Region.sinkB md ops N = true) (hc : Region.chainB md ops N = true) (hN : N < ops.size) (hm : n + m = N) (tl : List Oper) (htl : ∀ j, tl[j]? = ops[n + j]?) (hg : tl.length = g) :
    ∀ (l : List Oper) (k : Nat) (listed : Array Bool) (a : Act) (w : World), (∀ j, j < l.length → l[j]? = ops[k + j]?) → k + l.length = n → HeadInv md ops N listed →
    Region.lexHead md ops g l.length k listed = true → S w → wpHeld P ops S (fun a' => wpListS P ops Q S m tl a' w) l a →
    wpAnyE P md ops Q S N (l.length + g) listed a w
  | [], k, listed, a, w, hl, hk, inv, hB, hS, h => by
    have hkn : k = n := by simpa using hk
    subst hkn
    subst hg
    simp only [List.length_nil, Nat.zero_add]
    exact wpAnyE_seq tl m k listed a w htl hm (by simpa [Region.lexHead] using hB) h
  | o :: l, k, listed, a, w, hl, hk, inv, hB, hS, h => by
    have h0 : ops[k]? = some o := by simpa using (hl 0 (by simp)).symm
    simp only [List.length_cons, Region.lexHead, Bool.and_eq_true] at hB
    obtain ⟨⟨hr, hf⟩, hB'⟩ := hB
    have hkn : k < n := by simp only [List.length_cons] at hk; omega
    have hr' : k ∈ Region.ready md ops listed := by simpa using hr
    obtain ⟨v, hy, hK⟩ := h
    have e : (o :: l).length + g = (l.length + g) + 1 := by simp only [List.length_cons]; omega
    rw [e]
    exact wpAnyE_first h0 (Region.noSelect_spec hsel) (fun c a w => hQ _ c _ a w) hs hc hN (by omega) (l.length + g) listed a w inv (Region.free_spec h0 hf) hr' hy hS
      (wpAnyE_lex hsel hQ hs hc hN hm tl htl hg l (k + 1) _ _ w (fun j hj => by have := hl (j + 1) (by simp; omega); simpa [Nat.add_assoc, Nat.add_comm 1 j] using this) (by simp only [List.length_cons] at hk; omega) (inv.set hr' (by omega)) hB' hS hK)
def heldTailB (md : Region.Mode) (ops : Array Oper) (n m : Nat) : Bool :=
  Region.noSelect ops && decide (n + m < ops.size) && Region.sinkB md ops (n + m) && Region.chainB md ops (n + m) && Region.lexHead md ops (ops.size - n) n 0 (Array.replicate ops.size false)
/-- The first n operations only read, under S; behind each of the next m of them S is shown anew; the rest as it stands. -/
theorem wp_region_held_tail {id : Nat} {a : Act} {w : World} {l : List Oper} (n m : Nat) (S : World → Prop) (hm : P.follows .mixedOrders = true) (hB : heldTailB .any l.toArray n m = true) (hQ : ∀ d c v (a : Act) w, Q (.panic c) (a.put d v) w → Q (.panic c) a w)
    (hS : S w.drew) (h : wpHeld P l.toArray S (fun a' => wpListS P l.toArray Q S m (l.drop n) a' w.drew) (l.take n) a) : (Code.region id l.toArray true).wp P Q a w := by
  simp only [heldTailB, Bool.and_eq_true, decide_eq_true_eq] at hB
  obtain ⟨⟨⟨⟨hsel, hn⟩, hs⟩, hc⟩, hlex⟩ := hB
  have hn' : n + m < l.length := by simpa using hn
  have htl : (l.take n).length = n := by simp; omega
  have hdl : (l.drop n).length = l.toArray.size - n := by simp
  have inv0 : HeadInv .any l.toArray (n + m) (Array.replicate l.toArray.size false) :=
    ⟨by simp, fun j oj _ hl => (by rw [getD_replicate_false] at hl; cases hl), fun t _ ht => getD_in (by simpa using ht) (getD_replicate_false _ _)⟩
  refine wp_region_any hm (wpAny_of_E (S := S) (N := n + m) _ _ _ _ ?_)
  have H := wpAnyE_lex (P := P) (Q := Q) (md := .any) (S := S) (N := n + m) (g := l.toArray.size - n) (n := n) (m := m) hsel hQ hs hc hn rfl (l.drop n) (fun j => by simp [List.getElem?_drop]) hdl (l.take n) 0 _ a w.drew (fun j hj => by
    have hj' : j < n := by rw [htl] at hj; exact hj
    simp [hj']) (by simpa using htl) inv0 (by rw [htl]; exact hlex) hS h
  rw [htl, show n + (l.toArray.size - n) = l.toArray.size by simp; omega] at H
  exact H
end
end Go.Proofs.Ytjgelmfkoefclaa.PAll
