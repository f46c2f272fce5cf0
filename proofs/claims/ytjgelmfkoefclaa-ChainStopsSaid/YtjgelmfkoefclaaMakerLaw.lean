/- What gathers steps: its frames. -/
import Derived.Test.YtjgelmfkoefclaaTextLaw
import Derived.Test.YtjgelmfkoefclaaFlushLaw
import Derived.Test.YtjgelmfkoefclaaGivSort
namespace Go.Proofs.Ytjgelmfkoefclaa.PAll
open Go.RowKit Go.Proofs.YtjgelmfkoefclaaW.PrintWords Go.Proofs.YtjgelmfkoefclaaW.PrintLast Go.Proofs.YtjgelmfkoefclaaW.PrintMore
set_option linter.unusedVariables false

/-- What a call of it keeps: all below base, and windows (roll.Roll) wherever they lie. -/
structure Fm (base : Nat) (w w' : World) : Prop where
  os : w'.os = w.os
  tape : w'.tape = w.tape
  output : w'.output = w.output
  size : w.heap.size ≤ w'.heap.size
  low : ∀ k : Nat, k < base → k < w.heap.size → w'.heap[k]? = w.heap[k]?
  win : ∀ (k : Nat) (cs : Array Value), w.heap[k]? = some (Obj.cells cs 121 (0, 0)) → w'.heap[k]? = some (Obj.cells cs 121 (0, 0))
theorem Fm.refl (base : Nat) (w : World) : Fm base w w := ⟨rfl, rfl, rfl, Nat.le_refl _, fun _ _ _ => rfl, fun _ _ h => h⟩
theorem Fm.trans {base : Nat} {a b c : World} (h : Fm base a b) (k : Fm base b c) : Fm base a c :=
  ⟨k.os.trans h.os, k.tape.trans h.tape, k.output.trans h.output, Nat.le_trans h.size k.size, fun i hi hs => (k.low i hi (Nat.lt_of_lt_of_le hs h.size)).trans (h.low i hi hs), fun i cs hc => k.win i cs (h.win i cs hc)⟩
theorem Fm.of {base : Nat} {a b : World} (h : Below a.heap.size a b) : Fm base a b :=
  ⟨h.os, h.tape, h.output, h.size, fun i _ hs => h.block i hs, fun i cs hc => blk_below hc h⟩
theorem Fm.row {base : Nat} {a b : World} {row : Option Nat} (h : a.grownBy b row) (h1 : ∀ k, row = some k → base ≤ k) (h2 : ∀ (k : Nat) (cs : Array Value), row = some k → a.heap[k]? ≠ some (Obj.cells cs 121 (0, 0))) : Fm base a b :=
  ⟨h.os, h.tape, h.output, h.size, fun i hi hs => h.block i hs (fun e => by have := h1 i e.symm; omega), fun i cs hc => blk_grown hc h (fun e => h2 i cs e.symm hc)⟩
/-- It holds the steps st, and the bytes tx that are in none yet. -/
structure Mk (w : World) (base m : Nat) (vs vt : Value) (st : List S54) (tx : ByteArray) : Prop where
  le : base ≤ m
  b : w.heap[m]? = some (.cells #[vs, vt] 96 (0, 0))
  r : Kd.R k54 54 w base (fun _ => True) vs st
  t : Tx w base vt tx
theorem blk2 {w : World} {g : Nat} {t : TypeId} {c0 c1 : Value} (h : w.heap[g]? = some (.cells #[c0, c1] t (0, 0))) : w.cell? ⟨g, 0, none⟩ = some c0 ∧ w.cell? ⟨g, 1, none⟩ = some c1 ∧ w.frozen? ⟨g, 0, none⟩ = false ∧ w.frozen? ⟨g, 1, none⟩ = false :=
  ⟨(blk_cell h 0).trans rfl, (blk_cell h 1).trans rfl, blk_frozen h 0, blk_frozen h 1⟩
section
variable {w w' : World} {base m : Nat} {vs vt : Value} {st : List S54} {tx : ByteArray}
theorem Mk.below (h : Mk w base m vs vt st tx) (hb : Below w.heap.size w w') : Mk w' base m vs vt st tx :=
  ⟨h.le, blk_below h.b hb, Kd.R_below h.r hb, h.t.below hb⟩
/-- The steps' row has been written. -/
theorem Mk.putS (h : Mk w base m vs vt st tx) {v1 : Value} {w1 : World} {st1 : List S54} (hR : Kd.R k54 54 w1 base (fun _ => True) v1 st1) (hG : w.grownBy w1 vs.ownBlock) :
    Mk (w1.setCell ⟨m, 0, none⟩ v1) base m v1 vt st1 tx ∧ Fm base w (w1.setCell ⟨m, 0, none⟩ v1) := by
  have hm1 : some m ≠ vs.ownBlock := Kd.R_ne h.r h.b (by decide)
  have hb1 := blk_grown h.b hG hm1
  have ht1 := h.t.grown hG (fun k hk e => h.t.ne (w := w) (g := k) (t' := 54) (Kd.R_typed h.r k e.symm).choose_spec (by decide) k hk rfl)
  have hgS : w1.grownBy (w1.setCell ⟨m, 0, none⟩ v1) (some m) := gb_setg _ _ _ _
  refine ⟨⟨h.le, blk_put hb1 0 _ rfl, ?_, ht1.grown hgS (fun k hk e => by
    injection e with e
    exact ht1.ne hb1 (by decide) k hk e)⟩, ?_⟩
  · exact Kd.R_set hR hb1 (by decide) 0 v1
  · refine (Fm.row hG (fun k hk => Kd.R_base h.r k hk) (fun k cs hk e => ?_)).trans (Fm.row hgS (fun k hk => by injection hk with hk; have := h.le; omega) (fun k cs hk e => ?_))
    · obtain ⟨cells, hc⟩ := Kd.R_typed h.r k hk
      rw [hc] at e; injection e with e; injection e with _ e; exact absurd e (by decide)
    · injection hk with hk; subst hk
      rw [hb1] at e; injection e with e; injection e with _ e; exact absurd e (by decide)
/-- The bytes' row has been written. -/
theorem Mk.putT (h : Mk w base m vs vt st tx) {v1 : Value} {w1 : World} {tx1 : ByteArray} (hR : Tx w1 base v1 tx1) (hG : w.grownBy w1 vt.ownBlock) :
    Mk (w1.setCell ⟨m, 1, none⟩ v1) base m vs v1 st tx1 ∧ Fm base w (w1.setCell ⟨m, 1, none⟩ v1) := by
  have hm1 : some m ≠ vt.ownBlock := fun e => h.t.ne h.b (by decide) m e.symm rfl
  have hb1 := blk_grown h.b hG hm1
  have hr1 : Kd.R k54 54 w1 base (fun _ => True) vs st := Kd.R_grown2 h.r rfl hG (fun k hk e => by
    exact h.t.ne (w := w) (g := k) (t' := 54) (Kd.R_typed h.r k e.symm).choose_spec (by decide) k hk rfl)
  have hgS : w1.grownBy (w1.setCell ⟨m, 1, none⟩ v1) (some m) := gb_setg _ _ _ _
  refine ⟨⟨h.le, blk_put hb1 1 _ rfl, Kd.R_set hr1 hb1 (by decide) 1 v1, hR.grown hgS (fun k hk e => by
    injection e with e
    exact hR.ne hb1 (by decide) k hk e)⟩, ?_⟩
  refine (Fm.row hG (fun k hk => (h.t.lt k hk).1) (fun k cs hk e => h.t.ne e (by decide) k hk rfl)).trans (Fm.row hgS (fun k hk => by injection hk with hk; have := h.le; omega) (fun k cs hk e => ?_))
  injection hk with hk; subst hk
  rw [hb1] at e; injection e with e; injection e with _ e; exact absurd e (by decide)
end
end Go.Proofs.Ytjgelmfkoefclaa.PAll
