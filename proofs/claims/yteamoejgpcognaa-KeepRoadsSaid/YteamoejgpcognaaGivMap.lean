import Derived.Test.YteamoejgpcognaaProg
import Derived.Below
import Derived.Deep.Draws
import Derived.Deep.AppendLies
import Derived.Maps.AppendAt
import Derived.OwnWalk
import Derived.Laws.BytesArg
import Derived.Laws.MakeOwn
import Derived.Laws.OwnMore
import Derived.Deep.OwnRows
import Derived.Tactics
import Derived.Lib.ConvBytes
import Derived.Laws.Slices
import Derived.WalkKit
import Derived.KernelRfl
import Derived.RowKit3
import Derived.Deep.LoopGhost
import Derived.Deep.QuietTactic
import Derived.BigQuiet
import Derived.WideLaws
import Derived.Deep.DeepCutAuto
import Derived.Deep.CutBlock
import Derived.Deep.RegionHeld3
import Derived.Laws.Rows
import Derived.Lib.AppendStr
import Derived.ArgAppend
import Derived.Laws.IdiomCopy
import Derived.OrdersHeld
import Derived.Laws.BitsLemmas
import Derived.RowKit
import Derived.Test.YteamoejgpcognaaWWords
import Derived.Test.YteamoejgpcognaaWLast
import Derived.Test.YteamoejgpcognaaWTab
import Derived.Test.YteamoejgpcognaaWFour
import Derived.Test.YteamoejgpcognaaWQPut
import Derived.Test.YteamoejgpcognaaWApart
import Derived.Test.YteamoejgpcognaaWArr
import Derived.Test.YteamoejgpcognaaWZeros
import Derived.Test.YteamoejgpcognaaWFoot
import Derived.Test.YteamoejgpcognaaWKept
import Derived.Test.YteamoejgpcognaaWShare
import Derived.Test.YteamoejgpcognaaWN
import Derived.Test.YteamoejgpcognaaWFootNe
import Derived.Test.YteamoejgpcognaaWAt
import Derived.Test.YteamoejgpcognaaWEqStruct
import Derived.Test.YteamoejgpcognaaWRepsOne
import Derived.Test.YteamoejgpcognaaWInv
import Derived.Test.YteamoejgpcognaaWInvWords
import Derived.Test.YteamoejgpcognaaWGuard
import Derived.Test.YteamoejgpcognaaWNEv
import Derived.Test.YteamoejgpcognaaWMore
import Derived.Maps.OwnOps
import Derived.Maps.Views
import Derived.Outline
import Derived.Test.YteamoejgpcognaaPAllx14
import Derived.Test.YteamoejgpcognaaGivPlace
namespace Go.Proofs.Yteamoejgpcognaa.PAll
open Go.RowKit Go.Proofs.YteamoejgpcognaaW.PrintWords Go.Proofs.YteamoejgpcognaaW.PrintLast Go.Proofs.YteamoejgpcognaaW.PrintMore
set_option linter.unusedVariables false
set_option linter.unusedSimpArgs false
open Go.Maps

theorem law3 : Keyed Try.prog 3 := int_keyed Try.underlying3
theorem zero3 (w : World) : (zeroValue 3).run Try.prog w = .ok (.int .i64 0) w := by kernel_rfl

/-- Block B is a map that counts. -/
def Cnt (w : World) (B n : Nat) (f : Int → Int) : Prop :=
  ∃ D : DataW Unit, w.ownsMap Try.prog 3 (plainElem Try.prog 3) B n D ∧ IsMap D ∧ ∀ x, D.atKey (.int .i64 x) (.lit (.int .i64 0)) = .lit (.int .i64 (f x))
theorem cnt_made (w : World) : Cnt (w.alloc (.map #[] 0)) w.heap.size 0 (fun _ => 0) := ⟨_, World.ownsMap_made _ _ _ _, isMap_empty, fun _ => rfl⟩
theorem Cnt.lt {w : World} {B n : Nat} {f : Int → Int} (h : Cnt w B n f) : B < w.heap.size := by obtain ⟨D, h, _⟩ := h; exact h.lt
theorem Cnt.same {w w' : World} {B n : Nat} {f : Int → Int} (h : Cnt w B n f) (hs : w'.heap[B]? = w.heap[B]?) : Cnt w' B n f := by
  obtain ⟨D, ⟨es, clock, hb, r⟩, h2⟩ := h
  exact ⟨D, ⟨es, clock, hs.trans hb, r⟩, h2⟩
theorem Cnt.below {w w' : World} {B n : Nat} {f : Int → Int} (h : Cnt w B n f) (hb : Below w.heap.size w w') : Cnt w' B n f := h.same (hb.block B h.lt)
theorem Cnt.alloc {w : World} {B n : Nat} {f : Int → Int} (h : Cnt w B n f) (o : Obj) : Cnt (w.alloc o) B n f := h.below ((Below.refl _ _).alloc (Nat.le_refl _) o)
theorem Cnt.grown {w w' : World} {B n : Nat} {f : Int → Int} (h : Cnt w B n f) {row : Option Nat} (hg : w.grownBy w' row) (hne : some B ≠ row) : Cnt w' B n f := h.same (hg.block B h.lt hne)
theorem Cnt.look {w : World} {B n : Nat} {f : Int → Int} (h : Cnt w B n f) (x : Int) (hx : (Lit.int .i64 x).wf = true) : (Instr.lookup 74 (.map (some B)) (.int .i64 x) false).run Try.prog w = .ok (.int .i64 (f x)) w := by
  obtain ⟨D, ho, _, hf⟩ := h
  obtain ⟨c, hrun, hat, _⟩ := ho.lookup_int law3 Try.underlying74 Try.underlying3 (zero3 _) (keyOf_int_mk Try.underlying3 hx)
  rw [hf] at hat
  injection hat with hat
  injection hat with _ hat
  rw [hat]; exact hrun
theorem Cnt.put {w : World} {B n : Nat} {f : Int → Int} (h : Cnt w B n f) (hn : n < maxLen) (x : Int) (hx : (Lit.int .i64 x).wf = true) (y : Int) (hy : (Lit.int .i64 y).wf = true) :
    ∃ w', (Instr.mapUpdate 74 (.map (some B)) (.int .i64 x) (.int .i64 y)).run Try.prog w = .ok () w' ∧ Cnt w' B (n + 1) (fun z => if z = x then y else f z) ∧ w.grownBy w' (some B) := by
  obtain ⟨D, ho, hm, hf⟩ := h
  obtain ⟨w', hrun, ho', hg⟩ := ho.update law3 Try.underlying74 hn (keyOf_int_mk Try.underlying3 hx) (plainElem_int (H := Unit) Try.underlying3 hy)
  refine ⟨w', hrun, ⟨_, ho', hm.put _ _, fun z => ?_⟩, hg⟩
  show _ = DataW.lit (.int .i64 (if z = x then y else f z))
  by_cases hz : z = x
  · subst hz; rw [if_pos rfl]; exact atKey_put_same hm (by simp [WideAt.IsKeyLit]) _ _
  · rw [if_neg hz, ← hf z]; exact atKey_put_other (fun e => hz (by injection e)) _ _
end Go.Proofs.Yteamoejgpcognaa.PAll
