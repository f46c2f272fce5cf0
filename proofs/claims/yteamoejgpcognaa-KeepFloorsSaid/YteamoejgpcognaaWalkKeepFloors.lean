import Derived.Test.YteamoejgpcognaaRead
import Derived.OpenShut
import Derived.Test.YteamoejgpcognaaPAllx32
import Derived.Test.YteamoejgpcognaaPureKeepFloors
namespace Go.Proofs.Yteamoejgpcognaa.keepFloors
open Go.RowKit
open Go.Proofs.YteamoejgpcognaaW.PrintWords
open Go.Proofs.YteamoejgpcognaaW.PrintLast
open Go.Proofs.YteamoejgpcognaaW.PrintMore
open Go.Proofs.Yteamoejgpcognaa.PAll
open Go.Proofs.Yteamoejgpcognaa
set_option linter.unusedVariables false
set_option linter.unusedSimpArgs false
theorem walked (a0_0 : Int) (a0_1 : Int) (a1 : Int) (a2 : Int) (W : World) (w0_0 : (Lit.int .i64 a0_0).wf = true) (w0_1 : (Lit.int .i64 a0_1).wf = true) (w1 : (Lit.int .i64 a1).wf = true) (w2 : (Lit.int .i64 a2).wf = true) :
    Calls Try.prog 6 #[.agg #[.int .i64 a0_0, .int .i64 a0_1], .int .i64 a1, .int .i64 a2] W fun e w' => e = .returned (.bool true) ∧ Below W.heap.size W w' := by
  exact (barquelaw12_KeepFloors.calls 43 a0_0 a0_1 a1 a2 true W (Pure.KeepFloors a0_0 a0_1 a1 a2 (bounds_i64 w1).2))
end Go.Proofs.Yteamoejgpcognaa.keepFloors
