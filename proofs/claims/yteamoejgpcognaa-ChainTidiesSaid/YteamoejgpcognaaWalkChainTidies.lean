import Derived.Test.YteamoejgpcognaaRead
import Derived.OpenShut
import Derived.Test.YteamoejgpcognaaPureTidy
namespace Go.Proofs.Yteamoejgpcognaa.chainTidies
open Go.RowKit
open Go.Proofs.YteamoejgpcognaaW.PrintWords
open Go.Proofs.YteamoejgpcognaaW.PrintLast
open Go.Proofs.YteamoejgpcognaaW.PrintMore
open Go.Proofs.Yteamoejgpcognaa.PAll
open Go.Proofs.Yteamoejgpcognaa
set_option linter.unusedVariables false
set_option linter.unusedSimpArgs false
theorem walked (a0 : Option Addr) (c0 : Nat) (z0 : List S68) (W : World) (hc0 : z0.length ≤ c0) (hC0 : Kd.C k68 W a0 z0.length z0) (hg0 : ∀ y ∈ z0, good68 y) (hs0 : z0.length * 32 ≤ 140737488351232) :
    Calls Try.prog 3 #[.slice a0 z0.length c0] W fun e w' => e = .returned (.bool true) ∧ Below W.heap.size W w' := by
  exact barquelaw07_ChainTidies.calls 100000 a0 c0 z0 true W hC0 hc0 (Pure.ChainTidies z0 (fun x hx => ⟨bounds_i64 (hg0 x hx).1, bounds_i64 (hg0 x hx).2.1⟩))
end Go.Proofs.Yteamoejgpcognaa.chainTidies
