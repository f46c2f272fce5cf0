-- Written by a program of this session (wip/tools/hookprint.py, over the print); Lean checks it.
import Derived.Test.YteamoejgpcognaaPAllx0
import Derived.Test.YteamoejgpcognaaGivTidy
namespace Go.Proofs.Yteamoejgpcognaa.PAll
open Go.RowKit Go.Proofs.YteamoejgpcognaaW.PrintWords Go.Proofs.YteamoejgpcognaaW.PrintLast Go.Proofs.YteamoejgpcognaaW.PrintMore
attribute [local go_sem] max2_int min2_int max_two min_two max_three min_three max_four min_four   -- for this text's walks alone
set_option linter.unusedVariables false
set_option linter.unusedSimpArgs false

/- GIVEN: Derived.Test.YteamoejgpcognaaGivTidy
def chain_Tidy.f
theorem chain_Tidy.mono
theorem chain_Tidy.calls
-/
end Go.Proofs.Yteamoejgpcognaa.PAll
