-- Written by a program of this session (wip/tools/hookprint.py, over the print); Lean checks it.
import Derived.Test.YtjgelmfkoefclaaPAllx0
import Derived.Test.YtjgelmfkoefclaaGivTidy
namespace Go.Proofs.Ytjgelmfkoefclaa.PAll
open Go.RowKit Go.Proofs.YtjgelmfkoefclaaW.PrintWords Go.Proofs.YtjgelmfkoefclaaW.PrintLast Go.Proofs.YtjgelmfkoefclaaW.PrintMore
attribute [local go_sem] max2_int min2_int max_two min_two max_three min_three max_four min_four   -- for this text's walks alone
set_option linter.unusedVariables false
set_option linter.unusedSimpArgs false

/- GIVEN: Derived.Test.YtjgelmfkoefclaaGivTidy
def chain_Tidy.f
theorem chain_Tidy.mono
theorem chain_Tidy.calls
-/
end Go.Proofs.Ytjgelmfkoefclaa.PAll
