/-
  The program's CorrectableErrors and the reference's both answer 2.
  Conditions: none beyond the given statement's own.
-/
import Derived.Test.YtbepjjoajpblgaaPFnExactCorrectableErrorsx1
set_option linter.unusedVariables false
set_option linter.unusedSimpArgs false
namespace Go.Proofs.Ytbepjjoajpblgaa.Pure
open Go.RowKit Go.Proofs.Ytbepjjoajpblgaa.PFnExactCorrectableErrors Go.Proofs.YtbepjjoajpblgaaW.PrintWords Go.Proofs.YtbepjjoajpblgaaW.PrintLast

theorem FnExactCorrectableErrors : laws_FnExactCorrectableErrors.Pure := by
  rfl

end Go.Proofs.Ytbepjjoajpblgaa.Pure
