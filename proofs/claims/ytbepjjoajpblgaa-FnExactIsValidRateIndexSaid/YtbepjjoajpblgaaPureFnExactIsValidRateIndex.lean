/-
  The program's IsValidRateIndex and the reference's both answer whether the rate lies between 0 and 3.
  Conditions: none beyond the given statement's own.
-/
import Derived.Test.YtbepjjoajpblgaaPFnExactIsValidRateIndexx1
set_option linter.unusedVariables false
set_option linter.unusedSimpArgs false
namespace Go.Proofs.Ytbepjjoajpblgaa.Pure
open Go.RowKit Go.Proofs.Ytbepjjoajpblgaa.PFnExactIsValidRateIndex Go.Proofs.YtbepjjoajpblgaaW.PrintWords Go.Proofs.YtbepjjoajpblgaaW.PrintLast

theorem in_some (x a b : Int) : impl_InRange.f x a b = some (decide (a ≤ x ∧ x ≤ b)) := by
  unfold impl_InRange.f
  by_cases h : a ≤ x <;> simp [h]

theorem l1_some (x a b : Int) : spec_l1In.f x a b = some (decide (a ≤ x ∧ x ≤ b)) := by
  unfold spec_l1In.f
  by_cases h : a ≤ x <;> simp [h]

theorem FnExactIsValidRateIndex : laws_FnExactIsValidRateIndex.Pure := by
  intro a0 _
  simp [laws_FnExactIsValidRateIndex.f, spec_IsValidRateIndex.f, impl_IsValidRateIndex.f, in_some, l1_some]

end Go.Proofs.Ytbepjjoajpblgaa.Pure
