/-
  The program's MinimumDistance and the reference's both answer 5 from 1 to 1000, else 0.
  Conditions: none beyond the given statement's own.
-/
import Derived.Test.YtbepjjoajpblgaaPFnExactMinimumDistancex1
set_option linter.unusedVariables false
set_option linter.unusedSimpArgs false
namespace Go.Proofs.Ytbepjjoajpblgaa.Pure
open Go.RowKit Go.Proofs.Ytbepjjoajpblgaa.PFnExactMinimumDistance Go.Proofs.YtbepjjoajpblgaaW.PrintWords Go.Proofs.YtbepjjoajpblgaaW.PrintLast

theorem in_some (x a b : Int) : impl_InRange.f x a b = some (decide (a ≤ x ∧ x ≤ b)) := by
  unfold impl_InRange.f
  by_cases h : a ≤ x <;> simp [h]

theorem l1_some (x a b : Int) : spec_l1In.f x a b = some (decide (a ≤ x ∧ x ≤ b)) := by
  unfold spec_l1In.f
  by_cases h : a ≤ x <;> simp [h]

theorem FnExactMinimumDistance : laws_FnExactMinimumDistance.Pure := by
  intro a0 _
  by_cases h : 1 ≤ a0 ∧ a0 ≤ 1000 <;> simp [laws_FnExactMinimumDistance.f, spec_MinimumDistance.f, impl_MinimumDistance.f, in_some, l1_some, h]

end Go.Proofs.Ytbepjjoajpblgaa.Pure
