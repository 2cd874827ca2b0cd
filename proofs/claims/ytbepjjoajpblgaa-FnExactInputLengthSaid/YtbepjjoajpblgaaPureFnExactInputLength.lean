/-
  The program's InputLength and the reference's agree at every count.
  Conditions: none beyond the given statement's own.
-/
import Derived.Test.YtbepjjoajpblgaaPFnExactInputLengthx1
set_option linter.unusedVariables false
set_option linter.unusedSimpArgs false
namespace Go.Proofs.Ytbepjjoajpblgaa.Pure
open Go.RowKit Go.Proofs.Ytbepjjoajpblgaa.PFnExactInputLength Go.Proofs.YtbepjjoajpblgaaW.PrintWords Go.Proofs.YtbepjjoajpblgaaW.PrintLast

theorem in_some (x a b : Int) : impl_InRange.f x a b = some (decide (a ≤ x ∧ x ≤ b)) := by
  unfold impl_InRange.f
  by_cases h : a ≤ x <;> simp [h]

theorem l1_some (x a b : Int) : spec_l1In.f x a b = some (decide (a ≤ x ∧ x ≤ b)) := by
  unfold spec_l1In.f
  by_cases h : a ≤ x <;> simp [h]

theorem FnExactInputLength : laws_FnExactInputLength.Pure := by
  intro a0 _
  refine ⟨1, ?_⟩
  unfold laws_FnExactInputLength.f spec_InputLength.f impl_InputLength.f
  by_cases h : a0 < 0
  · simp [h, impl_InputLength.j0]
  · rw [if_neg h, if_neg h]
    by_cases h2 : Int.tmod a0 2 = 0
    · rw [if_pos h2]
      simp only [impl_InputLength.j0, in_some, l1_some, Option.bind_some, h2]
      generalize (wrap64 (Int.tdiv a0 2)) = y
      by_cases h3 : 0 ≤ wrap64 (y - 2) ∧ wrap64 (y - 2) ≤ 1000 <;> simp [h3]
    · rw [if_neg h2]
      have hb : (Int.tmod a0 2 != 0) = true := by rw [bne_iff_ne]; exact h2
      simp [impl_InputLength.j0, hb]

end Go.Proofs.Ytbepjjoajpblgaa.Pure
