/-
  The program's BytesPerSlot and the reference's agree at every rate.
  Conditions: none beyond the given statement's own.
-/
import Derived.Test.YtbepjjoajpblgaaPFnExactBytesPerSlotx1
set_option linter.unusedVariables false
set_option linter.unusedSimpArgs false
namespace Go.Proofs.Ytbepjjoajpblgaa.Pure
open Go.RowKit Go.Proofs.Ytbepjjoajpblgaa.PFnExactBytesPerSlot Go.Proofs.YtbepjjoajpblgaaW.PrintWords Go.Proofs.YtbepjjoajpblgaaW.PrintLast

theorem l1_some (x a b : Int) : spec_l1In.f x a b = some (decide (a ≤ x ∧ x ≤ b)) := by
  unfold spec_l1In.f
  by_cases h : a ≤ x <;> simp [h]

theorem FnExactBytesPerSlot : laws_FnExactBytesPerSlot.Pure := by
  intro a0 _
  unfold laws_FnExactBytesPerSlot.f
  by_cases h : 0 ≤ a0 ∧ a0 ≤ 3
  · have hc : a0 = 0 ∨ a0 = 1 ∨ a0 = 2 ∨ a0 = 3 := by omega
    rcases hc with rfl | rfl | rfl | rfl <;> rfl
  · have e1 : spec_BytesPerSlot.f a0 = some 0 := by
      simp [spec_BytesPerSlot.f, spec_IsValidRateIndex.f, l1_some, h]
    have e2 : impl_BytesPerSlot.f a0 = some 0 := by
      unfold impl_BytesPerSlot.f
      rw [if_neg (by omega), if_neg (by omega), if_neg (by omega), if_neg (by omega)]
    rw [e1, e2]
    rfl

end Go.Proofs.Ytbepjjoajpblgaa.Pure
