/-
  The program's FrameDelivered and the reference's agree at every rate, quality and roll.
  Conditions: none beyond the given statement's own.
-/
import Derived.Test.YtbepjjoajpblgaaPFnExactFrameDeliveredx1
set_option linter.unusedVariables false
set_option linter.unusedSimpArgs false
namespace Go.Proofs.Ytbepjjoajpblgaa.Pure
open Go.RowKit Go.Proofs.Ytbepjjoajpblgaa.PFnExactFrameDelivered Go.Proofs.YtbepjjoajpblgaaW.PrintWords Go.Proofs.YtbepjjoajpblgaaW.PrintLast

theorem in_some (x a b : Int) : impl_InRange.f x a b = some (decide (a ≤ x ∧ x ≤ b)) := by
  unfold impl_InRange.f
  by_cases h : a ≤ x <;> simp [h]

theorem l1_some (x a b : Int) : spec_l1In.f x a b = some (decide (a ≤ x ∧ x ≤ b)) := by
  unfold spec_l1In.f
  by_cases h : a ≤ x <;> simp [h]

theorem rate_some (a : Int) : impl_IsValidRateIndex.f a = some (decide (0 ≤ a ∧ a ≤ 3)) := by
  simp [impl_IsValidRateIndex.f, in_some]
theorem srate_some (a : Int) : spec_IsValidRateIndex.f a = some (decide (0 ≤ a ∧ a ≤ 3)) := by
  simp [spec_IsValidRateIndex.f, l1_some]

theorem qual_same (a : Int) (h : 0 ≤ a ∧ a ≤ 3) : spec_RequiredQuality.f a = impl_RequiredQuality.f a := by
  have hc : a = 0 ∨ a = 1 ∨ a = 2 ∨ a = 3 := by omega
  rcases hc with rfl | rfl | rfl | rfl <;> rfl
theorem qual_some (a : Int) : ∃ r, impl_RequiredQuality.f a = some r := by
  unfold impl_RequiredQuality.f
  repeat' split
  all_goals exact ⟨_, rfl⟩
theorem FnExactFrameDelivered : laws_FnExactFrameDelivered.Pure := by
  intro a0 a1 a2 _ _ _
  obtain ⟨r, hr⟩ := qual_some a0
  unfold laws_FnExactFrameDelivered.f spec_FrameDelivered.f impl_FrameDelivered.f
  simp only [rate_some, srate_some, in_some, l1_some, Option.bind_some]
  by_cases h : 0 ≤ a0 ∧ a0 ≤ 3
  · rw [qual_same a0 h, hr]
    by_cases h1 : 0 ≤ a1 ∧ a1 ≤ 100
    · by_cases h2 : 0 ≤ a2 ∧ a2 ≤ 99
      · by_cases h3 : wrap64 (a1 - r) ≥ 0 <;> simp [h, h1, h2, h3]
      · simp [h, h1, h2]
    · simp [h, h1]
  · simp [h]

end Go.Proofs.Ytbepjjoajpblgaa.Pure
