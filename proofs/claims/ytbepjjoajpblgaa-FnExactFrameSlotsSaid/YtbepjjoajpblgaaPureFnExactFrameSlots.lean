/-
  The program's FrameSlots and the reference's agree at every rate and number of bytes.
  Conditions: none beyond the given statement's own.
-/
import Derived.Test.YtbepjjoajpblgaaPFnExactFrameSlotsx1
set_option linter.unusedVariables false
set_option linter.unusedSimpArgs false
namespace Go.Proofs.Ytbepjjoajpblgaa.Pure
open Go.RowKit Go.Proofs.Ytbepjjoajpblgaa.PFnExactFrameSlots Go.Proofs.YtbepjjoajpblgaaW.PrintWords Go.Proofs.YtbepjjoajpblgaaW.PrintLast

theorem in_some (x a b : Int) : impl_InRange.f x a b = some (decide (a ≤ x ∧ x ≤ b)) := by
  unfold impl_InRange.f
  by_cases h : a ≤ x <;> simp [h]

theorem l1_some (x a b : Int) : spec_l1In.f x a b = some (decide (a ≤ x ∧ x ≤ b)) := by
  unfold spec_l1In.f
  by_cases h : a ≤ x <;> simp [h]

theorem rate_some (a : Int) : impl_IsValidRateIndex.f a = some (decide (0 ≤ a ∧ a ≤ 3)) := by
  simp [impl_IsValidRateIndex.f, in_some]
theorem srate_some (a : Int) : spec_IsValidRateIndex.f a = some (decide (0 ≤ a ∧ a ≤ 3)) := by
  simp [spec_IsValidRateIndex.f, l1_some]

theorem bps_same (a : Int) (h : 0 ≤ a ∧ a ≤ 3) : spec_BytesPerSlot.f a = impl_BytesPerSlot.f a := by
  have hc : a = 0 ∨ a = 1 ∨ a = 2 ∨ a = 3 := by omega
  rcases hc with rfl | rfl | rfl | rfl <;> rfl
theorem bps_some (a : Int) : ∃ r, impl_BytesPerSlot.f a = some r ∧ 0 ≤ r ∧ r ≤ 24 := by
  unfold impl_BytesPerSlot.f
  repeat' split
  all_goals exact ⟨_, rfl, by decide, by decide⟩
theorem ceil_same (a b : Int) : spec_CeilDiv.f a b = impl_CeilDiv.f a b := by
  unfold spec_CeilDiv.f impl_CeilDiv.f
  simp only [in_some, l1_some]
theorem ceil_some (a b : Int) : ∃ r, impl_CeilDiv.f a b = some r := by
  unfold impl_CeilDiv.f
  simp only [in_some, Option.bind_some]
  repeat' split
  all_goals first
    | exact ⟨_, rfl⟩
    | (exfalso; simp_all)
theorem slots_same (a b : Int) : spec_FrameSlots.f 1 a b = impl_FrameSlots.f 1 a b := by
  unfold spec_FrameSlots.f impl_FrameSlots.f
  simp only [rate_some, srate_some, in_some, l1_some, Option.bind_some, spec_FrameSlots.j0, impl_FrameSlots.j0]
  by_cases h : 0 ≤ a ∧ a ≤ 3
  · rw [bps_same a h]
    simp only [ceil_same]
  · simp [h]
theorem slots_some (a b : Int) : ∃ r, impl_FrameSlots.f 1 a b = some r := by
  obtain ⟨r, hr, _⟩ := bps_some a
  obtain ⟨c, hc⟩ := ceil_some b r
  unfold impl_FrameSlots.f
  simp only [rate_some, in_some, Option.bind_some, impl_FrameSlots.j0, hr, hc]
  repeat' split
  all_goals exact ⟨_, rfl⟩

theorem FnExactFrameSlots : laws_FnExactFrameSlots.Pure := by
  intro a0 a1 _ _
  obtain ⟨r, hr⟩ := slots_some a0 a1
  refine ⟨1, ?_⟩
  unfold laws_FnExactFrameSlots.f
  rw [slots_same, hr]
  simp

end Go.Proofs.Ytbepjjoajpblgaa.Pure
