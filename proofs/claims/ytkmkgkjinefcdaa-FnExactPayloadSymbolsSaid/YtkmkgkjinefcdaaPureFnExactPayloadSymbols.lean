/-
  The program's PayloadSymbols and the reference's agree at every header.
  Conditions: none beyond the given statement's own.
-/
import Derived.Test.YtkmkgkjinefcdaaPFnExactPayloadSymbolsx1
set_option linter.unusedVariables false
set_option linter.unusedSimpArgs false
namespace Go.Proofs.Ytkmkgkjinefcdaa.Pure
open Go.RowKit Go.Proofs.Ytkmkgkjinefcdaa.PFnExactPayloadSymbols Go.Proofs.YtkmkgkjinefcdaaW.PrintWords Go.Proofs.YtkmkgkjinefcdaaW.PrintLast

theorem in_some (x a b : Int) : impl_InRange.f x a b = some (decide (a ≤ x ∧ x ≤ b)) := by
  unfold impl_InRange.f
  by_cases h : a ≤ x <;> simp [h]

theorem l1_some (x a b : Int) : spec_l1In.f x a b = some (decide (a ≤ x ∧ x ≤ b)) := by
  unfold spec_l1In.f
  by_cases h : a ≤ x <;> simp [h]

theorem valid_some (a b c : Int) : impl_IsValidHeader.f a b c = some (decide ((1 ≤ a ∧ a ≤ 2) ∧ (0 ≤ b ∧ b ≤ 120) ∧ (1 ≤ c ∧ c ≤ 127))) := by
  unfold impl_IsValidHeader.f
  simp only [in_some, Option.bind_some]
  by_cases h1 : 1 ≤ a ∧ a ≤ 2 <;> by_cases h2 : 0 ≤ b ∧ b ≤ 120 <;> simp [h1, h2]
theorem svalid_some (a b c : Int) : spec_IsValidHeader.f a b c = some (decide ((1 ≤ a ∧ a ≤ 2) ∧ (0 ≤ b ∧ b ≤ 120) ∧ (1 ≤ c ∧ c ≤ 127))) := by
  unfold spec_IsValidHeader.f
  simp only [l1_some, Option.bind_some]
  by_cases h1 : 1 ≤ a ∧ a ≤ 2 <;> by_cases h2 : 0 ≤ b ∧ b ≤ 120 <;> simp [h1, h2]

theorem payload_same (a b c : Int) : spec_PayloadSymbols.f a b c = impl_PayloadSymbols.f a b c := by
  unfold spec_PayloadSymbols.f impl_PayloadSymbols.f
  simp only [valid_some, svalid_some, Option.bind_some, impl_codedSymbols.f, spec_EncodedLength.f, impl_EncodedLength.f, in_some, l1_some, spec_PuncturedLength.f, impl_PuncturedLength.f]
  repeat' split
  all_goals simp_all
theorem payload_some (a b c : Int) : ∃ r, impl_PayloadSymbols.f a b c = some r := by
  unfold impl_PayloadSymbols.f
  simp only [valid_some, Option.bind_some, impl_codedSymbols.f, impl_EncodedLength.f, in_some, impl_PuncturedLength.f]
  repeat' split
  all_goals simp
  all_goals (repeat' split)
  all_goals simp

theorem FnExactPayloadSymbols (a b c : Int) (_ : (Lit.int .i64 a).wf = true) (_ : (Lit.int .i64 b).wf = true) (_ : (Lit.int .i64 c).wf = true) :
    laws_FnExactPayloadSymbols.f a b c = some true := by
  obtain ⟨r, hr⟩ := payload_some a b c
  simp [laws_FnExactPayloadSymbols.f, laws_toPhyHeader.f, payload_same, hr]

end Go.Proofs.Ytkmkgkjinefcdaa.Pure
