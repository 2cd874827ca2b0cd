/-
  The program's EqualHeaders and the reference's agree at every two headers.
  Conditions: none beyond the given statement's own.
-/
import Derived.Test.YtbepjjoajpblgaaPFnExactEqualHeadersx2
set_option linter.unusedVariables false
set_option linter.unusedSimpArgs false
namespace Go.Proofs.Ytbepjjoajpblgaa.Pure
open Go.RowKit Go.Proofs.Ytbepjjoajpblgaa.PFnExactEqualHeaders Go.Proofs.YtbepjjoajpblgaaW.PrintWords Go.Proofs.YtbepjjoajpblgaaW.PrintLast

theorem FnExactEqualHeaders (a0 a1 a2 b0 b1 b2 : Int) (_ : (Lit.int .i64 a0).wf = true) (_ : (Lit.int .i64 a1).wf = true) (_ : (Lit.int .i64 a2).wf = true) (_ : (Lit.int .i64 b0).wf = true) (_ : (Lit.int .i64 b1).wf = true) (_ : (Lit.int .i64 b2).wf = true) :
    laws_FnExactEqualHeaders.f a0 a1 a2 b0 b1 b2 = some true := by
  simp [laws_FnExactEqualHeaders.f, laws_toPhyHeader.f, spec_EqualHeaders.f, impl_EqualHeaders.f]

end Go.Proofs.Ytbepjjoajpblgaa.Pure
