/-
  Words for the contracts of Go functions.
  Conditions: those of each theorem.
  This text began as the words of the kit's print; trim.py (this session's own program) left out what this seat's laws do not use.
-/
import Derived.Test.YtldbmljooafkcaaWInv
import Derived.Test.YtldbmljooafkcaaWFootNe
namespace Go.Proofs.YtldbmljooafkcaaW.PrintWords
open Go.RowKit
end Go.Proofs.YtldbmljooafkcaaW.PrintWords
namespace Go.Proofs.YtldbmljooafkcaaW.PrintLast
section
variable {ops : Array Oper} {a : Act} {o og : Oper} {g : Nat} {t : Tmp} {u : Bool}
end
end Go.Proofs.YtldbmljooafkcaaW.PrintLast
