/-
  Words for the contracts of Go functions.
  Conditions: those of each theorem.
  This text began as the words of the kit's print; trim.py (this session's own program) left out what this seat's laws do not use.
-/
import Derived.Test.YtldbmljooafkcaaWWords
import Derived.Test.YtldbmljooafkcaaWLast
namespace Go.Proofs.YtldbmljooafkcaaW.PrintWords
open Go.RowKit
namespace Kd
section
variable {α : Type} {d : Kd α} {e base g o n cap : Nat} {ok okp : Nat → Prop} {w W : World} {v : Value} {xs : List α}
end
section
variable {α : Type} {enc : α → Value} {h1 : ∀ x, (enc x).oneCell' = true} {e base g o n cap : Nat} {ok : Nat → Prop} {W : World} {xs : List α}
end
end Kd
end Go.Proofs.YtldbmljooafkcaaW.PrintWords
