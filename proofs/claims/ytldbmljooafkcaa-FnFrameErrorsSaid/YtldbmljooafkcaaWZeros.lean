/-
  Words for the contracts of Go functions.
  Conditions: those of each theorem.
  This text began as the words of the kit's print; trim.py (this session's own program) left out what this seat's laws do not use.
-/
import Derived.Test.YtldbmljooafkcaaWApart
import Derived.Test.YtldbmljooafkcaaWArr
namespace Go.Proofs.YtldbmljooafkcaaW.PrintWords
open Go.RowKit
section
variable {P : Program}
end
namespace Kd
section
variable {P : Program} {ops : Array Oper} {rest : List Oper} {o : Oper} {a : Act} {Q : Exit → Act → World → Prop} {Kc : Act → World → Prop} {α : Type}
end
section
variable {α : Type} {d : Kd α} {e : Nat} {w : World} {base : Nat} {ok : Nat → Prop} {v : Value} {xs : List α}
end
section
variable {P : Program} {ops : Array Oper} {rest : List Oper} {o : Oper} {a : Act} {Q : Exit → Act → World → Prop} {Kc : Act → World → Prop} {α : Type}
end
end Kd
end Go.Proofs.YtldbmljooafkcaaW.PrintWords
