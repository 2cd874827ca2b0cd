/-
  Words for the contracts of Go functions.
  Conditions: those of each theorem.
  This text began as the words of the kit's print; trim.py (this session's own program) left out what this seat's laws do not use.
-/
import Derived.Test.YtmmgjhffjmdhhaaWN
namespace Go.Proofs.YtmmgjhffjmdhhaaW.PrintWords
open Go.RowKit
namespace Kd
section
variable {α : Type} {d : Kd α} {e base n cap g : Nat} {ok ok' okp : Nat → Prop} {w w1 W : World} {v v1 : Value} {xs ys : List α}
end
section
variable {P : Program} {ops : Array Oper} {rest : List Oper} {o : Oper} {a : Act} {Q : Exit → Act → World → Prop} {Kc : Act → World → Prop} {α : Type}
end
end Kd
end Go.Proofs.YtmmgjhffjmdhhaaW.PrintWords
