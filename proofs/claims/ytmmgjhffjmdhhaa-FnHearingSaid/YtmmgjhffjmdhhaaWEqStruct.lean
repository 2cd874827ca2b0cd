/-
  Words for the contracts of Go functions.
  Conditions: those of each theorem.
  This text began as the words of the kit's print; trim.py (this session's own program) left out what this seat's laws do not use.
-/
import Derived.Test.YtmmgjhffjmdhhaaWWords
import Derived.Laws.StructEq
namespace Go.Proofs.YtmmgjhffjmdhhaaW.PrintWords
open Go.RowKit
section
variable {P : Program} {d : Nat} {xs ys : Array Value} {f : Field} {fs : List Field} {a b : Value} {r s : Bool} {w : World}
end
end Go.Proofs.YtmmgjhffjmdhhaaW.PrintWords
