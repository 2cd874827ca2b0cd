/- Contracts of Go functions: what each returns is what the Lean function of its name computes. Conditions: its arguments read as that function's arguments. Written by this session's program print2.py (the kit's print, with changes of this session's). -/
import Derived.Test.YtldbmljooafkcaaProg
import Derived.Below
import Derived.Deep.Draws
import Derived.Deep.AppendLies
import Derived.Maps.AppendAt
import Derived.OwnWalk
import Derived.Laws.BytesArg
import Derived.Laws.MakeOwn
import Derived.Laws.OwnMore
import Derived.Deep.OwnRows
import Derived.Tactics
import Derived.Lib.ConvBytes
import Derived.Laws.Slices
import Derived.WalkKit
import Derived.KernelRfl
import Derived.RowKit3
import Derived.Deep.LoopGhost
import Derived.Deep.QuietTactic
import Derived.BigQuiet
import Derived.WideLaws
import Derived.Deep.DeepCutAuto
import Derived.Deep.CutBlock
import Derived.Deep.RegionHeld3
import Derived.Laws.Rows
import Derived.Lib.AppendStr
import Derived.ArgAppend
import Derived.Laws.IdiomCopy
import Derived.OrdersHeld
import Derived.Laws.BitsLemmas
import Derived.RowKit
import Derived.Test.YtldbmljooafkcaaWWords
import Derived.Test.YtldbmljooafkcaaWLast
import Derived.Test.YtldbmljooafkcaaWTab
import Derived.Test.YtldbmljooafkcaaWFour
import Derived.Test.YtldbmljooafkcaaWQPut
import Derived.Test.YtldbmljooafkcaaWApart
import Derived.Test.YtldbmljooafkcaaWArr
import Derived.Test.YtldbmljooafkcaaWZeros
import Derived.Test.YtldbmljooafkcaaWFoot
import Derived.Test.YtldbmljooafkcaaWKept
import Derived.Test.YtldbmljooafkcaaWShare
import Derived.Test.YtldbmljooafkcaaWN
import Derived.Test.YtldbmljooafkcaaWFootNe
import Derived.Test.YtldbmljooafkcaaWAt
import Derived.Test.YtldbmljooafkcaaWEqStruct
import Derived.Test.YtldbmljooafkcaaWRepsOne
import Derived.Test.YtldbmljooafkcaaWInv
import Derived.Test.YtldbmljooafkcaaWInvWords
import Derived.Test.YtldbmljooafkcaaWGuard
import Derived.Test.YtldbmljooafkcaaWNEv
import Derived.Test.YtldbmljooafkcaaWMore
import Derived.Test.YtldbmljooafkcaaMine
import Derived.Sort.OwnSortedInts
import Derived.Lib.OwnBridge
import Derived.Lib.RowBridge
import Derived.Test.YtldbmljooafkcaaShelf
namespace Go.Proofs.Ytldbmljooafkcaa.PFnExactMergePatterns
open Go.RowKit Go.Proofs.YtldbmljooafkcaaW.PrintWords Go.Proofs.YtldbmljooafkcaaW.PrintLast Go.Proofs.YtldbmljooafkcaaW.PrintMore
attribute [local go_sem] max2_int min2_int max_two min_two max_three min_three max_four min_four   -- for this text's walks alone
set_option linter.unusedVariables false
set_option linter.unusedSimpArgs false



def errW : Option Int → Value
 | none => .nilIface
 | some c => .iface 0 (.int .i64 c)
theorem errW_none : errW none = .nilIface := rfl
theorem errW_some (c : Int) : errW (some c) = .iface 0 (.int .i64 c) := rfl

theorem info3 : (Try.prog.info? 3).map (fun i => (i.zero, i.size, i.bytes)) = some (some (.int .i64 0), 1, 8) := by kernel_rfl
-- the values' own types

end Go.Proofs.Ytldbmljooafkcaa.PFnExactMergePatterns
