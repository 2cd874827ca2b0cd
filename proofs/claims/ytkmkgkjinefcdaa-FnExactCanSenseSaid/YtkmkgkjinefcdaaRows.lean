/-
  No cell of these rows narrows 'for every input' (looked for: loops, veiled, ifaces, maps, wideKeys, modest, calm, conditions, laid).
  DERIVED. THE GIVEN ROWS OF THIS SEAT. 12 by the template 'for every input the law returns true; each argument reads behind the call as it read before'; 0 by the template 'total and deterministic' (their statements: YtkmkgkjinefcdaaTotals.lean).
  GIVEN WITH THE SEED: the statements are not yours to turn. If you find one false, say at which input.
  Laid BY PROGRAM, IN A SANDBOX (cutbox-rows.mjs): the forced cells as the released guide's own fill.sh prints them over the translation 3640cbaea4da6601… (all of the seat's roots in one cut). By AI agents, Wed Nov 11 2026. No macro, syntax, notation, axiom, sorry.
-/
import Derived.Test.YtkmkgkjinefcdaaChecked
import GoSem.Claim
import GoSem.ClaimJoined
import GoSem.ClaimMapViews
import Derived.JoinedTies
import Derived.KernelRfl
namespace Go.Proofs.Ytkmkgkjinefcdaa
/- THE CELL 'sum', in the pinned program and in every row, IS THE sha256 OF THE DUMP (.gsa) THAT YtkmkgkjinefcdaaProg.lean LOADS. Nothing in Lean hashes anything: it is a label: what it is worth is what the hold of that sum in a sandbox is worth. -/
noncomputable def Try.pinned : Pinned := { name := "ytkmkgkjinefcdaa", sum := "3640cbaea4da6601364ffc37fa15dc1c12b650a552f2f3cfbab4acfb27fa94b2", checked := Try.checked }
namespace Rows
def none {H : Type} : Left H := { results := [], args := [] }

/-- 'laws.FnExactIsPermutation': WHATEVER THE INPUT: true; the input reads as it did. -/
def fnExactIsPermutationSpec : ChangeSpec := { name := "fnExactIsPermutation", fn := fun _ => fun
  | [d] => { results := [.lit (.bool true)], args := [d] }
  | _ => none }
def fnExactIsPermutationRow : OpenClaim := { program := "ytkmkgkjinefcdaa", sum := "3640cbaea4da6601364ffc37fa15dc1c12b650a552f2f3cfbab4acfb27fa94b2", func := "loop.example/g00511/laws.FnExactIsPermutation", spec := "fnExactIsPermutation", apart := false }
def FnExactIsPermutationSaid : Prop := fnExactIsPermutationRow.holds Try.pinned (OpenSpec.ofChange fnExactIsPermutationSpec)

/-- ITS FALSE NEIGHBOUR: 'it returns false'. Refute it at one input. -/
def fnExactIsPermutationWrong : ChangeSpec := { name := "fnExactIsPermutation", fn := fun _ => fun
  | [d] => { results := [.lit (.bool false)], args := [d] }
  | _ => none }
def FnExactIsPermutationWrongFalsely : Prop := fnExactIsPermutationRow.holds Try.pinned (OpenSpec.ofChange fnExactIsPermutationWrong)

/-- 'laws.FnExactBurstPattern': WHATEVER THE INPUT: true; the input reads as it did. -/
def fnExactBurstPatternSpec : ChangeSpec := { name := "fnExactBurstPattern", fn := fun _ => fun
  | [d1, d2] => { results := [.lit (.bool true)], args := [d1, d2] }
  | _ => none }
def fnExactBurstPatternRow : OpenClaim := { program := "ytkmkgkjinefcdaa", sum := "3640cbaea4da6601364ffc37fa15dc1c12b650a552f2f3cfbab4acfb27fa94b2", func := "loop.example/g00511/laws.FnExactBurstPattern", spec := "fnExactBurstPattern", apart := false }
def FnExactBurstPatternSaid : Prop := fnExactBurstPatternRow.holds Try.pinned (OpenSpec.ofChange fnExactBurstPatternSpec)

/-- ITS FALSE NEIGHBOUR: 'it returns false'. Refute it at one input. -/
def fnExactBurstPatternWrong : ChangeSpec := { name := "fnExactBurstPattern", fn := fun _ => fun
  | [d1, d2] => { results := [.lit (.bool false)], args := [d1, d2] }
  | _ => none }
def FnExactBurstPatternWrongFalsely : Prop := fnExactBurstPatternRow.holds Try.pinned (OpenSpec.ofChange fnExactBurstPatternWrong)

/-- 'laws.FnExactPayloadSymbols': WHATEVER THE INPUT: true; the input reads as it did. -/
def fnExactPayloadSymbolsSpec : ChangeSpec := { name := "fnExactPayloadSymbols", fn := fun _ => fun
  | [d] => { results := [.lit (.bool true)], args := [d] }
  | _ => none }
def fnExactPayloadSymbolsRow : OpenClaim := { program := "ytkmkgkjinefcdaa", sum := "3640cbaea4da6601364ffc37fa15dc1c12b650a552f2f3cfbab4acfb27fa94b2", func := "loop.example/g00511/laws.FnExactPayloadSymbols", spec := "fnExactPayloadSymbols", apart := false }
def FnExactPayloadSymbolsSaid : Prop := fnExactPayloadSymbolsRow.holds Try.pinned (OpenSpec.ofChange fnExactPayloadSymbolsSpec)

/-- ITS FALSE NEIGHBOUR: 'it returns false'. Refute it at one input. -/
def fnExactPayloadSymbolsWrong : ChangeSpec := { name := "fnExactPayloadSymbols", fn := fun _ => fun
  | [d] => { results := [.lit (.bool false)], args := [d] }
  | _ => none }
def FnExactPayloadSymbolsWrongFalsely : Prop := fnExactPayloadSymbolsRow.holds Try.pinned (OpenSpec.ofChange fnExactPayloadSymbolsWrong)

/-- 'laws.FnBursts': WHATEVER THE INPUT: true; the input reads as it did. -/
def fnBurstsSpec : ChangeSpec := { name := "fnBursts", fn := fun _ => fun
  | [d] => { results := [.lit (.bool true)], args := [d] }
  | _ => none }
def fnBurstsRow : OpenClaim := { program := "ytkmkgkjinefcdaa", sum := "3640cbaea4da6601364ffc37fa15dc1c12b650a552f2f3cfbab4acfb27fa94b2", func := "loop.example/g00511/laws.FnBursts", spec := "fnBursts", apart := false }
def FnBurstsSaid : Prop := fnBurstsRow.holds Try.pinned (OpenSpec.ofChange fnBurstsSpec)

/-- ITS FALSE NEIGHBOUR: 'it returns false'. Refute it at one input. -/
def fnBurstsWrong : ChangeSpec := { name := "fnBursts", fn := fun _ => fun
  | [d] => { results := [.lit (.bool false)], args := [d] }
  | _ => none }
def FnBurstsWrongFalsely : Prop := fnBurstsRow.holds Try.pinned (OpenSpec.ofChange fnBurstsWrong)

/-- 'laws.FnExactIsValidPlacement': WHATEVER THE INPUT: true; the input reads as it did. -/
def fnExactIsValidPlacementSpec : ChangeSpec := { name := "fnExactIsValidPlacement", fn := fun _ => fun
  | [d] => { results := [.lit (.bool true)], args := [d] }
  | _ => none }
def fnExactIsValidPlacementRow : OpenClaim := { program := "ytkmkgkjinefcdaa", sum := "3640cbaea4da6601364ffc37fa15dc1c12b650a552f2f3cfbab4acfb27fa94b2", func := "loop.example/g00511/laws.FnExactIsValidPlacement", spec := "fnExactIsValidPlacement", apart := false }
def FnExactIsValidPlacementSaid : Prop := fnExactIsValidPlacementRow.holds Try.pinned (OpenSpec.ofChange fnExactIsValidPlacementSpec)

/-- ITS FALSE NEIGHBOUR: 'it returns false'. Refute it at one input. -/
def fnExactIsValidPlacementWrong : ChangeSpec := { name := "fnExactIsValidPlacement", fn := fun _ => fun
  | [d] => { results := [.lit (.bool false)], args := [d] }
  | _ => none }
def FnExactIsValidPlacementWrongFalsely : Prop := fnExactIsValidPlacementRow.holds Try.pinned (OpenSpec.ofChange fnExactIsValidPlacementWrong)

/-- 'laws.FnExactMinimumSpread': WHATEVER THE INPUT: true; the input reads as it did. -/
def fnExactMinimumSpreadSpec : ChangeSpec := { name := "fnExactMinimumSpread", fn := fun _ => fun
  | [d1, d2] => { results := [.lit (.bool true)], args := [d1, d2] }
  | _ => none }
def fnExactMinimumSpreadRow : OpenClaim := { program := "ytkmkgkjinefcdaa", sum := "3640cbaea4da6601364ffc37fa15dc1c12b650a552f2f3cfbab4acfb27fa94b2", func := "loop.example/g00511/laws.FnExactMinimumSpread", spec := "fnExactMinimumSpread", apart := false }
def FnExactMinimumSpreadSaid : Prop := fnExactMinimumSpreadRow.holds Try.pinned (OpenSpec.ofChange fnExactMinimumSpreadSpec)

/-- ITS FALSE NEIGHBOUR: 'it returns false'. Refute it at one input. -/
def fnExactMinimumSpreadWrong : ChangeSpec := { name := "fnExactMinimumSpread", fn := fun _ => fun
  | [d1, d2] => { results := [.lit (.bool false)], args := [d1, d2] }
  | _ => none }
def FnExactMinimumSpreadWrongFalsely : Prop := fnExactMinimumSpreadRow.holds Try.pinned (OpenSpec.ofChange fnExactMinimumSpreadWrong)

/-- 'laws.FnExactFrameSymbols': WHATEVER THE INPUT: true; the input reads as it did. -/
def fnExactFrameSymbolsSpec : ChangeSpec := { name := "fnExactFrameSymbols", fn := fun _ => fun
  | [d] => { results := [.lit (.bool true)], args := [d] }
  | _ => none }
def fnExactFrameSymbolsRow : OpenClaim := { program := "ytkmkgkjinefcdaa", sum := "3640cbaea4da6601364ffc37fa15dc1c12b650a552f2f3cfbab4acfb27fa94b2", func := "loop.example/g00511/laws.FnExactFrameSymbols", spec := "fnExactFrameSymbols", apart := false }
def FnExactFrameSymbolsSaid : Prop := fnExactFrameSymbolsRow.holds Try.pinned (OpenSpec.ofChange fnExactFrameSymbolsSpec)

/-- ITS FALSE NEIGHBOUR: 'it returns false'. Refute it at one input. -/
def fnExactFrameSymbolsWrong : ChangeSpec := { name := "fnExactFrameSymbols", fn := fun _ => fun
  | [d] => { results := [.lit (.bool false)], args := [d] }
  | _ => none }
def FnExactFrameSymbolsWrongFalsely : Prop := fnExactFrameSymbolsRow.holds Try.pinned (OpenSpec.ofChange fnExactFrameSymbolsWrong)

/-- 'laws.FnAirtime': WHATEVER THE INPUT: true; the input reads as it did. -/
def fnAirtimeSpec : ChangeSpec := { name := "fnAirtime", fn := fun _ => fun
  | [d] => { results := [.lit (.bool true)], args := [d] }
  | _ => none }
def fnAirtimeRow : OpenClaim := { program := "ytkmkgkjinefcdaa", sum := "3640cbaea4da6601364ffc37fa15dc1c12b650a552f2f3cfbab4acfb27fa94b2", func := "loop.example/g00511/laws.FnAirtime", spec := "fnAirtime", apart := false }
def FnAirtimeSaid : Prop := fnAirtimeRow.holds Try.pinned (OpenSpec.ofChange fnAirtimeSpec)

/-- ITS FALSE NEIGHBOUR: 'it returns false'. Refute it at one input. -/
def fnAirtimeWrong : ChangeSpec := { name := "fnAirtime", fn := fun _ => fun
  | [d] => { results := [.lit (.bool false)], args := [d] }
  | _ => none }
def FnAirtimeWrongFalsely : Prop := fnAirtimeRow.holds Try.pinned (OpenSpec.ofChange fnAirtimeWrong)

/-- 'laws.FnExactNeedsAck': WHATEVER THE INPUT: true; the input reads as it did. -/
def fnExactNeedsAckSpec : ChangeSpec := { name := "fnExactNeedsAck", fn := fun _ => fun
  | [d] => { results := [.lit (.bool true)], args := [d] }
  | _ => none }
def fnExactNeedsAckRow : OpenClaim := { program := "ytkmkgkjinefcdaa", sum := "3640cbaea4da6601364ffc37fa15dc1c12b650a552f2f3cfbab4acfb27fa94b2", func := "loop.example/g00511/laws.FnExactNeedsAck", spec := "fnExactNeedsAck", apart := false }
def FnExactNeedsAckSaid : Prop := fnExactNeedsAckRow.holds Try.pinned (OpenSpec.ofChange fnExactNeedsAckSpec)

/-- ITS FALSE NEIGHBOUR: 'it returns false'. Refute it at one input. -/
def fnExactNeedsAckWrong : ChangeSpec := { name := "fnExactNeedsAck", fn := fun _ => fun
  | [d] => { results := [.lit (.bool false)], args := [d] }
  | _ => none }
def FnExactNeedsAckWrongFalsely : Prop := fnExactNeedsAckRow.holds Try.pinned (OpenSpec.ofChange fnExactNeedsAckWrong)

/-- 'laws.FnExactCanSense': WHATEVER THE INPUT: true; the input reads as it did. -/
def fnExactCanSenseSpec : ChangeSpec := { name := "fnExactCanSense", fn := fun _ => fun
  | [d1, d2, d3] => { results := [.lit (.bool true)], args := [d1, d2, d3] }
  | _ => none }
def fnExactCanSenseRow : OpenClaim := { program := "ytkmkgkjinefcdaa", sum := "3640cbaea4da6601364ffc37fa15dc1c12b650a552f2f3cfbab4acfb27fa94b2", func := "loop.example/g00511/laws.FnExactCanSense", spec := "fnExactCanSense", apart := false }
def FnExactCanSenseSaid : Prop := fnExactCanSenseRow.holds Try.pinned (OpenSpec.ofChange fnExactCanSenseSpec)

/-- ITS FALSE NEIGHBOUR: 'it returns false'. Refute it at one input. -/
def fnExactCanSenseWrong : ChangeSpec := { name := "fnExactCanSense", fn := fun _ => fun
  | [d1, d2, d3] => { results := [.lit (.bool false)], args := [d1, d2, d3] }
  | _ => none }
def FnExactCanSenseWrongFalsely : Prop := fnExactCanSenseRow.holds Try.pinned (OpenSpec.ofChange fnExactCanSenseWrong)

/-- 'laws.FnExactReplyKind': WHATEVER THE INPUT: true; the input reads as it did. -/
def fnExactReplyKindSpec : ChangeSpec := { name := "fnExactReplyKind", fn := fun _ => fun
  | [d] => { results := [.lit (.bool true)], args := [d] }
  | _ => none }
def fnExactReplyKindRow : OpenClaim := { program := "ytkmkgkjinefcdaa", sum := "3640cbaea4da6601364ffc37fa15dc1c12b650a552f2f3cfbab4acfb27fa94b2", func := "loop.example/g00511/laws.FnExactReplyKind", spec := "fnExactReplyKind", apart := false }
def FnExactReplyKindSaid : Prop := fnExactReplyKindRow.holds Try.pinned (OpenSpec.ofChange fnExactReplyKindSpec)

/-- ITS FALSE NEIGHBOUR: 'it returns false'. Refute it at one input. -/
def fnExactReplyKindWrong : ChangeSpec := { name := "fnExactReplyKind", fn := fun _ => fun
  | [d] => { results := [.lit (.bool false)], args := [d] }
  | _ => none }
def FnExactReplyKindWrongFalsely : Prop := fnExactReplyKindRow.holds Try.pinned (OpenSpec.ofChange fnExactReplyKindWrong)

/-- 'laws.FnExactIsHidden': WHATEVER THE INPUT: true; the input reads as it did. -/
def fnExactIsHiddenSpec : ChangeSpec := { name := "fnExactIsHidden", fn := fun _ => fun
  | [d1, d2, d3, d4] => { results := [.lit (.bool true)], args := [d1, d2, d3, d4] }
  | _ => none }
def fnExactIsHiddenRow : OpenClaim := { program := "ytkmkgkjinefcdaa", sum := "3640cbaea4da6601364ffc37fa15dc1c12b650a552f2f3cfbab4acfb27fa94b2", func := "loop.example/g00511/laws.FnExactIsHidden", spec := "fnExactIsHidden", apart := false }
def FnExactIsHiddenSaid : Prop := fnExactIsHiddenRow.holds Try.pinned (OpenSpec.ofChange fnExactIsHiddenSpec)

/-- ITS FALSE NEIGHBOUR: 'it returns false'. Refute it at one input. -/
def fnExactIsHiddenWrong : ChangeSpec := { name := "fnExactIsHidden", fn := fun _ => fun
  | [d1, d2, d3, d4] => { results := [.lit (.bool false)], args := [d1, d2, d3, d4] }
  | _ => none }
def FnExactIsHiddenWrongFalsely : Prop := fnExactIsHiddenRow.holds Try.pinned (OpenSpec.ofChange fnExactIsHiddenWrong)

/- THE SECOND FORM. 'bulk': how many values and letters a reading holds, each counted each time it is reached (what is shared counts as often as it is met; a slice's spare places count too). A statement '..UptoSaid' is the law's where the arguments, and the package variables that the reading takes, are together of bulk at most 1048576: NARROWER than '..Said'. Prove '..Said' where nothing that the law and all that it calls make is longer than what came in: it says more and counts as full. Else prove '..UptoSaid'. A law counts once. -/
mutual
def uptoBulk {H : Type} : DataW H → Nat
  | .lit (.string bytes) => bytes.length + 1
  | .lit _ => 1
  | .nil => 1
  | .ptr d => uptoBulk d + 1
  | .slice elems spare => uptoBulkAll elems + uptoBulkAll spare + 1
  | .agg parts => uptoBulkAll parts + 1
  | .iface _ d => uptoBulk d + 1
  | .map entries => uptoBulkEntries entries + 1
  | .held _ => 1
def uptoBulkAll {H : Type} : List (DataW H) → Nat
  | [] => 0
  | d :: r => uptoBulk d + uptoBulkAll r
def uptoBulkEntries {H : Type} : List (Lit × DataW H) → Nat
  | [] => 0
  | x :: r => uptoBulkEntry x + uptoBulkEntries r
def uptoBulkEntry {H : Type} : Lit × DataW H → Nat
  | (.string bytes, d) => bytes.length + uptoBulk d + 1
  | (_, d) => uptoBulk d + 1
 end
def uptoSmall : (H : Type) → List (DataW H) → Bool := fun _ ds => decide (uptoBulkAll ds ≤ 1048576)
def OpenSpec.upto (s : _root_.Go.ChangeSpec) : _root_.Go.OpenSpec := { _root_.Go.OpenSpec.ofChange s with cond := some uptoSmall }

/-- 'laws.FnExactIsPermutation', WHERE WHAT IT READS IS OF BULK AT MOST 1048576: true; the input reads as it did. -/
def fnExactIsPermutationUptoRow : OpenClaim := { program := "ytkmkgkjinefcdaa", sum := "3640cbaea4da6601364ffc37fa15dc1c12b650a552f2f3cfbab4acfb27fa94b2", func := "loop.example/g00511/laws.FnExactIsPermutation", spec := "fnExactIsPermutation", apart := false, narrowed := true }
def FnExactIsPermutationUptoSaid : Prop := fnExactIsPermutationUptoRow.holds Try.pinned (OpenSpec.upto fnExactIsPermutationSpec)

/-- 'laws.FnExactBurstPattern', WHERE WHAT IT READS IS OF BULK AT MOST 1048576: true; the input reads as it did. -/
def fnExactBurstPatternUptoRow : OpenClaim := { program := "ytkmkgkjinefcdaa", sum := "3640cbaea4da6601364ffc37fa15dc1c12b650a552f2f3cfbab4acfb27fa94b2", func := "loop.example/g00511/laws.FnExactBurstPattern", spec := "fnExactBurstPattern", apart := false, narrowed := true }
def FnExactBurstPatternUptoSaid : Prop := fnExactBurstPatternUptoRow.holds Try.pinned (OpenSpec.upto fnExactBurstPatternSpec)

/-- 'laws.FnExactPayloadSymbols', WHERE WHAT IT READS IS OF BULK AT MOST 1048576: true; the input reads as it did. -/
def fnExactPayloadSymbolsUptoRow : OpenClaim := { program := "ytkmkgkjinefcdaa", sum := "3640cbaea4da6601364ffc37fa15dc1c12b650a552f2f3cfbab4acfb27fa94b2", func := "loop.example/g00511/laws.FnExactPayloadSymbols", spec := "fnExactPayloadSymbols", apart := false, narrowed := true }
def FnExactPayloadSymbolsUptoSaid : Prop := fnExactPayloadSymbolsUptoRow.holds Try.pinned (OpenSpec.upto fnExactPayloadSymbolsSpec)

/-- 'laws.FnBursts', WHERE WHAT IT READS IS OF BULK AT MOST 1048576: true; the input reads as it did. -/
def fnBurstsUptoRow : OpenClaim := { program := "ytkmkgkjinefcdaa", sum := "3640cbaea4da6601364ffc37fa15dc1c12b650a552f2f3cfbab4acfb27fa94b2", func := "loop.example/g00511/laws.FnBursts", spec := "fnBursts", apart := false, narrowed := true }
def FnBurstsUptoSaid : Prop := fnBurstsUptoRow.holds Try.pinned (OpenSpec.upto fnBurstsSpec)

/-- 'laws.FnExactIsValidPlacement', WHERE WHAT IT READS IS OF BULK AT MOST 1048576: true; the input reads as it did. -/
def fnExactIsValidPlacementUptoRow : OpenClaim := { program := "ytkmkgkjinefcdaa", sum := "3640cbaea4da6601364ffc37fa15dc1c12b650a552f2f3cfbab4acfb27fa94b2", func := "loop.example/g00511/laws.FnExactIsValidPlacement", spec := "fnExactIsValidPlacement", apart := false, narrowed := true }
def FnExactIsValidPlacementUptoSaid : Prop := fnExactIsValidPlacementUptoRow.holds Try.pinned (OpenSpec.upto fnExactIsValidPlacementSpec)

/-- 'laws.FnExactMinimumSpread', WHERE WHAT IT READS IS OF BULK AT MOST 1048576: true; the input reads as it did. -/
def fnExactMinimumSpreadUptoRow : OpenClaim := { program := "ytkmkgkjinefcdaa", sum := "3640cbaea4da6601364ffc37fa15dc1c12b650a552f2f3cfbab4acfb27fa94b2", func := "loop.example/g00511/laws.FnExactMinimumSpread", spec := "fnExactMinimumSpread", apart := false, narrowed := true }
def FnExactMinimumSpreadUptoSaid : Prop := fnExactMinimumSpreadUptoRow.holds Try.pinned (OpenSpec.upto fnExactMinimumSpreadSpec)

/-- 'laws.FnExactFrameSymbols', WHERE WHAT IT READS IS OF BULK AT MOST 1048576: true; the input reads as it did. -/
def fnExactFrameSymbolsUptoRow : OpenClaim := { program := "ytkmkgkjinefcdaa", sum := "3640cbaea4da6601364ffc37fa15dc1c12b650a552f2f3cfbab4acfb27fa94b2", func := "loop.example/g00511/laws.FnExactFrameSymbols", spec := "fnExactFrameSymbols", apart := false, narrowed := true }
def FnExactFrameSymbolsUptoSaid : Prop := fnExactFrameSymbolsUptoRow.holds Try.pinned (OpenSpec.upto fnExactFrameSymbolsSpec)

/-- 'laws.FnAirtime', WHERE WHAT IT READS IS OF BULK AT MOST 1048576: true; the input reads as it did. -/
def fnAirtimeUptoRow : OpenClaim := { program := "ytkmkgkjinefcdaa", sum := "3640cbaea4da6601364ffc37fa15dc1c12b650a552f2f3cfbab4acfb27fa94b2", func := "loop.example/g00511/laws.FnAirtime", spec := "fnAirtime", apart := false, narrowed := true }
def FnAirtimeUptoSaid : Prop := fnAirtimeUptoRow.holds Try.pinned (OpenSpec.upto fnAirtimeSpec)

/-- 'laws.FnExactNeedsAck', WHERE WHAT IT READS IS OF BULK AT MOST 1048576: true; the input reads as it did. -/
def fnExactNeedsAckUptoRow : OpenClaim := { program := "ytkmkgkjinefcdaa", sum := "3640cbaea4da6601364ffc37fa15dc1c12b650a552f2f3cfbab4acfb27fa94b2", func := "loop.example/g00511/laws.FnExactNeedsAck", spec := "fnExactNeedsAck", apart := false, narrowed := true }
def FnExactNeedsAckUptoSaid : Prop := fnExactNeedsAckUptoRow.holds Try.pinned (OpenSpec.upto fnExactNeedsAckSpec)

/-- 'laws.FnExactCanSense', WHERE WHAT IT READS IS OF BULK AT MOST 1048576: true; the input reads as it did. -/
def fnExactCanSenseUptoRow : OpenClaim := { program := "ytkmkgkjinefcdaa", sum := "3640cbaea4da6601364ffc37fa15dc1c12b650a552f2f3cfbab4acfb27fa94b2", func := "loop.example/g00511/laws.FnExactCanSense", spec := "fnExactCanSense", apart := false, narrowed := true }
def FnExactCanSenseUptoSaid : Prop := fnExactCanSenseUptoRow.holds Try.pinned (OpenSpec.upto fnExactCanSenseSpec)

/-- 'laws.FnExactReplyKind', WHERE WHAT IT READS IS OF BULK AT MOST 1048576: true; the input reads as it did. -/
def fnExactReplyKindUptoRow : OpenClaim := { program := "ytkmkgkjinefcdaa", sum := "3640cbaea4da6601364ffc37fa15dc1c12b650a552f2f3cfbab4acfb27fa94b2", func := "loop.example/g00511/laws.FnExactReplyKind", spec := "fnExactReplyKind", apart := false, narrowed := true }
def FnExactReplyKindUptoSaid : Prop := fnExactReplyKindUptoRow.holds Try.pinned (OpenSpec.upto fnExactReplyKindSpec)

/-- 'laws.FnExactIsHidden', WHERE WHAT IT READS IS OF BULK AT MOST 1048576: true; the input reads as it did. -/
def fnExactIsHiddenUptoRow : OpenClaim := { program := "ytkmkgkjinefcdaa", sum := "3640cbaea4da6601364ffc37fa15dc1c12b650a552f2f3cfbab4acfb27fa94b2", func := "loop.example/g00511/laws.FnExactIsHidden", spec := "fnExactIsHidden", apart := false, narrowed := true }
def FnExactIsHiddenUptoSaid : Prop := fnExactIsHiddenUptoRow.holds Try.pinned (OpenSpec.upto fnExactIsHiddenSpec)

end Rows
end Go.Proofs.Ytkmkgkjinefcdaa
