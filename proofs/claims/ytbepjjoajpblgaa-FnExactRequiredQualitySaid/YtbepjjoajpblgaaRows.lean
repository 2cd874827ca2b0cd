/-
  No cell of these rows narrows 'for every input' (looked for: loops, veiled, ifaces, maps, wideKeys, modest, calm, conditions, laid).
  DERIVED. THE GIVEN ROWS OF THIS SEAT. 12 by the template 'for every input the law returns true; each argument reads behind the call as it read before'; 0 by the template 'total and deterministic' (their statements: YtbepjjoajpblgaaTotals.lean).
  GIVEN WITH THE SEED: the statements are not yours to turn. If you find one false, say at which input.
  Laid BY PROGRAM, IN A SANDBOX (cutbox-rows.mjs): the forced cells as the released guide's own fill.sh prints them over the translation 9fd400e1819e3da1… (all of the seat's roots in one cut). By AI agents, Wed Nov 11 2026. No macro, syntax, notation, axiom, sorry.
-/
import Derived.Test.YtbepjjoajpblgaaChecked
import GoSem.Claim
import GoSem.ClaimJoined
import GoSem.ClaimMapViews
import Derived.JoinedTies
import Derived.KernelRfl
namespace Go.Proofs.Ytbepjjoajpblgaa
/- THE CELL 'sum', in the pinned program and in every row, IS THE sha256 OF THE DUMP (.gsa) THAT YtbepjjoajpblgaaProg.lean LOADS. Nothing in Lean hashes anything: it is a label: what it is worth is what the hold of that sum in a sandbox is worth. -/
noncomputable def Try.pinned : Pinned := { name := "ytbepjjoajpblgaa", sum := "9fd400e1819e3da13960c6cb075ecbb73520abb7a7e768f28222a16fe35c7443", checked := Try.checked }
namespace Rows
def none {H : Type} : Left H := { results := [], args := [] }

/-- 'laws.FnExactCorrectableErrors': WHATEVER THE INPUT: true; the input reads as it did. -/
def fnExactCorrectableErrorsSpec : ChangeSpec := { name := "fnExactCorrectableErrors", fn := fun _ => fun
  | [] => { results := [.lit (.bool true)], args := [] }
  | _ => none }
def fnExactCorrectableErrorsRow : OpenClaim := { program := "ytbepjjoajpblgaa", sum := "9fd400e1819e3da13960c6cb075ecbb73520abb7a7e768f28222a16fe35c7443", func := "loop.example/g00511/laws.FnExactCorrectableErrors", spec := "fnExactCorrectableErrors", apart := false }
def FnExactCorrectableErrorsSaid : Prop := fnExactCorrectableErrorsRow.holds Try.pinned (OpenSpec.ofChange fnExactCorrectableErrorsSpec)

/-- ITS FALSE NEIGHBOUR: 'it returns false'. Refute it at one input. -/
def fnExactCorrectableErrorsWrong : ChangeSpec := { name := "fnExactCorrectableErrors", fn := fun _ => fun
  | [] => { results := [.lit (.bool false)], args := [] }
  | _ => none }
def FnExactCorrectableErrorsWrongFalsely : Prop := fnExactCorrectableErrorsRow.holds Try.pinned (OpenSpec.ofChange fnExactCorrectableErrorsWrong)

/-- 'laws.FnExactIsValidRateIndex': WHATEVER THE INPUT: true; the input reads as it did. -/
def fnExactIsValidRateIndexSpec : ChangeSpec := { name := "fnExactIsValidRateIndex", fn := fun _ => fun
  | [d] => { results := [.lit (.bool true)], args := [d] }
  | _ => none }
def fnExactIsValidRateIndexRow : OpenClaim := { program := "ytbepjjoajpblgaa", sum := "9fd400e1819e3da13960c6cb075ecbb73520abb7a7e768f28222a16fe35c7443", func := "loop.example/g00511/laws.FnExactIsValidRateIndex", spec := "fnExactIsValidRateIndex", apart := false }
def FnExactIsValidRateIndexSaid : Prop := fnExactIsValidRateIndexRow.holds Try.pinned (OpenSpec.ofChange fnExactIsValidRateIndexSpec)

/-- ITS FALSE NEIGHBOUR: 'it returns false'. Refute it at one input. -/
def fnExactIsValidRateIndexWrong : ChangeSpec := { name := "fnExactIsValidRateIndex", fn := fun _ => fun
  | [d] => { results := [.lit (.bool false)], args := [d] }
  | _ => none }
def FnExactIsValidRateIndexWrongFalsely : Prop := fnExactIsValidRateIndexRow.holds Try.pinned (OpenSpec.ofChange fnExactIsValidRateIndexWrong)

/-- 'laws.FnExactEqualHeaders': WHATEVER THE INPUT: true; the input reads as it did. -/
def fnExactEqualHeadersSpec : ChangeSpec := { name := "fnExactEqualHeaders", fn := fun _ => fun
  | [d1, d2] => { results := [.lit (.bool true)], args := [d1, d2] }
  | _ => none }
def fnExactEqualHeadersRow : OpenClaim := { program := "ytbepjjoajpblgaa", sum := "9fd400e1819e3da13960c6cb075ecbb73520abb7a7e768f28222a16fe35c7443", func := "loop.example/g00511/laws.FnExactEqualHeaders", spec := "fnExactEqualHeaders", apart := false }
def FnExactEqualHeadersSaid : Prop := fnExactEqualHeadersRow.holds Try.pinned (OpenSpec.ofChange fnExactEqualHeadersSpec)

/-- ITS FALSE NEIGHBOUR: 'it returns false'. Refute it at one input. -/
def fnExactEqualHeadersWrong : ChangeSpec := { name := "fnExactEqualHeaders", fn := fun _ => fun
  | [d1, d2] => { results := [.lit (.bool false)], args := [d1, d2] }
  | _ => none }
def FnExactEqualHeadersWrongFalsely : Prop := fnExactEqualHeadersRow.holds Try.pinned (OpenSpec.ofChange fnExactEqualHeadersWrong)

/-- 'laws.FnExactMinimumDistance': WHATEVER THE INPUT: true; the input reads as it did. -/
def fnExactMinimumDistanceSpec : ChangeSpec := { name := "fnExactMinimumDistance", fn := fun _ => fun
  | [d] => { results := [.lit (.bool true)], args := [d] }
  | _ => none }
def fnExactMinimumDistanceRow : OpenClaim := { program := "ytbepjjoajpblgaa", sum := "9fd400e1819e3da13960c6cb075ecbb73520abb7a7e768f28222a16fe35c7443", func := "loop.example/g00511/laws.FnExactMinimumDistance", spec := "fnExactMinimumDistance", apart := false }
def FnExactMinimumDistanceSaid : Prop := fnExactMinimumDistanceRow.holds Try.pinned (OpenSpec.ofChange fnExactMinimumDistanceSpec)

/-- ITS FALSE NEIGHBOUR: 'it returns false'. Refute it at one input. -/
def fnExactMinimumDistanceWrong : ChangeSpec := { name := "fnExactMinimumDistance", fn := fun _ => fun
  | [d] => { results := [.lit (.bool false)], args := [d] }
  | _ => none }
def FnExactMinimumDistanceWrongFalsely : Prop := fnExactMinimumDistanceRow.holds Try.pinned (OpenSpec.ofChange fnExactMinimumDistanceWrong)

/-- 'laws.FnExactIsValidHeader': WHATEVER THE INPUT: true; the input reads as it did. -/
def fnExactIsValidHeaderSpec : ChangeSpec := { name := "fnExactIsValidHeader", fn := fun _ => fun
  | [d] => { results := [.lit (.bool true)], args := [d] }
  | _ => none }
def fnExactIsValidHeaderRow : OpenClaim := { program := "ytbepjjoajpblgaa", sum := "9fd400e1819e3da13960c6cb075ecbb73520abb7a7e768f28222a16fe35c7443", func := "loop.example/g00511/laws.FnExactIsValidHeader", spec := "fnExactIsValidHeader", apart := false }
def FnExactIsValidHeaderSaid : Prop := fnExactIsValidHeaderRow.holds Try.pinned (OpenSpec.ofChange fnExactIsValidHeaderSpec)

/-- ITS FALSE NEIGHBOUR: 'it returns false'. Refute it at one input. -/
def fnExactIsValidHeaderWrong : ChangeSpec := { name := "fnExactIsValidHeader", fn := fun _ => fun
  | [d] => { results := [.lit (.bool false)], args := [d] }
  | _ => none }
def FnExactIsValidHeaderWrongFalsely : Prop := fnExactIsValidHeaderRow.holds Try.pinned (OpenSpec.ofChange fnExactIsValidHeaderWrong)

/-- 'laws.FnExactBytesPerSlot': WHATEVER THE INPUT: true; the input reads as it did. -/
def fnExactBytesPerSlotSpec : ChangeSpec := { name := "fnExactBytesPerSlot", fn := fun _ => fun
  | [d] => { results := [.lit (.bool true)], args := [d] }
  | _ => none }
def fnExactBytesPerSlotRow : OpenClaim := { program := "ytbepjjoajpblgaa", sum := "9fd400e1819e3da13960c6cb075ecbb73520abb7a7e768f28222a16fe35c7443", func := "loop.example/g00511/laws.FnExactBytesPerSlot", spec := "fnExactBytesPerSlot", apart := false }
def FnExactBytesPerSlotSaid : Prop := fnExactBytesPerSlotRow.holds Try.pinned (OpenSpec.ofChange fnExactBytesPerSlotSpec)

/-- ITS FALSE NEIGHBOUR: 'it returns false'. Refute it at one input. -/
def fnExactBytesPerSlotWrong : ChangeSpec := { name := "fnExactBytesPerSlot", fn := fun _ => fun
  | [d] => { results := [.lit (.bool false)], args := [d] }
  | _ => none }
def FnExactBytesPerSlotWrongFalsely : Prop := fnExactBytesPerSlotRow.holds Try.pinned (OpenSpec.ofChange fnExactBytesPerSlotWrong)

/-- 'laws.FnExactInputLength': WHATEVER THE INPUT: true; the input reads as it did. -/
def fnExactInputLengthSpec : ChangeSpec := { name := "fnExactInputLength", fn := fun _ => fun
  | [d] => { results := [.lit (.bool true)], args := [d] }
  | _ => none }
def fnExactInputLengthRow : OpenClaim := { program := "ytbepjjoajpblgaa", sum := "9fd400e1819e3da13960c6cb075ecbb73520abb7a7e768f28222a16fe35c7443", func := "loop.example/g00511/laws.FnExactInputLength", spec := "fnExactInputLength", apart := false }
def FnExactInputLengthSaid : Prop := fnExactInputLengthRow.holds Try.pinned (OpenSpec.ofChange fnExactInputLengthSpec)

/-- ITS FALSE NEIGHBOUR: 'it returns false'. Refute it at one input. -/
def fnExactInputLengthWrong : ChangeSpec := { name := "fnExactInputLength", fn := fun _ => fun
  | [d] => { results := [.lit (.bool false)], args := [d] }
  | _ => none }
def FnExactInputLengthWrongFalsely : Prop := fnExactInputLengthRow.holds Try.pinned (OpenSpec.ofChange fnExactInputLengthWrong)

/-- 'laws.FnExactRequiredQuality': WHATEVER THE INPUT: true; the input reads as it did. -/
def fnExactRequiredQualitySpec : ChangeSpec := { name := "fnExactRequiredQuality", fn := fun _ => fun
  | [d] => { results := [.lit (.bool true)], args := [d] }
  | _ => none }
def fnExactRequiredQualityRow : OpenClaim := { program := "ytbepjjoajpblgaa", sum := "9fd400e1819e3da13960c6cb075ecbb73520abb7a7e768f28222a16fe35c7443", func := "loop.example/g00511/laws.FnExactRequiredQuality", spec := "fnExactRequiredQuality", apart := false }
def FnExactRequiredQualitySaid : Prop := fnExactRequiredQualityRow.holds Try.pinned (OpenSpec.ofChange fnExactRequiredQualitySpec)

/-- ITS FALSE NEIGHBOUR: 'it returns false'. Refute it at one input. -/
def fnExactRequiredQualityWrong : ChangeSpec := { name := "fnExactRequiredQuality", fn := fun _ => fun
  | [d] => { results := [.lit (.bool false)], args := [d] }
  | _ => none }
def FnExactRequiredQualityWrongFalsely : Prop := fnExactRequiredQualityRow.holds Try.pinned (OpenSpec.ofChange fnExactRequiredQualityWrong)

/-- 'laws.FnExactInterleavedIndex': WHATEVER THE INPUT: true; the input reads as it did. -/
def fnExactInterleavedIndexSpec : ChangeSpec := { name := "fnExactInterleavedIndex", fn := fun _ => fun
  | [d1, d2, d3] => { results := [.lit (.bool true)], args := [d1, d2, d3] }
  | _ => none }
def fnExactInterleavedIndexRow : OpenClaim := { program := "ytbepjjoajpblgaa", sum := "9fd400e1819e3da13960c6cb075ecbb73520abb7a7e768f28222a16fe35c7443", func := "loop.example/g00511/laws.FnExactInterleavedIndex", spec := "fnExactInterleavedIndex", apart := false }
def FnExactInterleavedIndexSaid : Prop := fnExactInterleavedIndexRow.holds Try.pinned (OpenSpec.ofChange fnExactInterleavedIndexSpec)

/-- ITS FALSE NEIGHBOUR: 'it returns false'. Refute it at one input. -/
def fnExactInterleavedIndexWrong : ChangeSpec := { name := "fnExactInterleavedIndex", fn := fun _ => fun
  | [d1, d2, d3] => { results := [.lit (.bool false)], args := [d1, d2, d3] }
  | _ => none }
def FnExactInterleavedIndexWrongFalsely : Prop := fnExactInterleavedIndexRow.holds Try.pinned (OpenSpec.ofChange fnExactInterleavedIndexWrong)

/-- 'laws.FnExactFrameDelivered': WHATEVER THE INPUT: true; the input reads as it did. -/
def fnExactFrameDeliveredSpec : ChangeSpec := { name := "fnExactFrameDelivered", fn := fun _ => fun
  | [d1, d2, d3] => { results := [.lit (.bool true)], args := [d1, d2, d3] }
  | _ => none }
def fnExactFrameDeliveredRow : OpenClaim := { program := "ytbepjjoajpblgaa", sum := "9fd400e1819e3da13960c6cb075ecbb73520abb7a7e768f28222a16fe35c7443", func := "loop.example/g00511/laws.FnExactFrameDelivered", spec := "fnExactFrameDelivered", apart := false }
def FnExactFrameDeliveredSaid : Prop := fnExactFrameDeliveredRow.holds Try.pinned (OpenSpec.ofChange fnExactFrameDeliveredSpec)

/-- ITS FALSE NEIGHBOUR: 'it returns false'. Refute it at one input. -/
def fnExactFrameDeliveredWrong : ChangeSpec := { name := "fnExactFrameDelivered", fn := fun _ => fun
  | [d1, d2, d3] => { results := [.lit (.bool false)], args := [d1, d2, d3] }
  | _ => none }
def FnExactFrameDeliveredWrongFalsely : Prop := fnExactFrameDeliveredRow.holds Try.pinned (OpenSpec.ofChange fnExactFrameDeliveredWrong)

/-- 'laws.FnExactFrameSlots': WHATEVER THE INPUT: true; the input reads as it did. -/
def fnExactFrameSlotsSpec : ChangeSpec := { name := "fnExactFrameSlots", fn := fun _ => fun
  | [d1, d2] => { results := [.lit (.bool true)], args := [d1, d2] }
  | _ => none }
def fnExactFrameSlotsRow : OpenClaim := { program := "ytbepjjoajpblgaa", sum := "9fd400e1819e3da13960c6cb075ecbb73520abb7a7e768f28222a16fe35c7443", func := "loop.example/g00511/laws.FnExactFrameSlots", spec := "fnExactFrameSlots", apart := false }
def FnExactFrameSlotsSaid : Prop := fnExactFrameSlotsRow.holds Try.pinned (OpenSpec.ofChange fnExactFrameSlotsSpec)

/-- ITS FALSE NEIGHBOUR: 'it returns false'. Refute it at one input. -/
def fnExactFrameSlotsWrong : ChangeSpec := { name := "fnExactFrameSlots", fn := fun _ => fun
  | [d1, d2] => { results := [.lit (.bool false)], args := [d1, d2] }
  | _ => none }
def FnExactFrameSlotsWrongFalsely : Prop := fnExactFrameSlotsRow.holds Try.pinned (OpenSpec.ofChange fnExactFrameSlotsWrong)

/-- 'laws.FnExactExchangeSlots': WHATEVER THE INPUT: true; the input reads as it did. -/
def fnExactExchangeSlotsSpec : ChangeSpec := { name := "fnExactExchangeSlots", fn := fun _ => fun
  | [d1, d2, d3] => { results := [.lit (.bool true)], args := [d1, d2, d3] }
  | _ => none }
def fnExactExchangeSlotsRow : OpenClaim := { program := "ytbepjjoajpblgaa", sum := "9fd400e1819e3da13960c6cb075ecbb73520abb7a7e768f28222a16fe35c7443", func := "loop.example/g00511/laws.FnExactExchangeSlots", spec := "fnExactExchangeSlots", apart := false }
def FnExactExchangeSlotsSaid : Prop := fnExactExchangeSlotsRow.holds Try.pinned (OpenSpec.ofChange fnExactExchangeSlotsSpec)

/-- ITS FALSE NEIGHBOUR: 'it returns false'. Refute it at one input. -/
def fnExactExchangeSlotsWrong : ChangeSpec := { name := "fnExactExchangeSlots", fn := fun _ => fun
  | [d1, d2, d3] => { results := [.lit (.bool false)], args := [d1, d2, d3] }
  | _ => none }
def FnExactExchangeSlotsWrongFalsely : Prop := fnExactExchangeSlotsRow.holds Try.pinned (OpenSpec.ofChange fnExactExchangeSlotsWrong)

/- THE SECOND FORM. 'bulk': how many values and letters a reading holds, each counted each time it is reached (what is shared counts as often as it is met; a slice's spare places count too). A statement '..UptoSaid' is the law's where the arguments, and the package variables that the reading takes, are together of bulk at most 1048576: NARROWER than '..Said'. Prove '..Said' where nothing that the law and all that it calls make is longer than what came in: it says more and counts as full. Else prove '..UptoSaid'. A law counts once. -/
mutual
def uptoBulk {H : Type} : DataW H → Nat
  | .lit (.string bytes) => bytes.length + 1
  | .lit _ => 1
  | .nil => 1
  | .ptr d => uptoBulk d + 1
  | .slice elems spare => uptoBulkAll elems + uptoBulkAll spare + 1
  | .agg parts => uptoBulkAll parts + 1
  | .iface _ d => uptoBulk d + 1
  | .map entries => uptoBulkEntries entries + 1
  | .held _ => 1
def uptoBulkAll {H : Type} : List (DataW H) → Nat
  | [] => 0
  | d :: r => uptoBulk d + uptoBulkAll r
def uptoBulkEntries {H : Type} : List (Lit × DataW H) → Nat
  | [] => 0
  | x :: r => uptoBulkEntry x + uptoBulkEntries r
def uptoBulkEntry {H : Type} : Lit × DataW H → Nat
  | (.string bytes, d) => bytes.length + uptoBulk d + 1
  | (_, d) => uptoBulk d + 1
 end
def uptoSmall : (H : Type) → List (DataW H) → Bool := fun _ ds => decide (uptoBulkAll ds ≤ 1048576)
def OpenSpec.upto (s : _root_.Go.ChangeSpec) : _root_.Go.OpenSpec := { _root_.Go.OpenSpec.ofChange s with cond := some uptoSmall }

/-- 'laws.FnExactCorrectableErrors', WHERE WHAT IT READS IS OF BULK AT MOST 1048576: true; the input reads as it did. -/
def fnExactCorrectableErrorsUptoRow : OpenClaim := { program := "ytbepjjoajpblgaa", sum := "9fd400e1819e3da13960c6cb075ecbb73520abb7a7e768f28222a16fe35c7443", func := "loop.example/g00511/laws.FnExactCorrectableErrors", spec := "fnExactCorrectableErrors", apart := false, narrowed := true }
def FnExactCorrectableErrorsUptoSaid : Prop := fnExactCorrectableErrorsUptoRow.holds Try.pinned (OpenSpec.upto fnExactCorrectableErrorsSpec)

/-- 'laws.FnExactIsValidRateIndex', WHERE WHAT IT READS IS OF BULK AT MOST 1048576: true; the input reads as it did. -/
def fnExactIsValidRateIndexUptoRow : OpenClaim := { program := "ytbepjjoajpblgaa", sum := "9fd400e1819e3da13960c6cb075ecbb73520abb7a7e768f28222a16fe35c7443", func := "loop.example/g00511/laws.FnExactIsValidRateIndex", spec := "fnExactIsValidRateIndex", apart := false, narrowed := true }
def FnExactIsValidRateIndexUptoSaid : Prop := fnExactIsValidRateIndexUptoRow.holds Try.pinned (OpenSpec.upto fnExactIsValidRateIndexSpec)

/-- 'laws.FnExactEqualHeaders', WHERE WHAT IT READS IS OF BULK AT MOST 1048576: true; the input reads as it did. -/
def fnExactEqualHeadersUptoRow : OpenClaim := { program := "ytbepjjoajpblgaa", sum := "9fd400e1819e3da13960c6cb075ecbb73520abb7a7e768f28222a16fe35c7443", func := "loop.example/g00511/laws.FnExactEqualHeaders", spec := "fnExactEqualHeaders", apart := false, narrowed := true }
def FnExactEqualHeadersUptoSaid : Prop := fnExactEqualHeadersUptoRow.holds Try.pinned (OpenSpec.upto fnExactEqualHeadersSpec)

/-- 'laws.FnExactMinimumDistance', WHERE WHAT IT READS IS OF BULK AT MOST 1048576: true; the input reads as it did. -/
def fnExactMinimumDistanceUptoRow : OpenClaim := { program := "ytbepjjoajpblgaa", sum := "9fd400e1819e3da13960c6cb075ecbb73520abb7a7e768f28222a16fe35c7443", func := "loop.example/g00511/laws.FnExactMinimumDistance", spec := "fnExactMinimumDistance", apart := false, narrowed := true }
def FnExactMinimumDistanceUptoSaid : Prop := fnExactMinimumDistanceUptoRow.holds Try.pinned (OpenSpec.upto fnExactMinimumDistanceSpec)

/-- 'laws.FnExactIsValidHeader', WHERE WHAT IT READS IS OF BULK AT MOST 1048576: true; the input reads as it did. -/
def fnExactIsValidHeaderUptoRow : OpenClaim := { program := "ytbepjjoajpblgaa", sum := "9fd400e1819e3da13960c6cb075ecbb73520abb7a7e768f28222a16fe35c7443", func := "loop.example/g00511/laws.FnExactIsValidHeader", spec := "fnExactIsValidHeader", apart := false, narrowed := true }
def FnExactIsValidHeaderUptoSaid : Prop := fnExactIsValidHeaderUptoRow.holds Try.pinned (OpenSpec.upto fnExactIsValidHeaderSpec)

/-- 'laws.FnExactBytesPerSlot', WHERE WHAT IT READS IS OF BULK AT MOST 1048576: true; the input reads as it did. -/
def fnExactBytesPerSlotUptoRow : OpenClaim := { program := "ytbepjjoajpblgaa", sum := "9fd400e1819e3da13960c6cb075ecbb73520abb7a7e768f28222a16fe35c7443", func := "loop.example/g00511/laws.FnExactBytesPerSlot", spec := "fnExactBytesPerSlot", apart := false, narrowed := true }
def FnExactBytesPerSlotUptoSaid : Prop := fnExactBytesPerSlotUptoRow.holds Try.pinned (OpenSpec.upto fnExactBytesPerSlotSpec)

/-- 'laws.FnExactInputLength', WHERE WHAT IT READS IS OF BULK AT MOST 1048576: true; the input reads as it did. -/
def fnExactInputLengthUptoRow : OpenClaim := { program := "ytbepjjoajpblgaa", sum := "9fd400e1819e3da13960c6cb075ecbb73520abb7a7e768f28222a16fe35c7443", func := "loop.example/g00511/laws.FnExactInputLength", spec := "fnExactInputLength", apart := false, narrowed := true }
def FnExactInputLengthUptoSaid : Prop := fnExactInputLengthUptoRow.holds Try.pinned (OpenSpec.upto fnExactInputLengthSpec)

/-- 'laws.FnExactRequiredQuality', WHERE WHAT IT READS IS OF BULK AT MOST 1048576: true; the input reads as it did. -/
def fnExactRequiredQualityUptoRow : OpenClaim := { program := "ytbepjjoajpblgaa", sum := "9fd400e1819e3da13960c6cb075ecbb73520abb7a7e768f28222a16fe35c7443", func := "loop.example/g00511/laws.FnExactRequiredQuality", spec := "fnExactRequiredQuality", apart := false, narrowed := true }
def FnExactRequiredQualityUptoSaid : Prop := fnExactRequiredQualityUptoRow.holds Try.pinned (OpenSpec.upto fnExactRequiredQualitySpec)

/-- 'laws.FnExactInterleavedIndex', WHERE WHAT IT READS IS OF BULK AT MOST 1048576: true; the input reads as it did. -/
def fnExactInterleavedIndexUptoRow : OpenClaim := { program := "ytbepjjoajpblgaa", sum := "9fd400e1819e3da13960c6cb075ecbb73520abb7a7e768f28222a16fe35c7443", func := "loop.example/g00511/laws.FnExactInterleavedIndex", spec := "fnExactInterleavedIndex", apart := false, narrowed := true }
def FnExactInterleavedIndexUptoSaid : Prop := fnExactInterleavedIndexUptoRow.holds Try.pinned (OpenSpec.upto fnExactInterleavedIndexSpec)

/-- 'laws.FnExactFrameDelivered', WHERE WHAT IT READS IS OF BULK AT MOST 1048576: true; the input reads as it did. -/
def fnExactFrameDeliveredUptoRow : OpenClaim := { program := "ytbepjjoajpblgaa", sum := "9fd400e1819e3da13960c6cb075ecbb73520abb7a7e768f28222a16fe35c7443", func := "loop.example/g00511/laws.FnExactFrameDelivered", spec := "fnExactFrameDelivered", apart := false, narrowed := true }
def FnExactFrameDeliveredUptoSaid : Prop := fnExactFrameDeliveredUptoRow.holds Try.pinned (OpenSpec.upto fnExactFrameDeliveredSpec)

/-- 'laws.FnExactFrameSlots', WHERE WHAT IT READS IS OF BULK AT MOST 1048576: true; the input reads as it did. -/
def fnExactFrameSlotsUptoRow : OpenClaim := { program := "ytbepjjoajpblgaa", sum := "9fd400e1819e3da13960c6cb075ecbb73520abb7a7e768f28222a16fe35c7443", func := "loop.example/g00511/laws.FnExactFrameSlots", spec := "fnExactFrameSlots", apart := false, narrowed := true }
def FnExactFrameSlotsUptoSaid : Prop := fnExactFrameSlotsUptoRow.holds Try.pinned (OpenSpec.upto fnExactFrameSlotsSpec)

/-- 'laws.FnExactExchangeSlots', WHERE WHAT IT READS IS OF BULK AT MOST 1048576: true; the input reads as it did. -/
def fnExactExchangeSlotsUptoRow : OpenClaim := { program := "ytbepjjoajpblgaa", sum := "9fd400e1819e3da13960c6cb075ecbb73520abb7a7e768f28222a16fe35c7443", func := "loop.example/g00511/laws.FnExactExchangeSlots", spec := "fnExactExchangeSlots", apart := false, narrowed := true }
def FnExactExchangeSlotsUptoSaid : Prop := fnExactExchangeSlotsUptoRow.holds Try.pinned (OpenSpec.upto fnExactExchangeSlotsSpec)

end Rows
end Go.Proofs.Ytbepjjoajpblgaa
