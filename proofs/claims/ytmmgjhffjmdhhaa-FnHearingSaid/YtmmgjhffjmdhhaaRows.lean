/-
  No cell of these rows narrows 'for every input' (looked for: loops, veiled, ifaces, maps, wideKeys, modest, calm, conditions, laid).
  DERIVED. THE GIVEN ROWS OF THIS SEAT. 12 by the template 'for every input the law returns true; each argument reads behind the call as it read before'; 0 by the template 'total and deterministic' (their statements: YtmmgjhffjmdhhaaTotals.lean).
  GIVEN WITH THE SEED: the statements are not yours to turn. If you find one false, say at which input.
  Laid BY PROGRAM, IN A SANDBOX (cutbox-rows.mjs): the forced cells as the released guide's own fill.sh prints them over the translation 17d687b10c753d5d… (all of the seat's roots in one cut). By AI agents, Wed Nov 11 2026. No macro, syntax, notation, axiom, sorry.
-/
import Derived.Test.YtmmgjhffjmdhhaaChecked
import GoSem.Claim
import GoSem.ClaimJoined
import GoSem.ClaimMapViews
import Derived.JoinedTies
import Derived.KernelRfl
namespace Go.Proofs.Ytmmgjhffjmdhhaa
/- THE CELL 'sum', in the pinned program and in every row, IS THE sha256 OF THE DUMP (.gsa) THAT YtmmgjhffjmdhhaaProg.lean LOADS. Nothing in Lean hashes anything: it is a label: what it is worth is what the hold of that sum in a sandbox is worth. -/
noncomputable def Try.pinned : Pinned := { name := "ytmmgjhffjmdhhaa", sum := "17d687b10c753d5d7db40fadf2d02b1dc7a2714236dfc6f1815bce5471d2bec1", checked := Try.checked }
namespace Rows
def none {H : Type} : Left H := { results := [], args := [] }

/-- 'laws.FnExactEqualFrames': WHATEVER THE INPUT: true; the input reads as it did. -/
def fnExactEqualFramesSpec : ChangeSpec := { name := "fnExactEqualFrames", fn := fun _ => fun
  | [d1, d2] => { results := [.lit (.bool true)], args := [d1, d2] }
  | _ => none }
def fnExactEqualFramesRow : OpenClaim := { program := "ytmmgjhffjmdhhaa", sum := "17d687b10c753d5d7db40fadf2d02b1dc7a2714236dfc6f1815bce5471d2bec1", func := "loop.example/g00511/laws.FnExactEqualFrames", spec := "fnExactEqualFrames", apart := false }
def FnExactEqualFramesSaid : Prop := fnExactEqualFramesRow.holds Try.pinned (OpenSpec.ofChange fnExactEqualFramesSpec)

/-- ITS FALSE NEIGHBOUR: 'it returns false'. Refute it at one input. -/
def fnExactEqualFramesWrong : ChangeSpec := { name := "fnExactEqualFrames", fn := fun _ => fun
  | [d1, d2] => { results := [.lit (.bool false)], args := [d1, d2] }
  | _ => none }
def FnExactEqualFramesWrongFalsely : Prop := fnExactEqualFramesRow.holds Try.pinned (OpenSpec.ofChange fnExactEqualFramesWrong)

/-- 'laws.FnExactErrorPattern': WHATEVER THE INPUT: true; the input reads as it did. -/
def fnExactErrorPatternSpec : ChangeSpec := { name := "fnExactErrorPattern", fn := fun _ => fun
  | [d1, d2, d3] => { results := [.lit (.bool true)], args := [d1, d2, d3] }
  | _ => none }
def fnExactErrorPatternRow : OpenClaim := { program := "ytmmgjhffjmdhhaa", sum := "17d687b10c753d5d7db40fadf2d02b1dc7a2714236dfc6f1815bce5471d2bec1", func := "loop.example/g00511/laws.FnExactErrorPattern", spec := "fnExactErrorPattern", apart := false }
def FnExactErrorPatternSaid : Prop := fnExactErrorPatternRow.holds Try.pinned (OpenSpec.ofChange fnExactErrorPatternSpec)

/-- ITS FALSE NEIGHBOUR: 'it returns false'. Refute it at one input. -/
def fnExactErrorPatternWrong : ChangeSpec := { name := "fnExactErrorPattern", fn := fun _ => fun
  | [d1, d2, d3] => { results := [.lit (.bool false)], args := [d1, d2, d3] }
  | _ => none }
def FnExactErrorPatternWrongFalsely : Prop := fnExactErrorPatternRow.holds Try.pinned (OpenSpec.ofChange fnExactErrorPatternWrong)

/-- 'laws.FnHearing': WHATEVER THE INPUT: true; the input reads as it did. -/
def fnHearingSpec : ChangeSpec := { name := "fnHearing", fn := fun _ => fun
  | [d] => { results := [.lit (.bool true)], args := [d] }
  | _ => none }
def fnHearingRow : OpenClaim := { program := "ytmmgjhffjmdhhaa", sum := "17d687b10c753d5d7db40fadf2d02b1dc7a2714236dfc6f1815bce5471d2bec1", func := "loop.example/g00511/laws.FnHearing", spec := "fnHearing", apart := false }
def FnHearingSaid : Prop := fnHearingRow.holds Try.pinned (OpenSpec.ofChange fnHearingSpec)

/-- ITS FALSE NEIGHBOUR: 'it returns false'. Refute it at one input. -/
def fnHearingWrong : ChangeSpec := { name := "fnHearing", fn := fun _ => fun
  | [d] => { results := [.lit (.bool false)], args := [d] }
  | _ => none }
def FnHearingWrongFalsely : Prop := fnHearingRow.holds Try.pinned (OpenSpec.ofChange fnHearingWrong)

/-- 'laws.FnExactIsValidFrame': WHATEVER THE INPUT: true; the input reads as it did. -/
def fnExactIsValidFrameSpec : ChangeSpec := { name := "fnExactIsValidFrame", fn := fun _ => fun
  | [d] => { results := [.lit (.bool true)], args := [d] }
  | _ => none }
def fnExactIsValidFrameRow : OpenClaim := { program := "ytmmgjhffjmdhhaa", sum := "17d687b10c753d5d7db40fadf2d02b1dc7a2714236dfc6f1815bce5471d2bec1", func := "loop.example/g00511/laws.FnExactIsValidFrame", spec := "fnExactIsValidFrame", apart := false }
def FnExactIsValidFrameSaid : Prop := fnExactIsValidFrameRow.holds Try.pinned (OpenSpec.ofChange fnExactIsValidFrameSpec)

/-- ITS FALSE NEIGHBOUR: 'it returns false'. Refute it at one input. -/
def fnExactIsValidFrameWrong : ChangeSpec := { name := "fnExactIsValidFrame", fn := fun _ => fun
  | [d] => { results := [.lit (.bool false)], args := [d] }
  | _ => none }
def FnExactIsValidFrameWrongFalsely : Prop := fnExactIsValidFrameRow.holds Try.pinned (OpenSpec.ofChange fnExactIsValidFrameWrong)

/-- 'laws.FnExactConvolutionalEncode': WHATEVER THE INPUT: true; the input reads as it did. -/
def fnExactConvolutionalEncodeSpec : ChangeSpec := { name := "fnExactConvolutionalEncode", fn := fun _ => fun
  | [d] => { results := [.lit (.bool true)], args := [d] }
  | _ => none }
def fnExactConvolutionalEncodeRow : OpenClaim := { program := "ytmmgjhffjmdhhaa", sum := "17d687b10c753d5d7db40fadf2d02b1dc7a2714236dfc6f1815bce5471d2bec1", func := "loop.example/g00511/laws.FnExactConvolutionalEncode", spec := "fnExactConvolutionalEncode", apart := false }
def FnExactConvolutionalEncodeSaid : Prop := fnExactConvolutionalEncodeRow.holds Try.pinned (OpenSpec.ofChange fnExactConvolutionalEncodeSpec)

/-- ITS FALSE NEIGHBOUR: 'it returns false'. Refute it at one input. -/
def fnExactConvolutionalEncodeWrong : ChangeSpec := { name := "fnExactConvolutionalEncode", fn := fun _ => fun
  | [d] => { results := [.lit (.bool false)], args := [d] }
  | _ => none }
def FnExactConvolutionalEncodeWrongFalsely : Prop := fnExactConvolutionalEncodeRow.holds Try.pinned (OpenSpec.ofChange fnExactConvolutionalEncodeWrong)

/-- 'laws.FnPuncturing': WHATEVER THE INPUT: true; the input reads as it did. -/
def fnPuncturingSpec : ChangeSpec := { name := "fnPuncturing", fn := fun _ => fun
  | [d] => { results := [.lit (.bool true)], args := [d] }
  | _ => none }
def fnPuncturingRow : OpenClaim := { program := "ytmmgjhffjmdhhaa", sum := "17d687b10c753d5d7db40fadf2d02b1dc7a2714236dfc6f1815bce5471d2bec1", func := "loop.example/g00511/laws.FnPuncturing", spec := "fnPuncturing", apart := false }
def FnPuncturingSaid : Prop := fnPuncturingRow.holds Try.pinned (OpenSpec.ofChange fnPuncturingSpec)

/-- ITS FALSE NEIGHBOUR: 'it returns false'. Refute it at one input. -/
def fnPuncturingWrong : ChangeSpec := { name := "fnPuncturing", fn := fun _ => fun
  | [d] => { results := [.lit (.bool false)], args := [d] }
  | _ => none }
def FnPuncturingWrongFalsely : Prop := fnPuncturingRow.holds Try.pinned (OpenSpec.ofChange fnPuncturingWrong)

/-- 'laws.FnExactDecodeHeader': WHATEVER THE INPUT: true; the input reads as it did. -/
def fnExactDecodeHeaderSpec : ChangeSpec := { name := "fnExactDecodeHeader", fn := fun _ => fun
  | [d] => { results := [.lit (.bool true)], args := [d] }
  | _ => none }
def fnExactDecodeHeaderRow : OpenClaim := { program := "ytmmgjhffjmdhhaa", sum := "17d687b10c753d5d7db40fadf2d02b1dc7a2714236dfc6f1815bce5471d2bec1", func := "loop.example/g00511/laws.FnExactDecodeHeader", spec := "fnExactDecodeHeader", apart := false }
def FnExactDecodeHeaderSaid : Prop := fnExactDecodeHeaderRow.holds Try.pinned (OpenSpec.ofChange fnExactDecodeHeaderSpec)

/-- ITS FALSE NEIGHBOUR: 'it returns false'. Refute it at one input. -/
def fnExactDecodeHeaderWrong : ChangeSpec := { name := "fnExactDecodeHeader", fn := fun _ => fun
  | [d] => { results := [.lit (.bool false)], args := [d] }
  | _ => none }
def FnExactDecodeHeaderWrongFalsely : Prop := fnExactDecodeHeaderRow.holds Try.pinned (OpenSpec.ofChange fnExactDecodeHeaderWrong)

/-- 'laws.FnConvolution': WHATEVER THE INPUT: true; the input reads as it did. -/
def fnConvolutionSpec : ChangeSpec := { name := "fnConvolution", fn := fun _ => fun
  | [d] => { results := [.lit (.bool true)], args := [d] }
  | _ => none }
def fnConvolutionRow : OpenClaim := { program := "ytmmgjhffjmdhhaa", sum := "17d687b10c753d5d7db40fadf2d02b1dc7a2714236dfc6f1815bce5471d2bec1", func := "loop.example/g00511/laws.FnConvolution", spec := "fnConvolution", apart := false }
def FnConvolutionSaid : Prop := fnConvolutionRow.holds Try.pinned (OpenSpec.ofChange fnConvolutionSpec)

/-- ITS FALSE NEIGHBOUR: 'it returns false'. Refute it at one input. -/
def fnConvolutionWrong : ChangeSpec := { name := "fnConvolution", fn := fun _ => fun
  | [d] => { results := [.lit (.bool false)], args := [d] }
  | _ => none }
def FnConvolutionWrongFalsely : Prop := fnConvolutionRow.holds Try.pinned (OpenSpec.ofChange fnConvolutionWrong)

/-- 'laws.FnHeaderErrors': WHATEVER THE INPUT: true; the input reads as it did. -/
def fnHeaderErrorsSpec : ChangeSpec := { name := "fnHeaderErrors", fn := fun _ => fun
  | [d] => { results := [.lit (.bool true)], args := [d] }
  | _ => none }
def fnHeaderErrorsRow : OpenClaim := { program := "ytmmgjhffjmdhhaa", sum := "17d687b10c753d5d7db40fadf2d02b1dc7a2714236dfc6f1815bce5471d2bec1", func := "loop.example/g00511/laws.FnHeaderErrors", spec := "fnHeaderErrors", apart := false }
def FnHeaderErrorsSaid : Prop := fnHeaderErrorsRow.holds Try.pinned (OpenSpec.ofChange fnHeaderErrorsSpec)

/-- ITS FALSE NEIGHBOUR: 'it returns false'. Refute it at one input. -/
def fnHeaderErrorsWrong : ChangeSpec := { name := "fnHeaderErrors", fn := fun _ => fun
  | [d] => { results := [.lit (.bool false)], args := [d] }
  | _ => none }
def FnHeaderErrorsWrongFalsely : Prop := fnHeaderErrorsRow.holds Try.pinned (OpenSpec.ofChange fnHeaderErrorsWrong)

/-- 'laws.FnExactPathDistance': WHATEVER THE INPUT: true; the input reads as it did. -/
def fnExactPathDistanceSpec : ChangeSpec := { name := "fnExactPathDistance", fn := fun _ => fun
  | [d1, d2] => { results := [.lit (.bool true)], args := [d1, d2] }
  | _ => none }
def fnExactPathDistanceRow : OpenClaim := { program := "ytmmgjhffjmdhhaa", sum := "17d687b10c753d5d7db40fadf2d02b1dc7a2714236dfc6f1815bce5471d2bec1", func := "loop.example/g00511/laws.FnExactPathDistance", spec := "fnExactPathDistance", apart := false }
def FnExactPathDistanceSaid : Prop := fnExactPathDistanceRow.holds Try.pinned (OpenSpec.ofChange fnExactPathDistanceSpec)

/-- ITS FALSE NEIGHBOUR: 'it returns false'. Refute it at one input. -/
def fnExactPathDistanceWrong : ChangeSpec := { name := "fnExactPathDistance", fn := fun _ => fun
  | [d1, d2] => { results := [.lit (.bool false)], args := [d1, d2] }
  | _ => none }
def FnExactPathDistanceWrongFalsely : Prop := fnExactPathDistanceRow.holds Try.pinned (OpenSpec.ofChange fnExactPathDistanceWrong)

/-- 'laws.FnReplies': WHATEVER THE INPUT: true; the input reads as it did. -/
def fnRepliesSpec : ChangeSpec := { name := "fnReplies", fn := fun _ => fun
  | [d] => { results := [.lit (.bool true)], args := [d] }
  | _ => none }
def fnRepliesRow : OpenClaim := { program := "ytmmgjhffjmdhhaa", sum := "17d687b10c753d5d7db40fadf2d02b1dc7a2714236dfc6f1815bce5471d2bec1", func := "loop.example/g00511/laws.FnReplies", spec := "fnReplies", apart := false }
def FnRepliesSaid : Prop := fnRepliesRow.holds Try.pinned (OpenSpec.ofChange fnRepliesSpec)

/-- ITS FALSE NEIGHBOUR: 'it returns false'. Refute it at one input. -/
def fnRepliesWrong : ChangeSpec := { name := "fnReplies", fn := fun _ => fun
  | [d] => { results := [.lit (.bool false)], args := [d] }
  | _ => none }
def FnRepliesWrongFalsely : Prop := fnRepliesRow.holds Try.pinned (OpenSpec.ofChange fnRepliesWrong)

/-- 'laws.FnExactReplyTo': WHATEVER THE INPUT: true; the input reads as it did. -/
def fnExactReplyToSpec : ChangeSpec := { name := "fnExactReplyTo", fn := fun _ => fun
  | [d] => { results := [.lit (.bool true)], args := [d] }
  | _ => none }
def fnExactReplyToRow : OpenClaim := { program := "ytmmgjhffjmdhhaa", sum := "17d687b10c753d5d7db40fadf2d02b1dc7a2714236dfc6f1815bce5471d2bec1", func := "loop.example/g00511/laws.FnExactReplyTo", spec := "fnExactReplyTo", apart := false }
def FnExactReplyToSaid : Prop := fnExactReplyToRow.holds Try.pinned (OpenSpec.ofChange fnExactReplyToSpec)

/-- ITS FALSE NEIGHBOUR: 'it returns false'. Refute it at one input. -/
def fnExactReplyToWrong : ChangeSpec := { name := "fnExactReplyTo", fn := fun _ => fun
  | [d] => { results := [.lit (.bool false)], args := [d] }
  | _ => none }
def FnExactReplyToWrongFalsely : Prop := fnExactReplyToRow.holds Try.pinned (OpenSpec.ofChange fnExactReplyToWrong)

/- THE SECOND FORM. 'bulk': how many values and letters a reading holds, each counted each time it is reached (what is shared counts as often as it is met; a slice's spare places count too). A statement '..UptoSaid' is the law's where the arguments, and the package variables that the reading takes, are together of bulk at most 1048576: NARROWER than '..Said'. Prove '..Said' where nothing that the law and all that it calls make is longer than what came in: it says more and counts as full. Else prove '..UptoSaid'. A law counts once. -/
mutual
def uptoBulk {H : Type} : DataW H → Nat
  | .lit (.string bytes) => bytes.length + 1
  | .lit _ => 1
  | .nil => 1
  | .ptr d => uptoBulk d + 1
  | .slice elems spare => uptoBulkAll elems + uptoBulkAll spare + 1
  | .agg parts => uptoBulkAll parts + 1
  | .iface _ d => uptoBulk d + 1
  | .map entries => uptoBulkEntries entries + 1
  | .held _ => 1
def uptoBulkAll {H : Type} : List (DataW H) → Nat
  | [] => 0
  | d :: r => uptoBulk d + uptoBulkAll r
def uptoBulkEntries {H : Type} : List (Lit × DataW H) → Nat
  | [] => 0
  | x :: r => uptoBulkEntry x + uptoBulkEntries r
def uptoBulkEntry {H : Type} : Lit × DataW H → Nat
  | (.string bytes, d) => bytes.length + uptoBulk d + 1
  | (_, d) => uptoBulk d + 1
 end
def uptoSmall : (H : Type) → List (DataW H) → Bool := fun _ ds => decide (uptoBulkAll ds ≤ 1048576)
def OpenSpec.upto (s : _root_.Go.ChangeSpec) : _root_.Go.OpenSpec := { _root_.Go.OpenSpec.ofChange s with cond := some uptoSmall }

/-- 'laws.FnExactEqualFrames', WHERE WHAT IT READS IS OF BULK AT MOST 1048576: true; the input reads as it did. -/
def fnExactEqualFramesUptoRow : OpenClaim := { program := "ytmmgjhffjmdhhaa", sum := "17d687b10c753d5d7db40fadf2d02b1dc7a2714236dfc6f1815bce5471d2bec1", func := "loop.example/g00511/laws.FnExactEqualFrames", spec := "fnExactEqualFrames", apart := false, narrowed := true }
def FnExactEqualFramesUptoSaid : Prop := fnExactEqualFramesUptoRow.holds Try.pinned (OpenSpec.upto fnExactEqualFramesSpec)

/-- 'laws.FnExactErrorPattern', WHERE WHAT IT READS IS OF BULK AT MOST 1048576: true; the input reads as it did. -/
def fnExactErrorPatternUptoRow : OpenClaim := { program := "ytmmgjhffjmdhhaa", sum := "17d687b10c753d5d7db40fadf2d02b1dc7a2714236dfc6f1815bce5471d2bec1", func := "loop.example/g00511/laws.FnExactErrorPattern", spec := "fnExactErrorPattern", apart := false, narrowed := true }
def FnExactErrorPatternUptoSaid : Prop := fnExactErrorPatternUptoRow.holds Try.pinned (OpenSpec.upto fnExactErrorPatternSpec)

/-- 'laws.FnHearing', WHERE WHAT IT READS IS OF BULK AT MOST 1048576: true; the input reads as it did. -/
def fnHearingUptoRow : OpenClaim := { program := "ytmmgjhffjmdhhaa", sum := "17d687b10c753d5d7db40fadf2d02b1dc7a2714236dfc6f1815bce5471d2bec1", func := "loop.example/g00511/laws.FnHearing", spec := "fnHearing", apart := false, narrowed := true }
def FnHearingUptoSaid : Prop := fnHearingUptoRow.holds Try.pinned (OpenSpec.upto fnHearingSpec)

/-- 'laws.FnExactIsValidFrame', WHERE WHAT IT READS IS OF BULK AT MOST 1048576: true; the input reads as it did. -/
def fnExactIsValidFrameUptoRow : OpenClaim := { program := "ytmmgjhffjmdhhaa", sum := "17d687b10c753d5d7db40fadf2d02b1dc7a2714236dfc6f1815bce5471d2bec1", func := "loop.example/g00511/laws.FnExactIsValidFrame", spec := "fnExactIsValidFrame", apart := false, narrowed := true }
def FnExactIsValidFrameUptoSaid : Prop := fnExactIsValidFrameUptoRow.holds Try.pinned (OpenSpec.upto fnExactIsValidFrameSpec)

/-- 'laws.FnExactConvolutionalEncode', WHERE WHAT IT READS IS OF BULK AT MOST 1048576: true; the input reads as it did. -/
def fnExactConvolutionalEncodeUptoRow : OpenClaim := { program := "ytmmgjhffjmdhhaa", sum := "17d687b10c753d5d7db40fadf2d02b1dc7a2714236dfc6f1815bce5471d2bec1", func := "loop.example/g00511/laws.FnExactConvolutionalEncode", spec := "fnExactConvolutionalEncode", apart := false, narrowed := true }
def FnExactConvolutionalEncodeUptoSaid : Prop := fnExactConvolutionalEncodeUptoRow.holds Try.pinned (OpenSpec.upto fnExactConvolutionalEncodeSpec)

/-- 'laws.FnPuncturing', WHERE WHAT IT READS IS OF BULK AT MOST 1048576: true; the input reads as it did. -/
def fnPuncturingUptoRow : OpenClaim := { program := "ytmmgjhffjmdhhaa", sum := "17d687b10c753d5d7db40fadf2d02b1dc7a2714236dfc6f1815bce5471d2bec1", func := "loop.example/g00511/laws.FnPuncturing", spec := "fnPuncturing", apart := false, narrowed := true }
def FnPuncturingUptoSaid : Prop := fnPuncturingUptoRow.holds Try.pinned (OpenSpec.upto fnPuncturingSpec)

/-- 'laws.FnExactDecodeHeader', WHERE WHAT IT READS IS OF BULK AT MOST 1048576: true; the input reads as it did. -/
def fnExactDecodeHeaderUptoRow : OpenClaim := { program := "ytmmgjhffjmdhhaa", sum := "17d687b10c753d5d7db40fadf2d02b1dc7a2714236dfc6f1815bce5471d2bec1", func := "loop.example/g00511/laws.FnExactDecodeHeader", spec := "fnExactDecodeHeader", apart := false, narrowed := true }
def FnExactDecodeHeaderUptoSaid : Prop := fnExactDecodeHeaderUptoRow.holds Try.pinned (OpenSpec.upto fnExactDecodeHeaderSpec)

/-- 'laws.FnConvolution', WHERE WHAT IT READS IS OF BULK AT MOST 1048576: true; the input reads as it did. -/
def fnConvolutionUptoRow : OpenClaim := { program := "ytmmgjhffjmdhhaa", sum := "17d687b10c753d5d7db40fadf2d02b1dc7a2714236dfc6f1815bce5471d2bec1", func := "loop.example/g00511/laws.FnConvolution", spec := "fnConvolution", apart := false, narrowed := true }
def FnConvolutionUptoSaid : Prop := fnConvolutionUptoRow.holds Try.pinned (OpenSpec.upto fnConvolutionSpec)

/-- 'laws.FnHeaderErrors', WHERE WHAT IT READS IS OF BULK AT MOST 1048576: true; the input reads as it did. -/
def fnHeaderErrorsUptoRow : OpenClaim := { program := "ytmmgjhffjmdhhaa", sum := "17d687b10c753d5d7db40fadf2d02b1dc7a2714236dfc6f1815bce5471d2bec1", func := "loop.example/g00511/laws.FnHeaderErrors", spec := "fnHeaderErrors", apart := false, narrowed := true }
def FnHeaderErrorsUptoSaid : Prop := fnHeaderErrorsUptoRow.holds Try.pinned (OpenSpec.upto fnHeaderErrorsSpec)

/-- 'laws.FnExactPathDistance', WHERE WHAT IT READS IS OF BULK AT MOST 1048576: true; the input reads as it did. -/
def fnExactPathDistanceUptoRow : OpenClaim := { program := "ytmmgjhffjmdhhaa", sum := "17d687b10c753d5d7db40fadf2d02b1dc7a2714236dfc6f1815bce5471d2bec1", func := "loop.example/g00511/laws.FnExactPathDistance", spec := "fnExactPathDistance", apart := false, narrowed := true }
def FnExactPathDistanceUptoSaid : Prop := fnExactPathDistanceUptoRow.holds Try.pinned (OpenSpec.upto fnExactPathDistanceSpec)

/-- 'laws.FnReplies', WHERE WHAT IT READS IS OF BULK AT MOST 1048576: true; the input reads as it did. -/
def fnRepliesUptoRow : OpenClaim := { program := "ytmmgjhffjmdhhaa", sum := "17d687b10c753d5d7db40fadf2d02b1dc7a2714236dfc6f1815bce5471d2bec1", func := "loop.example/g00511/laws.FnReplies", spec := "fnReplies", apart := false, narrowed := true }
def FnRepliesUptoSaid : Prop := fnRepliesUptoRow.holds Try.pinned (OpenSpec.upto fnRepliesSpec)

/-- 'laws.FnExactReplyTo', WHERE WHAT IT READS IS OF BULK AT MOST 1048576: true; the input reads as it did. -/
def fnExactReplyToUptoRow : OpenClaim := { program := "ytmmgjhffjmdhhaa", sum := "17d687b10c753d5d7db40fadf2d02b1dc7a2714236dfc6f1815bce5471d2bec1", func := "loop.example/g00511/laws.FnExactReplyTo", spec := "fnExactReplyTo", apart := false, narrowed := true }
def FnExactReplyToUptoSaid : Prop := fnExactReplyToUptoRow.holds Try.pinned (OpenSpec.upto fnExactReplyToSpec)

end Rows
end Go.Proofs.Ytmmgjhffjmdhhaa
